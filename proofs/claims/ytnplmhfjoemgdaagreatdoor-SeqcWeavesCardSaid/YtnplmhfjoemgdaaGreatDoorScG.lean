/- The walks: store buffering again; alembiclaw18.awake, place, step. -/
import Derived.Test.YtnplmhfjoemgdaaGreatDoorScF
set_option linter.unusedSimpArgs false
set_option linter.unusedVariables false
namespace Go.Proofs.YtnplmhfjoemgdaaGreatDoor
open Go Go.Eng Go.Tc Go.Rl Go.Vw
attribute [local irreducible] wpList Code.wp bodyPost Exit.then Exit.inBlock Calls
def sbO : List Nat := [0, 2, 1, 3]
theorem sb_ok : trOk bufT = true := by kernel_rfl
theorem sb_ord : IsOrd bufT.evs.length sbO := ⟨by decide, by decide, rfl⟩
theorem sb_keeps : ∀ a b, a < bufT.evs.length → b < bufT.evs.length → poP bufT a b = true → posN sbO a < posN sbO b := fun a b ha hb =>
  (by decide +kernel : ∀ a, a < 4 → ∀ b, b < 4 → poP bufT a b = true → posN sbO a < posN sbO b) a ha b hb
theorem sb_sc : scB bufT bufC = false := by
  unfold scB; rw [if_pos buf1]; kernel_rfl
theorem sb_whyE : swhyE bufT bufC = 0 := by
  unfold swhyE; rw [if_pos buf1, if_neg (by rw [sb_sc]; simp)]; kernel_rfl
theorem sb_whyL : swhyL bufT bufC = [⟨0, 1, 1⟩, ⟨1, 2, 4⟩, ⟨2, 3, 1⟩, ⟨3, 0, 4⟩] := by
  unfold swhyL; rw [if_pos buf1, if_neg (by rw [sb_sc]; simp)]; kernel_rfl
theorem sb_rf : (candO bufT sbO).rf = [-1, 2, -1, 0] := by kernel_rfl
theorem sb_ordL : sordL bufT (candO bufT sbO) = [0, 2, 1, 3] := by
  unfold sordL; rw [if_pos (candO_sc sb_ok sb_ord sb_keeps)]; kernel_rfl
theorem sb_ordE : sordE bufT (candO bufT sbO) = 0 := by
  unfold sordE; rw [if_pos (candO_ok sb_ok sb_ord), if_pos (candO_sc sb_ok sb_ord sb_keeps)]

set_option maxHeartbeats 1600000 in
theorem sb_spec (w : World) : Pur Tryz.prog 62 [] w fun m v w' => ∃ lv iv ev bv av dv cv tv nv, v = .agg #[lv, iv, ev, bv, av, dv, cv, tv, nv] ∧ TrIn (Fr m) w' lv iv ev bv av dv cv tv nv bufT := by
  refine enter_pur Tryz.func62 Tryz.ntmps62 rfl rfl ?_
  refine gO_ ?_
  refine wl_fx (fx_alloc (next := ?_)); intro br0
  refine gO_ ?_
  refine wl_fx (fx_lit (next := ?_))
  intro v1 hv1
  refine gO_ ?_
  refine wl_fx (fx_lit (next := ?_))
  intro v2 hv2
  refine gO_ ?_
  refine wl_fx (fx_lit (next := ?_))
  intro v7 hv7
  refine gO_ ?_
  refine wl_fx (fx_store_box (i := 3) (hi := rfl) (next := ?_))
  refine gO_ ?_
  refine pur_ret Tryz.results62 (.cellN inferInstance rfl (.tail _ (.tail _ (.tail _ (.head _)))) rfl .nil) (.head _) fun w' hw => ?_
  exact ⟨_, _, _, _, _, _, _, _, _, rfl, hw.give (.tail _ (.tail _ (.head _))) (.head _), hw.give (.tail _ (.head _)) (.head _), hw.give (.head _) (.head _), sl_nil _ _, sl_nil _ _, sl_nil _ _, sl_nil _ _, sl_nil _ _, sl_nil _ _⟩

set_option maxHeartbeats 1600000 in
theorem both_spec (w : World) : Pur Tryz.prog 63 [] w fun m v w' => ∃ rv qv, v = .agg #[rv, qv] ∧ CdIn (Fr m) w' rv qv bufC := by
  refine enter_pur Tryz.func63 Tryz.ntmps63 rfl rfl ?_
  refine gO_ ?_
  refine wl_fx (fx_alloc (next := ?_)); intro br0
  refine gO_ ?_
  refine wl_fx (fx_lit (next := ?_))
  intro v1 hv1
  refine gO_ ?_
  refine wl_fx (fx_lit (next := ?_))
  intro v2 hv2
  refine gO_ ?_
  refine wl_fx (fx_lit (next := ?_))
  intro v3 hv3
  refine gO_ ?_
  refine wl_fx (fx_lit (next := ?_))
  intro v4 hv4
  refine gO_ ?_
  refine wl_fx (fx_store_box (i := 4) (hi := rfl) (next := ?_))
  refine gO_ ?_
  refine pur_ret Tryz.results63 (.cellN inferInstance rfl (.tail _ (.tail _ (.tail _ (.tail _ (.head _))))) rfl .nil) (.head _) fun w' hw => ?_
  exact ⟨v1, v4, rfl, hw.give (.tail _ (.tail _ (.tail _ (.head _)))) (.head _), ⟨[v2, v3], hw.give (.head _) (.head _), rfl, fun i hi => (by
      obtain rfl | rfl : i = 0 ∨ i = 1 := by have : i < 2 := hi; omega
      · exact hw.give (.tail _ (.tail _ (.head _))) (.head _)
      · exact hw.give (.tail _ (.head _)) (.head _))⟩, fun i hi => (by
      obtain rfl | rfl : i = 0 ∨ i = 1 := by have : i < 2 := hi; omega
      · decide
      · decide)⟩

set_option maxRecDepth 8000 in
set_option maxHeartbeats 12800000 in
theorem sawake_spec (w : World) (hT : Tab w) : Pur Tryz.prog 22 [] w fun _ v _ => v = .bool true := by
  refine enter_pur Tryz.func22 Tryz.ntmps22 rfl rfl ?_
  refine gO_ ?_
  refine wl_fx (fx_call (spec := fun w' hw => sb_spec w') (next := ?_))
  rintro v n1 w1 ⟨a1, a2, a3, a4, a5, a6, a7, a8, a9, rfl, hA⟩ hn1
  refine gO_ ?_
  refine wl_fx (fx_call (spec := fun w' hw => both_spec w') (next := ?_))
  rintro v n2 w2 ⟨ra, qa, rfl, hCa⟩ hn2
  refine gO_ ?_
  refine wl_fx (fx_call (spec := fun w' hw => scons_spec ra qa bufC w' (hA.now hw (.tail _ (.head _))) (hCa.now hw (.head _)) (hT.now hw (.tail _ (.tail _ (.head _))))) (next := ?_))
  rintro v n3 w3 rfl hn3
  rw [sb_sc, buf1]
  refine gO_ ?_
  refine wl_fx (fx_call (spec := fun w' hw => sb_spec w') (next := ?_))
  rintro v n4 w4 ⟨b1, b2, b3, b4, b5, b6, b7, b8, b9, rfl, hB⟩ hn4
  refine gO_ ?_
  refine wl_fx (fx_call (spec := fun w' hw => both_spec w') (next := ?_))
  rintro v n5 w5 ⟨rb, qb, rfl, hCb⟩ hn5
  refine gO_ ?_
  refine wl_fx (fx_call_mk (spec := fun w' hw => swhy_spec rb qb bufC w' (hB.now hw (.tail _ (.head _))) (hCb.now hw (.head _)) (hT.now hw (.tail _ (.tail _ (.tail _ (.tail _ (.tail _ (.head _)))))))) (next := ?_))
  rintro v n6 es w6 ⟨av', hav, rfl, rfl⟩
  rw [sb_whyE, sb_whyL]
  generalize hxs : ([⟨0, 1, 1⟩, ⟨1, 2, 4⟩, ⟨2, 3, 1⟩, ⟨3, 0, 4⟩] : List Arc) = xs at *
  have hxl : xs.length = 4 := by rw [← hxs]; rfl
  have hx1 : xs.getD 1 default = ⟨1, 2, 4⟩ := by rw [← hxs]; rfl
  refine gO_ ?_
  refine wl_fx (fx_call (spec := fun w' hw => sb_spec w') (next := ?_))
  rintro v n7 w7 ⟨c1, c2, c3, c4, c5, c6, c7, c8, c9, rfl, hC⟩ hn7
  refine gO_ ?_
  refine wl_fx (fx_lit (next := ?_))
  intro v25 hv25
  refine gO_ ?_
  refine wl_fx (fx_call (spec := fun w' hw => scand_ok v25 sbO w' (hC.now hw (.head _)) (hw.lend (.head _)) sb_ok sb_ord sb_keeps) (next := ?_))
  rintro v n8 w8 ⟨rc, qc, rfl, hCc⟩ hn8
  have hsrc := hCc.rf.sv
  have hsqc := hCc.cosv
  have hR := hCc.rf
  rw [sb_rf] at hR
  generalize hys : ([-1, 2, -1, 0] : List Int) = ys at hR
  have hyl : ys.length = 4 := by rw [← hys]; rfl
  have hy1 : ys.getD 1 default = 2 := by rw [← hys]; rfl
  have hy3 : ys.getD 3 default = 0 := by rw [← hys]; rfl
  refine gO_ ?_
  refine wl_fx (fx_alloc (next := ?_)); intro bc
  refine gO_ ?_
  refine wl_fx (fx_store_box (i := 0) (hi := rfl) (next := ?_))
  refine gO_ ?_
  refine wc_draw [1, 0, 2, 3, 4, 5, 6, 7] mixed ?_
  refine kG_ ?_
  refine kg_f _ (h := fx_call (spec := fun w' hw => sb_spec w') (next := ?_)) (hSS := fun _ h => h)
  rintro v n9 w9 ⟨d1, d2, d3, d4, d5, d6, d7, d8, d9, rfl, hD⟩ hn9
  refine kp_S ?_ (fun _ h => h.tailB)
  refine kG_ ?_
  refine kg_f _ (h := fx_call (spec := fun w' hw => scons_spec rc qc (candO bufT sbO) w' (hD.now hw (.head _)) (hCc.now hw (.tail _ (.head _))) (hT.now hw (.tail _ (.tail _ (.tail _ (.tail _ (.tail _ (.tail _ (.tail _ (.tail _ (.tail _ (.head _)))))))))))) (next := ?_)) (hSS := fun _ h => h)
  rintro v n10 w10 rfl hn10
  rw [candO_sc sb_ok sb_ord sb_keeps, candO_ok sb_ok sb_ord]
  refine kp_S ?_ (fun _ h => h.tailB.tailB)
  refine kG_ ?_
  refine gO_ ?_
  refine wc_draw [1, 0, 2, 3, 4, 5, 6, 7] mixed ?_
  refine kG_ ?_
  refine kg_f _ (h := fx_call (spec := fun w' hw => sb_spec w') (next := ?_)) (hSS := fun _ h => h)
  rintro v n11 w11 ⟨e1, e2, e3, e4, e5, e6, e7, e8, e9, rfl, hE⟩ hn11
  refine kp_S ?_ (fun _ h => h.tailB)
  refine kG_ ?_
  refine kg_f _ (h := fx_call_mk (spec := fun w' hw => sord_spec rc qc (candO bufT sbO) w' (hE.now hw (.head _)) (hCc.now hw (.tail _ (.tail _ (.tail _ (.head _))))) (hT.now hw (.tail _ (.tail _ (.tail _ (.tail _ (.tail _ (.tail _ (.tail _ (.tail _ (.tail _ (.tail _ (.tail _ (.head _)))))))))))))) (next := ?_)) (hSS := fun _ h => h)
  rintro v n12 es w12 ⟨pv, hpv, rfl, rfl⟩
  rw [sb_ordE, sb_ordL]
  refine kp_S ?_ (fun _ h => h.tailB.tailB.tail)
  refine kG_ ?_
  refine gO_ ?_
  refine wl_ag (v := .bool (dc (xs.getD 1 default = ⟨1, 2, 4⟩))) (h := ?_) (next := ?_)
  · exact qy_eqS (p := xs.getD 1 default) (q := ⟨1, 2, 4⟩)
  refine gO_ ?_
  refine wl_gyes (by rfl) (by rfl) (by simp only [dc_eq, hxl, hx1, hyl, show (1 : Int).toNat = 1 from rfl, show (3 : Int).toNat = 3 from rfl, hy1, hy3]; rfl) ?_
  refine wl_fx (fx_lit (next := ?_))
  intro v100 hv100
  refine gO_ ?_
  refine wl_gx (h := gx_call (spec := fun _ w' hw => alike_spec pv v100 [0, 2, 1, 3] [0, 2, 1, 3] w' (hw.lend (.tail _ (.head _))) (hw.lend (.head _)))) (next := ?_)
  refine gO_ ?_
  refine pur_ret Tryz.results22 (.tmp rfl .nil) (.tail _ (.tail _ (.tail _ (.tail _ (.tail _ (.tail _ (.tail _ (.tail _ (.tail _ (.tail _ (.tail _ (.tail _ (.head _))))))))))))) fun w' hw => ?_
  simp only [dc_eq, hxl, hx1, hyl, show (1 : Int).toNat = 1 from rfl, show (3 : Int).toNat = 3 from rfl, hy1, hy3]
  rfl

set_option maxHeartbeats 1600000 in
theorem place18_spec (sv : Value) (l : List Int) (x : Int) (w : World) (hs : Sl All w Eng.encI 1 sv l) :
    Pur Tryz.prog 70 [sv, .int .i64 x] w fun _ v _ => v = .int .i64 (ixI l x) := by
  have hl := hs.le
  have hsv := hs.sv
  refine enter_pur Tryz.func70 Tryz.ntmps70 rfl rfl ?_
  refine gO_ ?_
  refine wc_loop (fun s : Nat => s ≤ l.length ∧ ∀ j, j < s → l.getD j default ≠ x) (fun s => [(5, true, .int .i64 s), (1, true, .int .i64 x), (0, true, sv)])
    (fun s => Mem [(w, All)] []) (fun s => l.length - s) 0 ⟨Nat.zero_le _, fun j hj => absurd hj (Nat.not_lt_zero _)⟩ ⟨rfl, rfl, rfl, trivial⟩ (fun _ h => h) ?_
  rintro i ⟨hi, hno⟩
  refine gO_ ?_
  refine wc_cond rfl (fun h2 => ?_) (fun h2 => ?_)
  · have h2' : i < l.length := by rw [dc_true] at h2; omega
    refine gO_ ?_
    refine wc_cond rfl (fun h3 => ?_) (fun h3 => ?_)
    · rw [dc_true] at h3
      refine gO_ ?_
      refine pur_ret Tryz.results70 (.tmp rfl .nil) (.head _) fun w' hw => ?_
      have hm : x ∈ l := mem_getD.2 ⟨i, h2', h3⟩
      unfold ixI
      rw [if_pos hm, idxOf_at h2' h3 hno]
      rfl
    · rw [dc_false] at h3
      refine gO_ ?_
      refine po_loop (i + 1) ⟨by omega, fun j hj => ?_⟩ (by omega) ⟨rfl, rfl, rfl, trivial⟩ (fun _ h => h)
      by_cases q : j < i
      · exact hno j q
      · obtain rfl : j = i := by omega
        exact h3
  · rw [dc_false] at h2
    refine gO_ ?_
    refine pur_ret Tryz.results70 (.tmp rfl .nil) (.head _) fun w' hw => ?_
    have hm : ¬ x ∈ l := fun hm => by
      obtain ⟨j, hj, e⟩ := mem_getD.1 hm
      exact hno j (by omega) e
    unfold ixI
    rw [if_neg hm]
    rfl

/-- a step of its kind -/
def StepIs (t : Tr) (c : Cd) (x y : Nat) (k : Int) : Prop := (k = 1 ∧ poP t x y = true) ∨ (k = 2 ∧ rfP t c x y = true) ∨ (k = 3 ∧ coP t c x y = true) ∨ (k = 4 ∧ frP t c x y = true)

set_option maxRecDepth 8000 in
set_option maxHeartbeats 12800000 in
theorem step_ok {lv iv ev bv av dv cv tv nv : Value} {t : Tr} (fv ov : Value) (c : Cd) (x y : Nat) (k : Int) (w : World) (h : TrIn All w lv iv ev bv av dv cv tv nv t) (hc : CdIn All w fv ov c) (hz : cdE t c = 0) (hx : x < t.evs.length) (hy : y < t.evs.length) (hk : StepIs t c x y k) :
    Pur Tryz.prog 29 [.agg #[lv, iv, ev, bv, av, dv, cv, tv, nv], .agg #[fv, ov], .agg #[.int .i64 x, .int .i64 y, .int .i64 k]] w fun _ v _ => v = .bool true := by
  have hfs := hc.rf.sv
  have hos := hc.cosv
  have hF := hc.rf
  obtain ⟨ht, hcb⟩ := cdE_ok hz
  obtain ⟨ovs, hov, hol, hoi⟩ := hc.co
  have hovl := hov.le
  have hrl := ((candB_iff t c).1 hcb).1
  have hcl := ((candB_iff t c).1 hcb).2.1
  have hE := h.evs; have hEl := hE.le
  have hyr : y < c.rf.length := by omega
  have hxr : x < c.rf.length := by omega
  obtain ⟨p, hp, hpl⟩ := loc_nat ht hx
  have hcp := col_eq (c := c) hp
  have hLp := (hoi p (by omega))
  have hp2 : (t.evs.getD x default).loc = (p : Int) := hp
  have hp3 : p < ovs.length := by omega
  have hLl := hLp.le
  refine enter_pur Tryz.func29 Tryz.ntmps29 rfl rfl ?_
  refine gO_ ?_
  refine wl_fx (fx_box (next := ?_)); intro bT
  refine gO_ ?_
  refine wl_fx (fx_box (next := ?_)); intro bC
  refine gO_ ?_
  refine wl_fx (fx_box (next := ?_)); intro bA
  refine gO_ ?_
  refine wc_cond rfl (fun h1 => ?_) (fun h1 => ?_)
  · exfalso
    simp only [dc_eq, Bool.or_eq_true, decide_eq_true_eq] at h1
    omega
  clear h1
  refine gO_ ?_
  refine wc_cutA (fun s : Nat × Nat => True) (fun s => [(9, true, .pointer (some ⟨s.2, 0, none⟩)), (8, true, .pointer (some ⟨s.1, 0, none⟩)), (5, true, .pointer (some ⟨bA, 0, none⟩)), (4, true, .pointer (some ⟨bC, 0, none⟩)), (3, true, .pointer (some ⟨bT, 0, none⟩))])
    (fun s => Mem [(w, All)] [.box s.2 (encEv (evi t y)) 49, .box s.1 (encEv (evi t x)) 49, .box bA [.int .i64 x, .int .i64 y, .int .i64 k] 62, .box bC [fv, ov] 42, .box bT [lv, iv, ev, bv, av, dv, cv, tv, nv] 30]) ?_ ?_
  · refine wc_drawS (Mem [(w, All)] [.box bA [.int .i64 x, .int .i64 y, .int .i64 k] 62, .box bT [lv, iv, ev, bv, av, dv, cv, tv, nv] 30]) [0, 1, 2, 3, 4, 5, 6, 7, 8, 9, 10, 11, 999] mixed (fun _ h => h.sel [0, 2] rfl (by decide)) ?_
    refine kG_ ?_
    refine kg_br2 12 13 (h1 := ?_) (h2 := ?_)
    · refine ks_f [999] _ (hSS := fun _ h => h) (h := fx_alloc (next := ?_))
      intro bx
      refine kp_S ?_ (fun _ h => h.sel [1, 3] rfl (by decide))
      refine kg_br1 13 (h1 := ?_)
      refine ks_f [14, 15] _ (hSS := fun _ h => h) (h := fx_alloc (next := ?_))
      intro by'
      refine kp_S ?_ (fun _ h => h.sel [2, 4] rfl (by decide))
      refine kg_f _ (h := fx_store_box (i := 1) (hi := rfl) (next := ?_)) (hSS := fun _ h => h)
      refine kp_S ?_ (fun _ h => h.sel [2, 4] rfl (by decide))
      refine kg_z (h := fx_store_box (i := 0) (hi := rfl) (next := ?_))
      exact po_cut (bx, by') trivial ⟨rfl, rfl, rfl, rfl, rfl, trivial⟩ (fun _ h => h)
    · refine ks_f [999] _ (hSS := fun _ h => h) (h := fx_alloc (next := ?_))
      intro by'
      refine kp_S ?_ (fun _ h => h.sel [1, 3] rfl (by decide))
      refine kg_br1 12 (h1 := ?_)
      refine ks_f [14, 15] _ (hSS := fun _ h => h) (h := fx_alloc (next := ?_))
      intro bx
      refine kp_S ?_ (fun _ h => h.sel [2, 4] rfl (by decide))
      refine kg_f _ (h := fx_store_box (i := 0) (hi := rfl) (next := ?_)) (hSS := fun _ h => h)
      refine kp_S ?_ (fun _ h => h.sel [2, 4] rfl (by decide))
      refine kg_z (h := fx_store_box (i := 1) (hi := rfl) (next := ?_))
      exact po_cut (bx, by') trivial ⟨rfl, rfl, rfl, rfl, rfl, trivial⟩ (fun _ h => h.sel [1, 0, 2, 3, 4] rfl (by decide))
  rintro ⟨bx, by'⟩ -
  dsimp only
  refine gO_ ?_
  rcases hk with ⟨rfl, hs⟩ | ⟨rfl, hs⟩ | ⟨rfl, hs⟩ | ⟨rfl, hs⟩
  · refine wc_cond rfl (fun h1 => ?_) (fun h1 => ?_)
    · refine gO_ ?_
      refine pur_ret Tryz.results29 (.tmp rfl .nil) (.head _) fun w' hw => ?_
      simp only [dc_eq]
      exact congrArg (fun b : Bool => Value.bool b) hs
    · rw [dc_false] at h1; exact absurd rfl h1
  · refine wc_cond rfl (fun h1 => ?_) (fun h1 => ?_)
    · rw [dc_true] at h1; omega
    clear h1
    refine gO_ ?_
    refine wc_cond rfl (fun h1 => ?_) (fun h1 => ?_)
    · refine gO_ ?_
      refine wc_draw [0, 1, 2, 3, 4, 5, 6, 7, 8, 9, 10, 11, 12, 13, 14] mixed ?_
      refine kG_ ?_
      refine gO_ ?_
      refine pur_ret Tryz.results29 (.tmp rfl .nil) (.head _) fun w' hw => ?_
      simp only [dc_eq]
      exact congrArg (fun b : Bool => Value.bool b) hs
    · rw [dc_false] at h1; exact absurd rfl h1
  · refine wc_cond rfl (fun h1 => ?_) (fun h1 => ?_)
    · rw [dc_true] at h1; omega
    clear h1
    refine gO_ ?_
    refine wc_cond rfl (fun h1 => ?_) (fun h1 => ?_)
    · rw [dc_true] at h1; omega
    clear h1
    refine gO_ ?_
    refine wc_cond rfl (fun h1 => ?_) (fun h1 => ?_)
    · have hs2 := hs
      unfold coP ahP at hs2
      rw [Bool.and_eq_true, decide_eq_true_eq, decide_eq_true_eq] at hs2
      obtain ⟨hxd, _⟩ := (in_col hz hx hx).1 hs2.1
      obtain ⟨hyd, hyl⟩ := (in_col hz hx hy).1 (by omega)
      have hyl2 : (evi t y).loc = (p : Int) := by rw [hyl]; exact hp
      have hxd2 : (evi t x).dir = 2 := hxd
      have hyd2 : (evi t y).dir = 2 := hyd
      rw [hcp] at hs2
      refine gO_ ?_
      refine wc_draw [0, 1, 2, 3, 4, 5, 6, 7, 8, 9, 10, 11, 12, 13, 14, 15, 16, 17, 18, 19, 20, 21, 22, 23, 25, 26, 27, 28, 29, 30, 31, 32, 24, 33, 34, 35, 36] mixed ?_
      refine kG_ ?_
      rw [hp, hyl2, hxd2, hyd2, Int.toNat_natCast, show dc ((2 : Int) = 2) = true by rw [dc_true], show dc ((p : Int) = (p : Int)) = true by rw [dc_true]]
      refine kg_gyes _ (hb := by simp [dc_eq]) (hSS := fun _ h => h) (h := fx_call (spec := fun w' hw => place18_spec (ovs.getD p default) (c.co.getD p default) x w' (hw.now hLp (.head _))) (next := ?_))
      rintro v n1 w1 rfl hn1
      refine kp_S ?_ (fun _ h => h.tailB)
      refine kG_ ?_
      refine kg_gyes _ (hb := by simp [dc_eq]) (hSS := fun _ h => h) (h := fx_call (spec := fun w' hw => place18_spec (ovs.getD p default) (c.co.getD p default) y w' (hw.now hLp (.tail _ (.head _)))) (next := ?_))
      rintro v n2 w2 rfl hn2
      refine kp_S ?_ (fun _ h => h.tailB.tailB)
      refine kG_ ?_
      refine gO_ ?_
      refine pur_ret Tryz.results29 (.tmp rfl .nil) (.tail _ (.tail _ (.head _))) fun w' hw => ?_
      rw [dc_eq, decide_eq_true hs2.2]
      rfl
    · rw [dc_false] at h1; exact absurd rfl h1
  · refine wc_cond rfl (fun h1 => ?_) (fun h1 => ?_)
    · rw [dc_true] at h1; omega
    clear h1
    refine gO_ ?_
    refine wc_cond rfl (fun h1 => ?_) (fun h1 => ?_)
    · rw [dc_true] at h1; omega
    clear h1
    refine gO_ ?_
    refine wc_cond rfl (fun h1 => ?_) (fun h1 => ?_)
    · rw [dc_true] at h1; omega
    clear h1
    refine gO_ ?_
    refine wc_cond rfl (fun h1 => ?_) (fun h1 => ?_)
    · have hs2 := hs
      unfold frP at hs2
      rw [Bool.and_eq_true, decide_eq_true_eq, decide_eq_true_eq] at hs2
      have hge := ixI_ge (col t c x) (c.rf.getD x default)
      obtain ⟨hyd, hyl⟩ := (in_col hz hx hy).1 (by omega)
      have hyl2 : (evi t y).loc = (p : Int) := by rw [hyl]; exact hp
      have hxd2 : (evi t x).dir = 1 := hs2.1
      have hyd2 : (evi t y).dir = 2 := hyd
      rw [hcp] at hs2
      refine gO_ ?_
      refine wc_draw [0, 1, 2, 3, 4, 5, 6, 7, 8, 9, 10, 11, 12, 13, 14, 15, 16, 17, 18, 19, 20, 21, 22, 23, 24, 25, 26, 27, 29, 30, 31, 32, 33, 34, 35, 36, 28, 37, 38, 39, 40] mixed ?_
      refine kG_ ?_
      rw [hp, hyl2, hxd2, hyd2, Int.toNat_natCast, show dc ((1 : Int) = 1) = true by rw [dc_true], show dc ((2 : Int) = 2) = true by rw [dc_true], show dc ((p : Int) = (p : Int)) = true by rw [dc_true]]
      refine kg_gyes _ (hb := by simp [dc_eq]) (hSS := fun _ h => h) (h := fx_call (spec := fun w' hw => place18_spec (ovs.getD p default) (c.co.getD p default) (c.rf.getD x default) w' (hw.now hLp (.head _))) (next := ?_))
      rintro v n1 w1 rfl hn1
      refine kp_S ?_ (fun _ h => h.tailB)
      refine kG_ ?_
      refine kg_gyes _ (hb := by simp [dc_eq]) (hSS := fun _ h => h) (h := fx_call (spec := fun w' hw => place18_spec (ovs.getD p default) (c.co.getD p default) y w' (hw.now hLp (.tail _ (.head _)))) (next := ?_))
      rintro v n2 w2 rfl hn2
      refine kp_S ?_ (fun _ h => h.tailB.tailB)
      refine kG_ ?_
      refine gO_ ?_
      refine pur_ret Tryz.results29 (.tmp rfl .nil) (.tail _ (.tail _ (.head _))) fun w' hw => ?_
      rw [dc_eq, decide_eq_true hs2.2]
      rfl
    · rw [dc_false] at h1; exact absurd rfl h1
end Go.Proofs.YtnplmhfjoemgdaaGreatDoor
