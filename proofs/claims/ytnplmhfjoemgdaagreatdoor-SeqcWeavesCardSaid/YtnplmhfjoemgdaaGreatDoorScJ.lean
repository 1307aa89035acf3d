/- The walk: alembicref18.Weave; the law SeqcWeaves. -/
import Derived.Test.YtnplmhfjoemgdaaGreatDoorScH
import Derived.Test.YtnplmhfjoemgdaaGreatDoorScI
set_option linter.unusedSimpArgs false
set_option linter.unusedVariables false
namespace Go.Eng
open Go
/-- '%' of unsigned numbers -/
theorem qy_rem64 {P : Program} {N : Nat} {tm : Tm} {A : World → Prop} {c : Bool} {t t' : TypeId} {x y : Operand} {m n : BitVec 64} (hx : EV tm c x (u64 m)) (hy : EV tm c y (u64 n)) (hn : c = true → ¬ n.toNat = 0) : QY P N (.binOp .rem t x y t') tm A c (u64 (m % n)) := by
  by_cases hc : c = true
  · have h0 := hn hc
    exact qy_int2 hx hy (fun w => by
      simp [binOp, Op.intDiv, h0, u64]
      try exact (Int.ofNat_tmod m.toNat n.toNat).symm)
  · unfold QY; exact fun h => absurd h hc
end Go.Eng
namespace Go.Proofs.YtnplmhfjoemgdaaGreatDoor
open Go Go.Eng Go.Tc Go.Rl Go.Vw
attribute [local irreducible] wpList Code.wp bodyPost Exit.then Exit.inBlock Calls
theorem dnL_zero (t : Tr) : List.replicate 16 (0 : Int) = dnL t [] := by
  apply List.ext_getElem (by simp [dnL])
  intro i h1 h2
  rw [List.getElem_replicate]
  simp only [dnL, List.getElem_map]
  rfl

set_option maxRecDepth 8000 in
set_option maxHeartbeats 12800000 in
theorem rweave_spec {lv iv ev bv av dv cv tv nv : Value} {t : Tr} (pv : Value) (ps : List Int) (w : World) (h : TrIn All w lv iv ev bv av dv cv tv nv t) (hp : Sl All w Eng.encI 1 pv ps) (ht : trOk t = true) :
    Mk Tryz.prog 31 [.agg #[lv, iv, ev, bv, av, dv, cv, tv, nv], pv] w fun _ v es _ => ∃ o, SV v ∧ es = [ownI v (ints o)] ∧ IsOrd t.evs.length o ∧ ∀ a b, a < t.evs.length → b < t.evs.length → poP t a b = true → posN o a < posN o b := by
  have hE := h.evs; have hEl := hE.le
  have hpl := hp.le
  have hps := hp.sv
  obtain ⟨hb, hlb⟩ := trOk_lens ht
  refine enter_mk Tryz.func31 Tryz.ntmps31 rfl rfl ?_
  refine gO_ ?_
  refine wl_fx (fx_box (next := ?_)); intro bT
  refine gO_ ?_
  refine wl_fx (fx_make (next := ?_)); intro dn hdn
  refine gO_ ?_
  refine kp_nil 3 1 Eng.encI ?_
  refine wc_loop (fun s : Value × List Nat => SV s.1 ∧ Wv t s.2) (fun s => [(6, true, dn), (5, true, s.1), (2, true, .pointer (some ⟨bT, 0, none⟩)), (1, true, pv)])
    (fun s => Mem [(w, All)] [.own dn 3 1 Eng.encI (dnL t s.2), ownI s.1 (ints s.2), .box bT [lv, iv, ev, bv, av, dv, cv, tv, nv] 30]) (fun s => t.evs.length - s.2.length) (.slice none 0 0, []) ⟨sv_nil, Wv.nil t⟩ ⟨rfl, rfl, rfl, rfl, trivial⟩ (fun _ h => by
      rw [← dnL_zero]
      exact h.sel [1, 0, 2] rfl (by decide)) ?_
  rintro ⟨vo, o⟩ ⟨hvo, hW⟩
  dsimp only at hvo hW ⊢
  have hol := ints_len o
  have hle := hW.le
  have hdl := dnL_len t o
  refine gO_ ?_
  rw [hol]
  refine wc_cond rfl (fun h1 => ?_) (fun h1 => ?_)
  · have h1' : o.length < t.evs.length := by rw [dc_true] at h1; omega
    refine gO_ ?_
    refine kp_nil 3 1 Eng.encI ?_
    refine wc_loop (fun s : Nat × Value => s.1 ≤ 16 ∧ SV s.2) (fun s => [(8, true, .int .i64 s.1), (7, true, s.2), (6, true, dn), (5, true, vo), (2, true, .pointer (some ⟨bT, 0, none⟩)), (1, true, pv)])
      (fun s => Mem [(w, All)] [ownI s.2 (ints (nxT t o s.1)), .own dn 3 1 Eng.encI (dnL t o), ownI vo (ints o), .box bT [lv, iv, ev, bv, av, dv, cv, tv, nv] 30]) (fun s => 16 - s.1) (0, .slice none 0 0) ⟨Nat.zero_le _, sv_nil⟩ ⟨rfl, rfl, rfl, rfl, rfl, rfl, trivial⟩ (fun _ h => h) ?_
    rintro ⟨k, vn⟩ ⟨hk, hvn⟩
    dsimp only at hk hvn ⊢
    have hnl := nxT_len t o k
    refine gO_ ?_
    refine wc_cond rfl (fun h2 => ?_) (fun h2 => ?_)
    · have h2' : k < 16 := by rw [dc_true] at h2; omega
      have hkd : k < (dnL t o).length := by omega
      have hgd := dnL_get t o h2'
      have hmul : k * t.evs.length ≤ 16 * 64 := Nat.mul_le_mul (by omega) hb
      refine gO_ ?_
      refine wc_loop (fun s : Nat × Value => s.1 ≤ t.evs.length ∧ SV s.2) (fun s => [(10, true, .int .i64 s.1), (9, true, .int .i64 (cntB t k s.1)), (8, true, .int .i64 k), (7, true, s.2), (6, true, dn), (5, true, vo), (2, true, .pointer (some ⟨bT, 0, none⟩)), (1, true, pv)])
        (fun s => Mem [(w, All)] [ownI s.2 (ints (nxT t o k ++ selTo t o k s.1)), .own dn 3 1 Eng.encI (dnL t o), ownI vo (ints o), .box bT [lv, iv, ev, bv, av, dv, cv, tv, nv] 30]) (fun s => t.evs.length - s.1) (0, vn) ⟨Nat.zero_le _, hvn⟩ ⟨rfl, rfl, rfl, rfl, rfl, rfl, rfl, rfl, trivial⟩ (fun _ h => by
          rw [show selTo t o k 0 = [] from rfl, List.append_nil]; exact h) ?_
      rintro ⟨i, vm⟩ ⟨hi, hvm⟩
      dsimp only at hi hvm ⊢
      have hsl := selTo_len t o k i
      have hil : (ints (nxT t o k ++ selTo t o k i)).length ≤ 2048 := by rw [ints_len, List.length_append]; omega
      have hcb := cntB_le t k i
      refine gO_ ?_
      refine wc_cond rfl (fun h3 => ?_) (fun h3 => ?_)
      · have h3' : i < t.evs.length := by rw [dc_true] at h3; omega
        have e1 := cntB_succ t k i
        have e2 := selTo_succ t o k i
        refine gO_ ?_
        refine wc_cond rfl (fun h4 => ?_) (fun h4 => ?_)
        · rw [dc_true] at h4
          have hin : inTh t k i = true := decide_eq_true h4
          rw [if_pos hin] at e1
          refine gO_ ?_
          rw [hgd]
          refine wc_cond rfl (fun h5 => ?_) (fun h5 => ?_)
          · rw [dc_true] at h5
            rw [if_pos (show selB t o k i = true by unfold selB; rw [hin, decide_eq_true (show cntB t k i = cntO t o k by omega)]; rfl)] at e2
            refine gO_ ?_
            refine wl_fx (fx_lit (next := ?_))
            intro v5 hv5
            refine gO_ ?_
            refine wl_fx (fx_append_own (k := 1) (hk := rfl) (hm := .head _) (hlen := by simp only [List.length_map, List.length_cons, List.length_nil]; omega) (next := ?_))
            intro v6 hv6
            refine gO_ ?_
            refine po_loop (i + 1, v6) ⟨by dsimp only; omega, hv6⟩ (by dsimp only; omega) ?_ (fun _ h => ?_)
            · dsimp only; rw [e1]; exact ⟨rfl, rfl, rfl, rfl, rfl, rfl, rfl, rfl, trivial⟩
            · dsimp only
              rw [e2, ← List.append_assoc, show ints ((nxT t o k ++ selTo t o k i) ++ [i]) = ints (nxT t o k ++ selTo t o k i) ++ [(i : Int)] from List.map_append]
              exact h.tail
          · rw [dc_false] at h5
            rw [if_neg (show ¬ selB t o k i = true by
              unfold selB
              rw [hin, Bool.true_and, decide_eq_true_eq]
              intro q; rw [q] at h5; exact h5 rfl), List.append_nil] at e2
            refine gO_ ?_
            refine po_loop (i + 1, vm) ⟨by dsimp only; omega, hvm⟩ (by dsimp only; omega) ?_ (fun _ h => ?_)
            · dsimp only; rw [e1]; exact ⟨rfl, rfl, rfl, rfl, rfl, rfl, rfl, rfl, trivial⟩
            · dsimp only
              rw [e2]
              exact h
        · rw [dc_false] at h4
          have hin : ¬ inTh t k i = true := fun q => h4 (of_decide_eq_true q)
          rw [if_neg hin, Nat.add_zero] at e1
          rw [if_neg (show ¬ selB t o k i = true by
            unfold selB
            rw [Bool.and_eq_true]
            exact fun q => hin q.1), List.append_nil] at e2
          refine gO_ ?_
          refine po_loop (i + 1, vm) ⟨by dsimp only; omega, hvm⟩ (by dsimp only; omega) ?_ (fun _ h => ?_)
          · dsimp only; rw [e1]; exact ⟨rfl, rfl, rfl, rfl, rfl, rfl, rfl, rfl, trivial⟩
          · dsimp only
            rw [e2]
            exact h
      · obtain rfl : i = t.evs.length := by rw [dc_false] at h3; omega
        refine gO_ ?_
        refine po_loop (k + 1, vm) ⟨by dsimp only; omega, hvm⟩ (by dsimp only; omega) ⟨rfl, rfl, rfl, rfl, rfl, rfl, trivial⟩ (fun _ h => ?_)
        dsimp only
        rw [nxT_succ]
        exact h
    · obtain rfl : k = 16 := by rw [dc_false] at h2; omega
      have hsome := hW.some ht h1'
      have hmem : ∀ x, x ∈ nxT t o 16 → x < t.evs.length ∧ (∃ h : Nat, h < 16 ∧ (evi t x).thread = (h : Int)) ∧ x ∉ o ∧ ∀ a, a < x → Vw.thB t a x = true → a ∈ o := fun x hx => by
        obtain ⟨h, hh, hxl, hin, hc⟩ := mem_nxT.1 hx
        obtain ⟨g1, g2⟩ := hW.next hin hc
        exact ⟨hxl, ⟨h, hh, of_decide_eq_true hin⟩, g1, g2⟩
      have hnl2 : (nxT t o 16).length ≤ 1024 := by
        have : 16 * t.evs.length ≤ 16 * 64 := Nat.mul_le_mul (Nat.le_refl _) hb
        omega
      generalize nxT t o 16 = nx at hsome hmem hnl2 ⊢
      have hil := ints_len nx
      refine gO_ ?_
      rw [hil]
      refine wc_cond rfl (fun h3 => ?_) (fun h3 => ?_)
      · exfalso; rw [dc_true] at h3; omega
      clear h3
      refine gO_ ?_
      refine wc_cutA (fun q : Nat => q < nx.length) (fun q => [(11, true, .int .i64 q), (7, true, vn), (6, true, dn), (5, true, vo), (2, true, .pointer (some ⟨bT, 0, none⟩)), (1, true, pv)])
        (fun _ => Mem [(w, All)] [ownI vn (ints nx), .own dn 3 1 Eng.encI (dnL t o), ownI vo (ints o), .box bT [lv, iv, ev, bv, av, dv, cv, tv, nv] 30]) ?_ ?_
      · rw [hol]
        refine wc_cond rfl (fun h4 => ?_) (fun h4 => ?_)
        · have h4' : o.length < ps.length := by rw [dc_true] at h4; omega
          refine gO_ ?_
          rw [hol, hil]
          refine gO_ ?_
          have hne : ¬ (BitVec.ofInt 64 (nx.length : Int)).toNat = 0 := by simp; omega
          refine wl_a (v := u64 (BitVec.ofInt 64 (ps.getD o.length default) % BitVec.ofInt 64 (nx.length : Int))) (h := ?_) (next := ?_)
          · exact qy_rem64 ⟨_, rfl, fun _ => rfl⟩ ⟨_, rfl, fun _ => rfl⟩ (fun _ => hne)
          have hlt : (BitVec.ofInt 64 (ps.getD o.length default) % BitVec.ofInt 64 (nx.length : Int)).toNat < nx.length := by
            rw [BitVec.toNat_umod]
            have e : (BitVec.ofInt 64 (nx.length : Int)).toNat = nx.length := by simp; omega
            rw [e]
            exact Nat.mod_lt _ (by omega)
          generalize BitVec.ofInt 64 (ps.getD o.length default) % BitVec.ofInt 64 (nx.length : Int) = r at hlt ⊢
          have hr : r.toNat < 9223372036854775808 := by omega
          refine gO_ ?_
          exact po_cut r.toNat hlt ⟨rfl, rfl, rfl, rfl, rfl, rfl, trivial⟩ (fun _ h => h)
        · refine gO_ ?_
          exact po_cut 0 (show 0 < nx.length by omega) ⟨rfl, rfl, rfl, rfl, rfl, rfl, trivial⟩ (fun _ h => h)
      · intro q hq
        have hgx : (ints nx).getD q default = ((nx.getD q default : Nat) : Int) := ints_getD hq
        obtain ⟨hx, ⟨th, hth, hthx⟩, hno, hall⟩ := hmem _ (List.mem_of_getElem? (getD_some hq))
        generalize nx.getD q default = x at *
        have hthx2 : (t.evs.getD x default).thread = (th : Int) := hthx
        have hq2 : q < (ints nx).length := by omega
        have htd : th < (dnL t o).length := by omega
        have hgd := dnL_get t o hth
        have hcl : cntO t o th ≤ 64 := by
          unfold cntO
          have := List.length_filter_le (inTh t th) o
          omega
        refine gO_ ?_
        refine wc_draw [0, 1, 2, 3, 4, 5, 6, 7, 8, 9, 10, 11, 12, 13, 14] mixed ?_
        refine kG_ ?_
        rw [hgx, Int.toNat_natCast, hthx2]
        refine kG_ ?_
        refine kg_z (h := fx_store_own (k := 1) (hk := rfl) (next := ?_))
        rw [hgd, dnL_set hthx]
        refine gO_ ?_
        rw [hgx]
        refine wl_fx (fx_lit (next := ?_))
        intro v5 hv5
        refine gO_ ?_
        refine wl_fx (fx_append_own (k := 3) (hk := rfl) (hm := .head _) (hlen := by rw [hol]; simp only [List.length_map, List.length_cons, List.length_nil]; omega) (next := ?_))
        intro v6 hv6
        refine gO_ ?_
        refine po_loop (v6, o ++ [x]) ⟨hv6, hW.snoc hx hno hall⟩ (by dsimp only; rw [List.length_append, List.length_singleton]; omega) ⟨rfl, rfl, rfl, rfl, trivial⟩ (fun _ h => ?_)
        dsimp only
        rw [show ints (o ++ [x]) = ints o ++ [(x : Int)] from List.map_append]
        exact h.sel [2, 3, 4] rfl (by decide)
  · have hlen : o.length = t.evs.length := by rw [dc_false] at h1; omega
    obtain ⟨hO, hkp⟩ := hW.done ht hlen
    refine gO_ ?_
    refine mk_ret Tryz.results31 (.tmp rfl .nil) (.head _) [_] [1] rfl (by decide) fun w' hw => ?_
    exact ⟨o, hvo, rfl, hO, hkp⟩
set_option maxRecDepth 8000 in
set_option maxHeartbeats 12800000 in
theorem seqcWeaves_spec {lv iv ev bv av dv cv tv nv : Value} {t : Tr} (pv : Value) (ps : List Int) (w : World) (h : TrIn All w lv iv ev bv av dv cv tv nv t) (hp : Sl All w Eng.encI 1 pv ps) (hT : Tab w) :
    Pur Tryz.prog 8 [.agg #[lv, iv, ev, bv, av, dv, cv, tv, nv], pv] w fun _ v _ => v = .bool true := by
  have hps := hp.sv
  refine enter_pur Tryz.func8 Tryz.ntmps8 rfl rfl ?_
  refine gO_ ?_
  refine wl_fx (fx_box (next := ?_)); intro bT
  refine gO_ ?_
  refine wl_fx (fx_call (spec := fun w' hw => rtcheck_spec w' (h.now hw (.head _))) (next := ?_))
  rintro v n1 w1 rfl hn1
  refine gO_ ?_
  refine wc_cond rfl (fun h1 => ?_) (fun h1 => ?_)
  · rw [trE_dc, Bool.not_eq_true'] at h1
    refine gO_ ?_
    refine wl_fx (fx_call (spec := fun w' hw => scand_no (.slice none 0 0) w' (h.now hw (.tail _ (.head _))) sv_nil h1) (next := ?_))
    rintro v n2 w2 rfl hn2
    refine gO_ ?_
    refine wl_fx (fx_alloc (next := ?_)); intro b5
    refine gO_ ?_
    refine wl_fx (fx_store_box (i := 0) (hi := rfl) (next := ?_))
    refine gO_ ?_
    refine wl_gx (h := gx_call (spec := fun _ w' hw => sawake_spec w' (hT.now hw (.tail _ (.tail _ (.head _)))))) (next := ?_)
    refine gO_ ?_
    refine pur_ret Tryz.results8 (.tmp rfl .nil) (.tail _ (.tail _ (.head _))) fun w' hw => ?_
    simp [dc_eq]
    rfl
  · rw [trE_dc, Bool.not_eq_false'] at h1
    have hb := (trOk_lens h1).1
    refine gO_ ?_
    refine wl_fx (fx_call_mk (spec := fun w' hw => rweave_spec pv ps w' (h.now hw (.tail _ (.head _))) (hw.now hp (.tail _ (.head _))) h1) (next := ?_))
    rintro vo n2 es w2 ⟨o, hvo, rfl, hO, hk⟩
    have hz := candO_ok h1 hO
    have hsc := candO_sc h1 hO hk
    have hac : acyP t (scP t (candO t o)) = true := by rw [← scB_ok hz]; exact hsc
    obtain ⟨_, hlS, hTp, hlen⟩ := line_free hb hac
    have hoE : sordE t (candO t o) = 0 := by unfold sordE; rw [if_pos hz, if_pos hsc]
    have hoL : sordL t (candO t o) = ints (lN t.evs.length (Rl.bt (relOf t.evs.length (scP t (candO t o)))) t.evs.length) := by unfold sordL; rw [if_pos hsc, hlS]
    have hleast : cmpL (ints (lN t.evs.length (Rl.bt (relOf t.evs.length (scP t (candO t o)))) t.evs.length)) (ints o) ≤ 0 := lN_least hO (fun a b ha hb' q => by
      rw [relOf_bt _ _ hb _ _ ha hb'] at q
      exact candO_up h1 hO hk ha hb' q) hlen
    generalize lN t.evs.length (Rl.bt (relOf t.evs.length (scP t (candO t o)))) t.evs.length = ts at *
    have hO2 : IsOrd t.evs.length ts := ⟨hTp.nodup, hTp.lt, hlen⟩
    have hup : ∀ a b, a < t.evs.length → b < t.evs.length → scP t (candO t o) a b = true → posN ts a < posN ts b := fun a b ha hb' q => topo_pos hTp hlen ha hb' (by rw [relOf_bt _ _ hb _ _ ha hb']; exact q)
    have hk2 : ∀ a b, a < t.evs.length → b < t.evs.length → poP t a b = true → posN ts a < posN ts b := fun a b ha hb' q => hup a b ha hb' (by unfold scP; rw [q]; rfl)
    have hcand := candO_eq hz hO2 hup
    refine gO_ ?_
    refine wl_fx (fx_call (spec := fun w' hw => scand_ok vo o w' (h.now hw (.tail _ (.tail _ (.head _)))) (hw.lend (.head _)) h1 hO hk) (next := ?_))
    rintro v n3 w3 ⟨rv, qv, rfl, hC⟩ hn3
    have hsr := hC.rf.sv
    have hsq := hC.cosv
    refine gO_ ?_
    refine wl_fx (fx_alloc (next := ?_)); intro b8
    refine gO_ ?_
    refine wl_fx (fx_store_box (i := 0) (hi := rfl) (next := ?_))
    refine gO_ ?_
    refine wl_fx (fx_call (spec := fun w' hw => scons_spec rv qv (candO t o) w' (h.now hw (.tail _ (.tail _ (.tail _ (.head _))))) (hC.now hw (.head _)) (hT.now hw (.tail _ (.tail _ (.tail _ (.head _)))))) (next := ?_))
    rintro v n4 w4 rfl hn4
    rw [hsc, hz]
    refine gO_ ?_
    refine wl_fx (fx_call_mk (spec := fun w' hw => sord_spec rv qv (candO t o) w' (h.now hw (.tail _ (.tail _ (.tail _ (.tail _ (.head _)))))) (hC.now hw (.tail _ (.head _))) (hT.now hw (.tail _ (.tail _ (.tail _ (.tail _ (.head _))))))) (next := ?_))
    rintro v n5 es w5 ⟨p2, hp2, rfl, rfl⟩
    rw [hoE, hoL]
    refine gO_ ?_
    refine wl_fx (fx_call (spec := fun w' hw => scand_ok p2 ts w' (h.now hw (.tail _ (.tail _ (.tail _ (.tail _ (.tail _ (.head _))))))) (hw.lend (.head _)) h1 hO2 hk2) (next := ?_))
    rintro v n6 w6 ⟨rv2, qv2, rfl, hD⟩ hn6
    rw [hcand] at hD
    have hsr2 := hD.rf.sv
    have hsq2 := hD.cosv
    refine gO_ ?_
    refine wl_fx (fx_alloc (next := ?_)); intro b14
    refine gO_ ?_
    refine wl_fx (fx_store_box (i := 0) (hi := rfl) (next := ?_))
    refine gO_ ?_
    refine wl_gx (h := gx_call (spec := fun _ w' hw => same16_spec rv qv rv2 qv2 (candO t o) (candO t o) w' (hC.now hw (.tail _ (.tail _ (.tail _ (.head _))))) (hD.now hw (.head _)))) (next := ?_)
    refine gO_ ?_
    refine wl_gx (h := gx_call (spec := fun _ w' hw => compare_spec p2 vo (ints ts) (ints o) w' (hw.lend (.tail _ (.head _))) (hw.lend (.tail _ (.tail _ (.tail _ (.head _))))))) (next := ?_)
    refine gO_ ?_
    refine wl_gx (h := gx_call (spec := fun _ w' hw => sawake_spec w' (hT.now hw (.tail _ (.tail _ (.tail _ (.tail _ (.tail _ (.tail _ (.head _)))))))))) (next := ?_)
    refine gO_ ?_
    refine pur_ret Tryz.results8 (.tmp rfl .nil) (.tail _ (.tail _ (.tail _ (.tail _ (.tail _ (.tail _ (.head _))))))) fun w' hw => ?_
    simp only [dc_eq, decide_true, Bool.and_true, hleast]
    simp
    rfl
end Go.Proofs.YtnplmhfjoemgdaaGreatDoor
