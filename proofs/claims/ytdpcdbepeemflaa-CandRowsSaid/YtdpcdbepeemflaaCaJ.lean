/- The law CandReads, walked. -/
import Derived.Test.YtdpcdbepeemflaaCaI
set_option linter.unusedSimpArgs false
set_option linter.unusedVariables false
namespace Go.Proofs.Ytdpcdbepeemflaa
open Go Go.Eng Go.Tc
attribute [local irreducible] wpList Code.wp bodyPost Exit.then Exit.inBlock Calls
theorem cand_small {t : Tr} {c : Cd} (hz : cdE t c = 0) : Small c := by
  obtain ⟨ht, hcb⟩ := cdE_parts hz
  obtain ⟨hb, hlb⟩ := trOk_lens ht
  obtain ⟨h1, h2, h3, h4⟩ := (candB_iff t c).1 hcb
  exact ⟨by omega, by omega, fun i hi => by rw [(cp_perm hcb (k := i) (by omega)).length_eq]; exact wr_le hb _⟩

set_option maxRecDepth 8000 in
set_option maxHeartbeats 25600000 in
theorem candReads_spec {lv iv ev bv av dv cv tv nv : Value} {t : Tr} (fv ov : Value) (c : Cd) (at' pick : Int) (w : World) (h : TrIn All w lv iv ev bv av dv cv tv nv t) (hc : CdIn All w fv ov c) :
    Pur Try.prog 4 [.agg #[lv, iv, ev, bv, av, dv, cv, tv, nv], .agg #[fv, ov], .int .i64 at', .int .i64 pick] w fun _ v _ => v = .bool true := by
  have s1 := hc.rf.sv; have s2 := hc.cov
  have hE := h.evs; have hEl := hE.le
  have hI := h.init; have hN := h.ends; have hTh := h.things
  have hThl := hTh.le
  refine enter_pur Try.func4 Try.ntmps4 rfl rfl ?_
  refine gO_ ?_
  refine wl_fx (fx_box (next := ?_)); intro bt
  refine gO_ ?_
  refine wl_fx (fx_box (next := ?_)); intro bc
  refine gO_ ?_
  refine wl_fx (fx_call (spec := fun w' hw => ccheck_spec fv ov c w' (h.now hw (.head _)) (hc.now hw (.head _))) (next := ?_))
  rintro v n1 w1 rfl hn1
  refine gO_ ?_
  refine wc_cond rfl (fun h1 => ?_) (fun h1 => ?_)
  · refine gO_ ?_
    refine wl_fx (fx_call (spec := fun w' hw => rCheck_spec fv ov c w' (h.now hw (.tail _ (.head _))) (hc.now hw (.tail _ (.head _)))) (next := ?_))
    rintro v n2 w2 rfl hn2
    refine gO_ ?_
    refine wl_gx (h := gx_call (spec := fun _ w' hw => awake16_spec w')) (next := ?_)
    refine gO_ ?_
    refine pur_ret Try.results4 (.tmp rfl .nil) (.tail _ (.tail _ (.head _))) fun w' hw => ?_
    simp [dc_eq]
    rfl
  have hz := cdE_dc t c h1
  clear h1
  obtain ⟨ht, hcb⟩ := cdE_parts hz
  obtain ⟨hb, hlb⟩ := trOk_lens ht
  have hS := cand_small hz
  have hrl : c.rf.length = t.evs.length := ((candB_iff t c).1 hcb).1
  obtain ⟨hel, hel2⟩ := ends_len ht
  refine gO_ ?_
  refine kp_nil 3 1 Eng.encI ?_
  refine wc_loop (fun s : Nat × Value => s.1 ≤ t.evs.length ∧ SV s.2) (fun s => [(11, true, .int .i64 s.1), (10, true, s.2), (5, true, .pointer (some ⟨bc, 0, none⟩)), (4, true, .pointer (some ⟨bt, 0, none⟩)), (3, true, .int .i64 pick), (2, true, .int .i64 at')])
    (fun s => Mem [(w, All)] [.own s.2 3 1 Eng.encI (rdsTo t s.1), .box bc [fv, ov] 33, .box bt [lv, iv, ev, bv, av, dv, cv, tv, nv] 30]) (fun s => t.evs.length - s.1) (0, .slice none 0 0) ⟨Nat.zero_le _, svN⟩ ⟨rfl, rfl, rfl, rfl, rfl, rfl, trivial⟩ (fun _ h => h.last rfl) ?_
  rintro ⟨i, va⟩ ⟨hi, hva⟩
  dsimp only at hi hva ⊢
  have hll := rdsTo_le t i
  refine gO_ ?_
  refine wc_cond rfl (fun h2 => ?_) (fun h2 => ?_)
  · have h2' : i < t.evs.length := by rw [dc_true] at h2; omega
    have hsu := rdsTo_succ t i
    generalize rdsTo t i = L0 at *
    refine gO_ ?_
    refine wc_cond rfl (fun h3 => ?_) (fun h3 => ?_)
    · rw [dc_true] at h3
      rw [if_pos (show isR t i = true by unfold isR; rw [decide_eq_true_eq]; exact h3)] at hsu
      refine gO_ ?_
      refine wl_fx (fx_lit (next := ?_))
      intro v58 hv58
      refine gO_ ?_
      refine wl_fx (fx_append_own (k := 1) (hk := rfl) (hm := .head _) (hlen := by simp only [List.length_map, List.length_cons, List.length_nil]; omega) (next := ?_))
      intro v59 hv59
      refine gO_ ?_
      refine po_loop (i + 1, v59) ⟨by dsimp only; omega, hv59⟩ (by dsimp only; omega) ⟨rfl, rfl, rfl, rfl, rfl, rfl, trivial⟩ (fun _ h => ?_)
      dsimp only
      rw [hsu]
      exact h.tail
    · rw [dc_false] at h3
      rw [if_neg (show ¬ isR t i = true by unfold isR; rw [decide_eq_true_eq]; exact h3), List.append_nil] at hsu
      refine gO_ ?_
      refine po_loop (i + 1, va) ⟨by dsimp only; omega, hva⟩ (by dsimp only; omega) ⟨rfl, rfl, rfl, rfl, rfl, rfl, trivial⟩ (fun _ h => ?_)
      dsimp only
      rw [hsu]
      exact h
  obtain rfl : i = t.evs.length := by rw [dc_false] at h2; omega
  clear h2
  have hmem : ∀ x, x ∈ rdsTo t t.evs.length → ∃ i : Nat, i < t.evs.length ∧ x = i ∧ (t.evs.getD i default).dir = 1 := fun x hx => mem_rdsTo.1 hx
  generalize rdsTo t t.evs.length = L at *
  refine gO_ ?_
  refine wc_cond rfl (fun h4 => ?_) (fun h4 => ?_)
  · refine gO_ ?_
    refine wl_fx (fx_call (spec := fun w' hw => cValues_spec fv ov c w' (h.now hw (.head _)) (hc.now hw (.head _)) hz) (next := ?_))
    rintro v n4 w4 ⟨u, rfl, hu⟩ hn4
    have hus := hu.sv
    refine gO_ ?_
    refine wl_gx (h := gx_call (spec := fun _ w' hw => awake16_spec w')) (next := ?_)
    refine gO_ ?_
    refine pur_ret Try.results4 (.tmp rfl .nil) (.tail _ (.head _)) fun w' hw => ?_
    simp [dc_eq, vals_len]
    rfl
  have h4' : 0 < L.length := by rw [dc_false] at h4; omega
  clear h4
  have hne : ¬ (BitVec.ofInt 64 (L.length : Int)).toNat = 0 := by simp; omega
  refine gO_ ?_
  refine wl_a (v := u64 (BitVec.ofInt 64 at' % BitVec.ofInt 64 (L.length : Int))) (h := ?_) (next := ?_)
  · exact qy_rmu ⟨_, rfl, fun _ => rfl⟩ ⟨_, rfl, fun _ => rfl⟩ (fun _ => hne)
  have hlt : (BitVec.ofInt 64 at' % BitVec.ofInt 64 (L.length : Int)).toNat < L.length := by
    rw [BitVec.toNat_umod]
    have e : (BitVec.ofInt 64 (L.length : Int)).toNat = L.length := by simp; omega
    rw [e]
    exact Nat.mod_lt _ (by omega)
  generalize BitVec.ofInt 64 at' % BitVec.ofInt 64 (L.length : Int) = r at hlt ⊢
  have hr : r.toNat < 9223372036854775808 := by omega
  obtain ⟨x, hx, hxe, hxd⟩ := hmem (L.getD r.toNat default) (gd_mem hlt)
  refine gO_ ?_
  rw [hxe]
  have hloc := trOk_loc ht hx
  have hwl := wr_le hb (t.evs.getD x default).loc
  have hrd : rdOf t x = -1 :: wr t (t.evs.getD x default).loc := by unfold rdOf; rw [if_pos hxd]
  have hxr : x < c.rf.length := by omega
  generalize hlo : (t.evs.getD x default).loc = loc at *
  refine gO_ ?_
  refine wc_cutA (fun v : Value => SV v) (fun v => [(15, true, v), (14, true, .int .i64 x), (5, true, .pointer (some ⟨bc, 0, none⟩)), (4, true, .pointer (some ⟨bt, 0, none⟩)), (3, true, .int .i64 pick)])
    (fun v => Mem [(w, All)] [.own v 3 1 Eng.encI (-1 :: wr t loc), .box bc [fv, ov] 33, .box bt [lv, iv, ev, bv, av, dv, cv, tv, nv] 30]) ?_ ?_
  · refine wc_drawS (Mem [(w, All)] [.box bc [fv, ov] 33, .box bt [lv, iv, ev, bv, av, dv, cv, tv, nv] 30]) [1, 2, 3, 4, 5, 6, 7, 999] mixed (fun _ h => h.tail) ?_
    refine kG_ ?_
    rw [hlo]
    refine kp_mem (A' := Mem [(w, All)] [.box bc [fv, ov] 33, .box bt [lv, iv, ev, bv, av, dv, cv, tv, nv] 30]) (fun _ h => h.tail) ?_
    refine kg_br2 0 8 (h1 := ?_) (h2 := ?_)
    · refine ks_f [999] _ (hSS := fun _ h => h) (h := fx_lit (enc := Eng.encI) (dec := Eng.decI) (e := 3) (sz := 1) (len := 1) (qs := [(0, [.int .i64 (-1)])]) (next := ?_))
      intro v92 hv92
      refine kp_S ?_ (fun _ h => h.tail)
      refine kg_br1 8 (h1 := ?_)
      refine ks_f [9, 10] _ (hSS := fun _ h => h) (h := fx_call (spec := fun w' hw => rwrites_spec loc w' (h.now hw (.head _)) hb) (next := ?_))
      rintro u n6 w6 hu hn6
      have hu' : Sl (Fr n6) w6 Eng.encI 1 u (wr t loc) := hu
      refine kp_S ?_ (fun _ h => h.tailB.tail)
      refine kg_f _ (h := fx_append_base (k := 0) (hk := rfl) (h := hu') (hlen := by simp only [List.length_map, List.length_cons, List.length_nil]; omega) (next := ?_)) (hSS := fun _ h => h)
      intro v101 hv101
      refine kp_S ?_ (fun _ h => h.tailB.tail)
      refine kG_ ?_
      exact po_cut v101 hv101 ⟨rfl, rfl, rfl, rfl, rfl, trivial⟩ (fun _ h => h.last rfl)
    · refine ks_f [999] _ (hSS := fun _ h => h) (h := fx_call (spec := fun w' hw => rwrites_spec loc w' (h.now hw (.head _)) hb) (next := ?_))
      rintro u n6 w6 hu hn6
      have hu' : Sl (Fr n6) w6 Eng.encI 1 u (wr t loc) := hu
      refine kp_S ?_ (fun _ h => h.tailB)
      refine kg_br1 0 (h1 := ?_)
      refine ks_f [9, 10] _ (hSS := fun _ h => h) (h := fx_lit (enc := Eng.encI) (dec := Eng.decI) (e := 3) (sz := 1) (len := 1) (qs := [(0, [.int .i64 (-1)])]) (next := ?_))
      intro v92 hv92
      refine kp_S ?_ (fun _ h => h.tailB.tail)
      refine kg_f _ (h := fx_append_base (k := 0) (hk := rfl) (h := hu') (hlen := by simp only [List.length_map, List.length_cons, List.length_nil]; omega) (next := ?_)) (hSS := fun _ h => h)
      intro v101 hv101
      refine kp_S ?_ (fun _ h => h.tailB.tail)
      refine kG_ ?_
      exact po_cut v101 hv101 ⟨rfl, rfl, rfl, rfl, rfl, trivial⟩ (fun _ h => h.last rfl)
  intro v15 hv15
  have hl15 : (-1 :: wr t loc).length = (wr t loc).length + 1 := List.length_cons
  refine gO_ ?_
  refine wl_fx (fx_call_mk (spec := fun w' hw => rCopy16_spec fv ov c w' (hc.now hw (.head _)) hS) (next := ?_))
  rintro v7 n7 es w7 ⟨ra, oa, vs, hra, hoa, rfl, hvl, rfl⟩
  refine gO_ ?_
  refine wl_fx (fx_alloc (next := ?_)); intro bd
  refine gO_ ?_
  refine wl_fx (fx_store_box (i := 0) (hi := rfl) (next := ?_))
  refine kp_mem (A' := Mem [(w, All)] [.own ra 3 1 Eng.encI c.rf, pack2 3 23 oa vs c.co, .box bd [ra, oa] 33, .own v15 3 1 Eng.encI (-1 :: wr t loc), .box bc [fv, ov] 33, .box bt [lv, iv, ev, bv, av, dv, cv, tv, nv] 30]) (fun _ h => (h.last rfl).sel [1, 2, 0, 3, 4, 5] rfl (by decide)) ?_
  generalize hM : (-1 :: wr t loc) = M at *
  refine gO_ ?_
  refine wc_draw [0, 1, 2, 3, 4, 5, 6, 7, 8, 9, 10, 11, 12, 13, 14] mixed ?_
  refine kG_ ?_
  have hne2 : ¬ (BitVec.ofInt 64 (M.length : Int)).toNat = 0 := by simp; omega
  refine kg_a (v := u64 (BitVec.ofInt 64 pick % BitVec.ofInt 64 (M.length : Int))) (h := ?_) (next := ?_)
  · exact qy_rmu ⟨_, rfl, fun _ => rfl⟩ ⟨_, rfl, fun _ => rfl⟩ (fun _ => hne2)
  have hlt2 : (BitVec.ofInt 64 pick % BitVec.ofInt 64 (M.length : Int)).toNat < M.length := by
    rw [BitVec.toNat_umod]
    have e : (BitVec.ofInt 64 (M.length : Int)).toNat = M.length := by simp; omega
    rw [e]
    exact Nat.mod_lt _ (by omega)
  generalize BitVec.ofInt 64 pick % BitVec.ofInt 64 (M.length : Int) = r2 at hlt2 ⊢
  have hr2 : r2.toNat < 9223372036854775808 := by omega
  refine kG_ ?_
  have hy : M.getD r2.toNat default ∈ rdOf t x := by rw [hrd]; exact gd_mem hlt2
  generalize M.getD r2.toNat default = y at hy ⊢
  refine kg_z (h := fx_store_own (k := 0) (hk := rfl) (next := ?_))
  have hz2 := put_ok hz hx hy
  have hS2 := cand_small hz2
  refine kp_mem (A' := Mem [(w, All)] [.own ra 3 1 Eng.encI (putC c x y).rf, pack2 3 23 oa vs (putC c x y).co, .box bd [ra, oa] 33, .box bc [fv, ov] 33, .box bt [lv, iv, ev, bv, av, dv, cv, tv, nv] 30]) (fun _ h => h.sel [0, 1, 2, 4, 5] rfl (by decide)) ?_
  have hvl2 : vs.length = (putC c x y).co.length := hvl
  have hpv : ∀ i, ¬ i = x → readV t (putC c x y) i = readV t c i := fun i hi => put_val hxr hi
  have hpw := put_want (t := t) (y := y) hxr hxd
  have hpf : ∀ i, i < t.ends.length → ¬ ((t.ends.getD i default).kind = 2 ∧ (t.ends.getD i default).n = x) → finV t (putC c x y) i = finV t c i := fun i hi hm => put_fin hz hxr hxd hi hm
  have hpe : ∀ i, (t.ends.getD i default).kind = 2 ∧ (t.ends.getD i default).n = x → finV t (putC c x y) i = readV t (putC c x y) x := fun i hm => put_end hxr hm
  have hdx : (putC c x y).rf.getD x default = y := by rw [put_rf x hxr, if_pos rfl]
  have hdl : (putC c x y).rf.length = c.rf.length := List.length_set
  generalize putC c x y = d at *
  refine gO_ ?_
  refine wl_fx (fx_call (spec := fun w' hw => cValues_spec fv ov c w' (h.now hw (.head _)) (hc.now hw (.head _)) hz) (next := ?_))
  rintro v8 n8 w8 ⟨u1, rfl, hu1⟩ hn8
  have hu1s := hu1.sv
  refine gO_ ?_
  refine wl_fx (fx_call (spec := fun w' hw => cValues_spec ra oa d w' (h.now hw (.tail _ (.head _))) (cdo hw (.head _) (.tail _ (.head _)) hvl2 hS2) hz2) (next := ?_))
  rintro v9 n9 w9 ⟨u2, rfl, hu2⟩ hn9
  have hu2s := hu2.sv
  refine gO_ ?_
  refine wl_fx (fx_call (spec := fun w' hw => cFinal_spec fv ov c w' (h.now hw (.tail _ (.tail _ (.head _)))) (hc.now hw (.tail _ (.tail _ (.head _)))) hz) (next := ?_))
  rintro v10 n10 w10 ⟨u3, rfl, hu3⟩ hn10
  have hu3s := hu3.sv
  refine gO_ ?_
  refine wl_fx (fx_call (spec := fun w' hw => cFinal_spec ra oa d w' (h.now hw (.tail _ (.tail _ (.tail _ (.head _))))) (cdo hw (.head _) (.tail _ (.head _)) hvl2 hS2) hz2) (next := ?_))
  rintro v11 n11 w11 ⟨u4, rfl, hu4⟩ hn11
  have hu4s := hu4.sv
  have e1 := vals_len t c
  have e2 := vals_len t d
  have e3 := finT_len t c
  have e4 := finT_len t d
  have g1 : ∀ i, i < t.evs.length → (valsT t c).getD i default = readV t c i := fun i hi => vals_get hi
  have g2 : ∀ i, i < t.evs.length → (valsT t d).getD i default = readV t d i := fun i hi => vals_get hi
  have g3 : ∀ i, i < t.ends.length → (finT t c).getD i default = finV t c i := fun i hi => finT_get hi
  have g4 : ∀ i, i < t.ends.length → (finT t d).getD i default = finV t d i := fun i hi => finT_get hi
  generalize valsT t c = V1 at *
  generalize valsT t d = V2 at *
  generalize finT t c = F1 at *
  generalize finT t d = F2 at *
  refine gO_ ?_
  refine wc_cond rfl (fun h5 => ?_) (fun h5 => ?_)
  · exfalso
    simp [dc_eq, e1, e2, e3, e4, hel] at h5
  clear h5
  refine gO_ ?_
  refine wc_loop (fun i : Nat => i ≤ t.evs.length) (fun i => [(25, true, .int .i64 i), (23, true, u4), (21, true, u3), (19, true, u2), (17, true, u1), (16, true, .pointer (some ⟨bd, 0, none⟩)), (14, true, .int .i64 x), (4, true, .pointer (some ⟨bt, 0, none⟩))])
    (fun _ => Mem [(w11, Fr n11), (w10, Fr n10), (w9, Fr n9), (w8, Fr n8), (w, All)] [.own ra 3 1 Eng.encI d.rf, pack2 3 23 oa vs d.co, .box bd [ra, oa] 33, .box bc [fv, ov] 33, .box bt [lv, iv, ev, bv, av, dv, cv, tv, nv] 30]) (fun i => t.evs.length - i) 0 (Nat.zero_le _) ⟨rfl, rfl, rfl, rfl, rfl, rfl, rfl, rfl, trivial⟩ (fun _ h => h) ?_
  intro i hi
  refine gO_ ?_
  refine wc_cond rfl (fun h6 => ?_) (fun h6 => ?_)
  · have h6' : i < t.evs.length := by rw [dc_true] at h6; omega
    have h61 : i < V1.length := by omega
    have h62 : i < V2.length := by omega
    refine gO_ ?_
    refine wc_draw [0, 1, 2, 3, 4, 5, 6, 7, 8, 9, 10, 11, 12, 13] mixed ?_
    refine kG_ ?_
    refine gO_ ?_
    refine wc_cond rfl (fun h7 => ?_) (fun h7 => ?_)
    · exfalso
      rw [g1 i h6', g2 i h6'] at h7
      by_cases e : i = x
      · simp [dc_eq, e] at h7
      · rw [hpv i e] at h7
        simp [dc_eq] at h7
    · refine gO_ ?_
      exact po_loop (i + 1) (by omega) (by omega) ⟨rfl, rfl, rfl, rfl, rfl, rfl, rfl, rfl, trivial⟩ (fun _ h => h)
  clear h6
  have hxd2 : x < d.rf.length := by omega
  have hil := init_len ht
  have hrf2 := rf_lt (cdE_parts hz2).2 hx
  rw [hdx] at hrf2
  have hI' : (t.evs.getD x default).loc < t.init.length := by omega
  refine gO_ ?_
  refine wc_cutA (fun _ : Unit => True) (fun _ => [(26, true, .int .i64 (readV t d x)), (23, true, u4), (21, true, u3), (19, true, u2), (14, true, .int .i64 x), (4, true, .pointer (some ⟨bt, 0, none⟩))])
    (fun _ => Mem [(w11, Fr n11), (w10, Fr n10), (w9, Fr n9), (w8, Fr n8), (w, All)] [.own ra 3 1 Eng.encI d.rf, pack2 3 23 oa vs d.co, .box bd [ra, oa] 33, .box bc [fv, ov] 33, .box bt [lv, iv, ev, bv, av, dv, cv, tv, nv] 30]) ?_ ?_
  · rw [hdx]
    refine wc_cond rfl (fun h8 => ?_) (fun h8 => ?_)
    · rw [dc_true] at h8
      refine gO_ ?_
      refine wc_draw [0, 1, 2, 3, 4, 5, 6, 7, 8, 9, 10] mixed ?_
      refine kG_ ?_
      rw [hpw, if_pos h8]
      exact po_cut () trivial ⟨rfl, rfl, rfl, rfl, rfl, rfl, trivial⟩ (fun _ h => h)
    · rw [dc_false] at h8
      refine gO_ ?_
      refine wc_draw [0, 1, 2, 3, 4, 5, 6, 7, 8, 9, 10] mixed ?_
      refine kG_ ?_
      rw [hdx, hpw, if_neg h8]
      exact po_cut () trivial ⟨rfl, rfl, rfl, rfl, rfl, rfl, trivial⟩ (fun _ h => h)
  rintro ⟨⟩ -
  refine gO_ ?_
  refine wc_loop (fun i : Nat => i ≤ t.ends.length) (fun i => [(27, true, .int .i64 i), (26, true, .int .i64 (readV t d x)), (23, true, u4), (21, true, u3), (19, true, u2), (14, true, .int .i64 x), (4, true, .pointer (some ⟨bt, 0, none⟩))])
    (fun _ => Mem [(w11, Fr n11), (w10, Fr n10), (w9, Fr n9), (w8, Fr n8), (w, All)] [.own ra 3 1 Eng.encI d.rf, pack2 3 23 oa vs d.co, .box bd [ra, oa] 33, .box bc [fv, ov] 33, .box bt [lv, iv, ev, bv, av, dv, cv, tv, nv] 30]) (fun i => t.ends.length - i) 0 (Nat.zero_le _) ⟨rfl, rfl, rfl, rfl, rfl, rfl, rfl, trivial⟩ (fun _ h => h) ?_
  intro i hi
  refine gO_ ?_
  refine wc_cond rfl (fun h9 => ?_) (fun h9 => ?_)
  · have h9' : i < t.ends.length := by rw [dc_true] at h9; omega
    have h91 : i < F1.length := by omega
    have h92 : i < F2.length := by omega
    refine gO_ ?_
    refine wc_draw [0, 1, 2, 3, 4, 5, 6, 7, 8, 9, 10, 11, 12, 13, 14, 15, 16, 17, 18, 19, 20, 21, 22, 23] mixed ?_
    refine kG_ ?_
    refine gO_ ?_
    refine wc_cond rfl (fun h10 => ?_) (fun h10 => ?_)
    · exfalso
      have a1 := hpe i
      have a2 := hpf i h9'
      rw [g3 i h9', g4 i h9'] at h10
      generalize (t.ends.getD i default).kind = K at *
      generalize (t.ends.getD i default).n = N at *
      generalize finV t c i = A1 at *
      generalize finV t d i = A2 at *
      by_cases e1 : K = 2
      · by_cases e2 : N = x
        · rw [a1 ⟨e1, e2⟩] at h10
          simp [dc_eq, e1, e2] at h10
        · rw [a2 (fun q => e2 q.2)] at h10
          simp [dc_eq, e1, e2] at h10
      · rw [a2 (fun q => e1 q.1)] at h10
        simp [dc_eq, e1] at h10
    · refine gO_ ?_
      exact po_loop (i + 1) (by omega) (by omega) ⟨rfl, rfl, rfl, rfl, rfl, rfl, rfl, trivial⟩ (fun _ h => h)
  have hxv : x < V2.length := by omega
  refine gO_ ?_
  refine wl_gx (h := gx_call (spec := fun _ w' hw => awake16_spec w')) (next := ?_)
  refine gO_ ?_
  refine pur_ret Try.results4 (.tmp rfl .nil) (.tail _ (.tail _ (.tail _ (.tail _ (.head _))))) fun w' hw => ?_
  rw [g2 x hx]
  simp [dc_eq]
  rfl
end Go.Proofs.Ytdpcdbepeemflaa
