/- The law WholeAlone, walked. -/
import Derived.Test.YtifgncgiiojikaaGreatDoorWaA
import Derived.Test.YtifgncgiiojikaaGreatDoorRvE
import Derived.Test.YtifgncgiiojikaaGreatDoorTsF
set_option linter.unusedSimpArgs false
set_option linter.unusedVariables false
namespace Go.Proofs.YtifgncgiiojikaaGreatDoor
open Go Go.Eng Go.Tc Go.Rl Go.Vw
attribute [local irreducible] wpList Code.wp bodyPost Exit.then Exit.inBlock Calls
theorem alone_len {t : Tr} {n : Nat} (hn : n ≤ t.evs.length) : (aloneT t n).evs.length = n := by
  show (t.evs.take n).length = n
  rw [List.length_take]; omega
theorem alone_in {bs : List Base} {H : List Ent} {w' : World} {u1 u2 u3 : Value} {t : Tr} {n a b c : Nat} (hw : Mem bs H w') (h1 : Ent.own u1 a 1 encT t.locs ∈ H) (h2 : Ent.own u2 b 1 Eng.encI t.init ∈ H) (h3 : Ent.own u3 c 6 encEv (t.evs.take n) ∈ H) :
    TrIn All w' u1 u2 u3 (.slice none 0 0) (.slice none 0 0) (.slice none 0 0) (.slice none 0 0) (.slice none 0 0) (.slice none 0 0) (aloneT t n) :=
  ⟨hw.lend h1, hw.lend h2, hw.lend h3, sl_nil _ _, sl_nil _ _, sl_nil _ _, sl_nil _ _, sl_nil _ _, sl_nil _ _⟩
set_option maxRecDepth 8000 in
set_option maxHeartbeats 12800000 in
theorem wholeAlone_spec {lv iv ev bv av dv cv tv nv : Value} {t : Tr} (fv ov : Value) (c : Cd) (w : World) (h : TrIn All w lv iv ev bv av dv cv tv nv t) (hc : CdIn All w fv ov c) (hB : TrBig t) (hT : Tab w) :
    Pur Tryz.prog 3 [.agg #[lv, iv, ev, bv, av, dv, cv, tv, nv], .agg #[fv, ov]] w fun _ v _ => v = .bool true := by
  have hfs := hc.rf.sv
  have hos := hc.cosv
  have hEl := h.evs.le
  refine enter_pur Tryz.func3 Tryz.ntmps3 rfl rfl ?_
  refine gO_ ?_
  refine wl_fx (fx_box (next := ?_)); intro bT
  refine gO_ ?_
  refine wl_fx (fx_box (next := ?_)); intro bC
  refine gO_ ?_
  refine wl_fx (fx_call_mk (spec := fun w' hw => rcopy15_spec w' (h.now hw (.head _)) hB) (next := ?_))
  rintro v n1 es w1 ⟨u1, u2, u3, u4, u5, u6, u7, u8, u9, ⟨hu1, hu2, hu3, hu4, hu5, hu6, hu7, hu8, hu9⟩, rfl, rfl⟩
  refine gO_ ?_
  refine wl_fx (fx_alloc (next := ?_)); intro b5
  refine gO_ ?_
  refine wl_fx (fx_store_box (i := 0) (hi := rfl) (next := ?_))
  refine gO_ ?_
  refine wc_cutB (fun s : Nat × Value => (s.1 ≤ t.evs.length ∧ SV s.2) ∧ ∀ j, j < s.1 → (evi t j).thread = (evi t 0).thread) (fun s => [(5, true, .pointer (some ⟨b5, 0, none⟩)), (3, true, .pointer (some ⟨bC, 0, none⟩))])
    (fun s => Mem [(w, All)] [.box b5 [u1, u2, s.2, u4, u5, u6, u7, u8, u9] 30, .own u1 9 1 encT t.locs, .own u2 3 1 Eng.encI t.init, .own s.2 36 6 encEv (t.evs.take s.1), .box bC [fv, ov] 33]) ?_ ?_
  · refine wc_loop (fun i : Nat => i ≤ t.evs.length ∧ ∀ j, j < i → (evi t j).thread = (evi t 0).thread) (fun s => [(6, true, .int .i64 s), (5, true, .pointer (some ⟨b5, 0, none⟩)), (3, true, .pointer (some ⟨bC, 0, none⟩))])
      (fun _ => Mem [(w, All)] [.box b5 [u1, u2, u3, u4, u5, u6, u7, u8, u9] 30, .own u1 9 1 encT t.locs, .own u2 3 1 Eng.encI t.init, .own u3 36 6 encEv t.evs, .box bC [fv, ov] 33]) (fun s => t.evs.length - s) 0 ⟨Nat.zero_le _, fun j hj => absurd hj (Nat.not_lt_zero _)⟩ ⟨rfl, rfl, rfl, trivial⟩ (fun _ h => (h.last rfl).sel [0, 1, 2, 3, 10] rfl (by decide)) ?_
    rintro i ⟨hi, hI⟩
    refine gO_ ?_
    refine wc_cond rfl (fun h1 => ?_) (fun h1 => ?_)
    · have h1' : i < t.evs.length := by rw [dc_true] at h1; omega
      have h0' : 0 < t.evs.length := by omega
      refine gO_ ?_
      refine wc_draw [0, 1, 2, 3, 4, 5, 6, 7, 8, 9, 10, 11] mixed ?_
      refine kG_ ?_
      refine gO_ ?_
      refine wc_cond rfl (fun h2 => ?_) (fun h2 => ?_)
      · refine gO_ ?_
        refine wl_a (v := cutV i u3) (h := qy_cut_own (n := i) (tt := 36) (xs := t.evs) (enc := encEv) ⟨_, rfl, fun _ => rfl⟩ ⟨_, rfl, fun _ => rfl⟩ (.tail _ (.tail _ (.tail _ (.head _)))) (fun _ => by omega)) (next := ?_)
        have hcs := hu3.cut i
        refine gO_ ?_
        refine wl_fx (fx_store_box (i := 0) (hi := rfl) (next := ?_))
        refine gO_ ?_
        refine po_cut (i, cutV i u3) ⟨⟨by dsimp only; omega, hcs⟩, hI⟩ ⟨rfl, rfl, trivial⟩ (fun _ h => ?_)
        exact (h.last rfl).cutOwn (τ := Ev) 3 rfl i (by omega)
      · refine gO_ ?_
        refine po_loop (i + 1) ⟨by omega, fun j hj => ?_⟩ (by omega) ⟨rfl, rfl, rfl, trivial⟩ (fun _ h => h.last rfl)
        by_cases q : j < i
        · exact hI j q
        · obtain rfl : j = i := by omega
          rw [Bool.eq_false_iff, Ne, Bool.not_eq_true', dc_false, Classical.not_not] at h2
          exact h2
    · obtain rfl : i = t.evs.length := by rw [dc_false] at h1; omega
      refine gO_ ?_
      refine po_cut (t.evs.length, u3) ⟨⟨Nat.le_refl _, hu3⟩, hI⟩ ⟨rfl, rfl, trivial⟩ (fun _ h => ?_)
      dsimp only
      rw [List.take_of_length_le (Nat.le_refl _)]
      exact h.last rfl
  rintro ⟨n, u3'⟩ ⟨⟨hn, hu3'⟩, hI⟩
  dsimp only at hn hu3' hI ⊢
  have hlen := alone_len hn
  have hlt : (t.evs.take n).length = n := hlen
  refine gO_ ?_
  refine wl_fx (fx_store_box (i := 0) (hi := rfl) (next := ?_))
  refine gO_ ?_
  refine wl_fx (fx_store_box (i := 0) (hi := rfl) (next := ?_))
  refine gO_ ?_
  refine wl_fx (fx_store_box (i := 0) (hi := rfl) (next := ?_))
  refine gO_ ?_
  refine wl_fx (fx_store_box (i := 0) (hi := rfl) (next := ?_))
  refine gO_ ?_
  refine wl_fx (fx_store_box (i := 0) (hi := rfl) (next := ?_))
  refine gO_ ?_
  refine wl_fx (fx_store_box (i := 0) (hi := rfl) (next := ?_))
  refine gO_ ?_
  refine wl_fx (fx_call (spec := fun w' hw => rtcheck_spec w' (alone_in hw (.tail _ (.head _)) (.tail _ (.tail _ (.head _))) (.tail _ (.tail _ (.tail _ (.head _)))))) (next := ?_))
  rintro v n2 w2 rfl hn2
  refine gO_ ?_
  refine wc_cond rfl (fun h1 => ?_) (fun h1 => ?_)
  · refine gO_ ?_
    refine pur_ret Tryz.results3 (.tmp rfl .nil) (.tail _ (.head _)) fun w' hw => ?_
    rfl
  have ht : trOk (aloneT t n) = true := by
    rw [Bool.not_eq_false', dc_true] at h1
    unfold trE at h1
    by_cases q : trOk (aloneT t n) = true
    · exact q
    · rw [if_neg q] at h1; omega
  clear h1
  have hone := alone_one (t := t) (n := n) hI
  have hO := range_ord (aloneT t n).evs.length
  have hkp : ∀ a b, a < (aloneT t n).evs.length → b < (aloneT t n).evs.length → poP (aloneT t n) a b = true → posN (List.range (aloneT t n).evs.length) a < posN (List.range (aloneT t n).evs.length) b := fun a b ha hb' hp => by
    rw [range_pos ha, range_pos hb']
    rw [po_lt ht ha hb', Bool.and_eq_true, decide_eq_true_eq] at hp
    exact hp.1
  have hz1 := candO_ok ht hO
  have hsc := candO_sc ht hO hkp
  have hts : tsB (aloneT t n) (candO (aloneT t n) (List.range (aloneT t n).evs.length)) = true := sc_ts hsc
  have hrv : rvB (aloneT t n) (candO (aloneT t n) (List.range (aloneT t n).evs.length)) = true := ts_rv hts
  have hb64 := (trOk_lens ht).1
  refine gO_ ?_
  refine kp_nil 3 1 Eng.encI ?_
  refine wc_loop (fun s : Nat × Value => s.1 ≤ n ∧ SV s.2) (fun s => [(8, true, .int .i64 s.1), (7, true, s.2), (5, true, .pointer (some ⟨b5, 0, none⟩)), (3, true, .pointer (some ⟨bC, 0, none⟩))])
    (fun s => Mem [(w, All)] [ownI s.2 (ints (List.range s.1)), .box b5 [u1, u2, u3', .slice none 0 0, .slice none 0 0, .slice none 0 0, .slice none 0 0, .slice none 0 0, .slice none 0 0] 30, .own u1 9 1 encT t.locs, .own u2 3 1 Eng.encI t.init, .own u3' 36 6 encEv (t.evs.take n), .box bC [fv, ov] 33]) (fun s => n - s.1) (0, .slice none 0 0) ⟨Nat.zero_le _, sv_nil⟩ ⟨rfl, rfl, rfl, rfl, trivial⟩ (fun _ h => h.last rfl) ?_
  rintro ⟨k, va⟩ ⟨hk, hva⟩
  dsimp only at hk hva ⊢
  have hkl : (ints (List.range k)).length = k := by unfold ints; rw [List.length_map, List.length_range]
  refine gO_ ?_
  refine wc_cond rfl (fun h5 => ?_) (fun h5 => ?_)
  · have h5' : k < n := by rw [dc_true] at h5; omega
    refine gO_ ?_
    refine wl_fx (fx_lit (next := ?_))
    intro v5 hv5
    refine gO_ ?_
    refine wl_fx (fx_append_own (k := 1) (hk := rfl) (hm := .head _) (hlen := by simp only [List.length_map, List.length_cons, List.length_nil]; omega) (next := ?_))
    intro v6 hv6
    refine gO_ ?_
    refine po_loop (k + 1, v6) ⟨by dsimp only; omega, hv6⟩ (by dsimp only; omega) ⟨rfl, rfl, rfl, rfl, trivial⟩ (fun _ h => ?_)
    dsimp only
    rw [ints_range_succ]
    exact h.tail
  obtain rfl : k = n := by rw [dc_false] at h5; omega
  clear h5
  refine gO_ ?_
  refine wl_fx (fx_call (spec := fun w' hw => scand_ok va (List.range (aloneT t k).evs.length) w' (alone_in hw (.tail _ (.tail _ (.head _))) (.tail _ (.tail _ (.tail _ (.head _)))) (.tail _ (.tail _ (.tail _ (.tail _ (.head _)))))) (by rw [hlen]; exact hw.lend (.head _)) ht hO hkp) (next := ?_))
  rintro v n4 w4 ⟨rv, qv, rfl, hCd⟩ hn4
  have hsr := hCd.rf.sv
  have hsq := hCd.cosv
  refine gO_ ?_
  refine wl_fx (fx_alloc (next := ?_)); intro b12
  refine gO_ ?_
  refine wl_fx (fx_store_box (i := 0) (hi := rfl) (next := ?_))
  refine gO_ ?_
  refine wl_gx (h := gx_call (spec := fun _ w' hw => rCheck_spec rv qv _ w' (alone_in hw (.tail _ (.tail _ (.tail _ (.head _)))) (.tail _ (.tail _ (.tail _ (.tail _ (.head _))))) (.tail _ (.tail _ (.tail _ (.tail _ (.tail _ (.head _))))))) (hCd.now hw (.head _)))) (next := ?_)
  rw [hz1]
  refine gO_ ?_
  refine wc_cond rfl (fun h2 => ?_) (fun h2 => ?_)
  · simp [dc_eq] at h2
  clear h2
  refine gO_ ?_
  refine wl_fx (fx_call (spec := fun w' hw => scons_spec rv qv _ w' (alone_in hw (.tail _ (.tail _ (.tail _ (.head _)))) (.tail _ (.tail _ (.tail _ (.tail _ (.head _))))) (.tail _ (.tail _ (.tail _ (.tail _ (.tail _ (.head _))))))) (hCd.now hw (.head _)) (hT.now hw (.tail _ (.head _)))) (next := ?_))
  rintro v n5 w5 rfl hn5
  rw [hz1, hsc]
  refine gO_ ?_
  refine wl_fx (fx_call (spec := fun w' hw => tcons_spec rv qv _ w' (alone_in hw (.tail _ (.tail _ (.tail _ (.head _)))) (.tail _ (.tail _ (.tail _ (.tail _ (.head _))))) (.tail _ (.tail _ (.tail _ (.tail _ (.tail _ (.head _))))))) (hCd.now hw (.tail _ (.head _))) (hT.now hw (.tail _ (.tail _ (.head _))))) (next := ?_))
  rintro v n6 w6 rfl hn6
  rw [hz1, hts]
  refine gO_ ?_
  refine wl_fx (fx_call (spec := fun w' hw => rvcons_spec rv qv _ w' (alone_in hw (.tail _ (.tail _ (.tail _ (.head _)))) (.tail _ (.tail _ (.tail _ (.tail _ (.head _))))) (.tail _ (.tail _ (.tail _ (.tail _ (.tail _ (.head _))))))) (hCd.now hw (.tail _ (.tail _ (.head _)))) (hT.now hw (.tail _ (.tail _ (.tail _ (.head _)))))) (next := ?_))
  rintro v n7 w7 rfl hn7
  rw [hz1, hrv]
  refine gO_ ?_
  refine wc_cond rfl (fun h2 => ?_) (fun h2 => ?_)
  · simp [dc_eq] at h2
  clear h2
  refine gO_ ?_
  refine wl_fx (fx_call (spec := fun w' hw => rCheck_spec fv ov c w' (alone_in hw (.tail _ (.tail _ (.tail _ (.head _)))) (.tail _ (.tail _ (.tail _ (.tail _ (.head _))))) (.tail _ (.tail _ (.tail _ (.tail _ (.tail _ (.head _))))))) (hc.now hw (.tail _ (.tail _ (.tail _ (.tail _ (.head _))))))) (next := ?_))
  rintro v n8 w8 rfl hn8
  refine gO_ ?_
  refine wc_cond rfl (fun h2 => ?_) (fun h2 => ?_)
  · refine gO_ ?_
    refine pur_ret Tryz.results3 (.tmp rfl .nil) (.tail _ (.tail _ (.tail _ (.tail _ (.tail _ (.head _)))))) fun w' hw => ?_
    rfl
  have hz : cdE (aloneT t k) c = 0 := by rw [Bool.not_eq_false', dc_true] at h2; exact h2
  clear h2
  obtain ⟨e1, e2, e3⟩ := one_all hz hone
  refine gO_ ?_
  refine wl_fx (fx_call (spec := fun w' hw => scons_spec fv ov c w' (alone_in hw (.tail _ (.tail _ (.tail _ (.head _)))) (.tail _ (.tail _ (.tail _ (.tail _ (.head _))))) (.tail _ (.tail _ (.tail _ (.tail _ (.tail _ (.head _))))))) (hc.now hw (.tail _ (.tail _ (.tail _ (.tail _ (.tail _ (.head _))))))) (hT.now hw (.tail _ (.tail _ (.tail _ (.tail _ (.tail _ (.head _)))))))) (next := ?_))
  rintro v n9 w9 rfl hn9
  refine gO_ ?_
  refine wl_fx (fx_call (spec := fun w' hw => tcons_spec fv ov c w' (alone_in hw (.tail _ (.tail _ (.tail _ (.head _)))) (.tail _ (.tail _ (.tail _ (.tail _ (.head _))))) (.tail _ (.tail _ (.tail _ (.tail _ (.tail _ (.head _))))))) (hc.now hw (.tail _ (.tail _ (.tail _ (.tail _ (.tail _ (.tail _ (.head _)))))))) (hT.now hw (.tail _ (.tail _ (.tail _ (.tail _ (.tail _ (.tail _ (.head _))))))))) (next := ?_))
  rintro v n10 w10 rfl hn10
  refine gO_ ?_
  refine wl_fx (fx_call (spec := fun w' hw => rvcons_spec fv ov c w' (alone_in hw (.tail _ (.tail _ (.tail _ (.head _)))) (.tail _ (.tail _ (.tail _ (.tail _ (.head _))))) (.tail _ (.tail _ (.tail _ (.tail _ (.tail _ (.head _))))))) (hc.now hw (.tail _ (.tail _ (.tail _ (.tail _ (.tail _ (.tail _ (.tail _ (.head _))))))))) (hT.now hw (.tail _ (.tail _ (.tail _ (.tail _ (.tail _ (.tail _ (.tail _ (.head _)))))))))) (next := ?_))
  rintro v n11 w11 rfl hn11
  refine gO_ ?_
  refine wl_fx (fx_call (spec := fun w' hw => same_top_spec fv ov rv qv c (candO (aloneT t k) (List.range (aloneT t k).evs.length)) w' (hc.now hw (.tail _ (.tail _ (.tail _ (.tail _ (.tail _ (.tail _ (.tail _ (.tail _ (.head _)))))))))) (hCd.now hw (.tail _ (.tail _ (.tail _ (.tail _ (.tail _ (.tail _ (.tail _ (.head _)))))))))) (next := ?_))
  rintro v n12 w12 rfl hn12
  refine gO_ ?_
  refine pur_ret Tryz.results3 (.tmp rfl .nil) (.tail _ (.tail _ (.tail _ (.tail _ (.tail _ (.tail _ (.tail _ (.tail _ (.tail _ (.head _)))))))))) fun w' hw => ?_
  rw [e3, e2, e1]
  simp
  rfl
end Go.Proofs.YtifgncgiiojikaaGreatDoor
