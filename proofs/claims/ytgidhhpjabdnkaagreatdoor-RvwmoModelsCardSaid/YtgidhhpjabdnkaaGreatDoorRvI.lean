/- The law RvwmoModels, walked (printed by gen_rv7.py). -/
import Derived.Test.YtgidhhpjabdnkaaGreatDoorRvH
set_option linter.unusedSimpArgs false
set_option linter.unusedVariables false
namespace Go.Proofs.YtgidhhpjabdnkaaGreatDoor
open Go Go.Eng Go.Tc Go.Rl Go.Vw
attribute [local irreducible] wpList Code.wp bodyPost Exit.then Exit.inBlock Calls
theorem withinS_in {m : Nat} {a b : List W} (oa : relOk m a = true) (ob : relOk m b = true) (h : ∀ i j, i < m → j < m → bt a i j = true → bt b i j = true) : withinS m a m b = true := by
  unfold withinS
  rw [if_pos (erTwo_ok oa ob), List.all_eq_true]
  intro i hi
  rw [Int.toNat_natCast, List.mem_range] at hi
  refine decide_eq_true (BitVec.eq_of_getLsbD_eq fun j hj => ?_)
  rw [BitVec.getLsbD_and, BitVec.getLsbD_not, BitVec.getLsbD_zero]
  by_cases hb : bt a i j = true
  · by_cases hjm : j < m
    · have := h i j hi hjm hb
      unfold bt at this
      rw [this]; simp
    · rw [relOk_bt oa i j (by omega)] at hb; cases hb
  · have : (a.getD i default).getLsbD j = false := by simpa [bt] using hb
    rw [this]; rfl
theorem within_rel {n : Nat} (hn : n ≤ 64) {p q : Nat → Nat → Bool} (h : ∀ a b, a < n → b < n → p a b = true → q a b = true) : withinS n (relOf n p) n (relOf n q) = true ∧ erTwo n (relOf n p) n (relOf n q) = 0 := by
  have oa := relOk_relOf n p hn
  have ob := relOk_relOf n q hn
  exact ⟨withinS_in oa ob fun i j hi hj hq => by
    rw [relOf_bt _ _ hn _ _ hi hj] at hq ⊢
    exact h i j hi hj hq, erTwo_ok oa ob⟩

set_option maxRecDepth 8000 in
set_option maxHeartbeats 12800000 in
theorem rvwmoModels_spec {lv iv ev bv av dv cv tv nv : Value} {t : Tr} (fv ov : Value) (c : Cd) (w : World) (h : TrIn All w lv iv ev bv av dv cv tv nv t) (hc : CdIn All w fv ov c) (hT : Tab w) :
    Pur Tryz.prog 7 [.agg #[lv, iv, ev, bv, av, dv, cv, tv, nv], .agg #[fv, ov]] w fun _ v _ => v = .bool true := by
  have hfs := hc.rf.sv
  have hos := hc.cosv
  have g1 := h.locs.sv; have g2 := h.init.sv; have g3 := h.evs.sv; have g4 := h.bars.sv; have g5 := h.addr.sv; have g6 := h.data.sv; have g7 := h.ctrl.sv; have g8 := h.things.sv; have g9 := h.ends.sv
  refine enter_pur Tryz.func7 Tryz.ntmps7 rfl rfl ?_
  refine gO_ ?_
  refine wl_fx (fx_box (next := ?_)); intro bt
  refine gO_ ?_
  refine wl_fx (fx_box (next := ?_)); intro bc
  refine gO_ ?_
  refine wl_fx (fx_call (spec := fun w' hw => scons_spec fv ov c w' (h.now hw (.head _)) (hc.now hw (.head _)) (hT.now hw (.head _))) (next := ?_))
  rintro v n1 w1 rfl hn1
  refine gO_ ?_
  refine wl_fx (fx_call (spec := fun w' hw => tcons_spec fv ov c w' (h.now hw (.tail _ (.head _))) (hc.now hw (.tail _ (.head _))) (hT.now hw (.tail _ (.head _)))) (next := ?_))
  rintro v n2 w2 rfl hn2
  refine gO_ ?_
  refine wl_fx (fx_call (spec := fun w' hw => rvcons_spec fv ov c w' (h.now hw (.tail _ (.tail _ (.head _)))) (hc.now hw (.tail _ (.tail _ (.head _)))) (hT.now hw (.tail _ (.tail _ (.head _))))) (next := ?_))
  rintro v n3 w3 rfl hn3
  refine gO_ ?_
  refine wc_cond rfl (fun h1 => ?_) (fun h1 => ?_)
  · simp [dc_eq] at h1
  clear h1
  refine gO_ ?_
  refine wc_cond rfl (fun h2 => ?_) (fun h2 => ?_)
  · refine gO_ ?_
    refine wl_fx (fx_call (spec := fun w' hw => rCheck_spec fv ov c w' (h.now hw (.tail _ (.tail _ (.tail _ (.head _))))) (hc.now hw (.tail _ (.tail _ (.tail _ (.head _)))))) (next := ?_))
    rintro v n4 w4 rfl hn4
    refine gO_ ?_
    refine wl_gx (h := gx_call (spec := fun _ w' hw => rvawake_spec w' (hT.now hw (.tail _ (.tail _ (.tail _ (.tail _ (.head _)))))))) (next := ?_)
    refine gO_ ?_
    refine pur_ret Tryz.results7 (.tmp rfl .nil) (.tail _ (.tail _ (.tail _ (.tail _ (.head _))))) fun w' hw => ?_
    simp only [dc_eq, decide_true, Bool.and_true, beq_self_eq_true]
    rfl
  · have hz : cdE t c = 0 := by rw [Bool.not_eq_false', dc_true] at h2; exact h2
    obtain ⟨ht, hcb⟩ := cdE_ok hz
    obtain ⟨hb, hlb⟩ := trOk_lens ht
    obtain ⟨hN, hR, hE0⟩ := tr_ok ht
    obtain ⟨win1, wer1⟩ := within_rel hb (p := rvP t c) (q := ppP t) fun a b _ _ hq => rv_pp ht hq
    obtain ⟨win2, wer2⟩ := within_rel hb (p := ppP t) (q := poP t) fun a b _ _ hq => by unfold ppP at hq; rw [Bool.and_eq_true] at hq; exact hq.1
    refine gO_ ?_
    refine wl_fx (fx_call_mk (spec := fun w' hw => rvPpo_spec fv ov c w' (h.now hw (.tail _ (.tail _ (.tail _ (.head _))))) (hc.now hw (.tail _ (.tail _ (.tail _ (.head _))))) (hT.now hw (.tail _ (.tail _ (.tail _ (.head _)))))) (next := ?_))
    rintro v n6 es w6 ⟨sp, hsp, rfl, rfl⟩
    rw [if_pos hz, if_pos hz, hz]
    refine gO_ ?_
    refine wl_fx (fx_alloc (next := ?_)); intro bp
    refine gO_ ?_
    refine wl_fx (fx_store_box (i := 0) (hi := rfl) (next := ?_))
    refine gO_ ?_
    refine wl_fx (fx_call_mk (spec := fun w' hw => tppo_spec (t := t) w' (h.now hw (.tail _ (.tail _ (.tail _ (.tail _ (.head _))))))) (next := ?_))
    rintro v n7 es w7 ⟨sq, hsq, rfl, rfl⟩
    rw [hN, hR (ppP t), hE0]
    refine gO_ ?_
    refine wl_fx (fx_alloc (next := ?_)); intro bq
    refine gO_ ?_
    refine wl_fx (fx_store_box (i := 0) (hi := rfl) (next := ?_))
    refine gO_ ?_
    refine wl_fx (fx_call_mk (spec := fun w' hw => vof_spec fv ov c w' (h.now hw (.tail _ (.tail _ (.tail _ (.tail _ (.tail _ (.head _))))))) (hc.now hw (.tail _ (.tail _ (.tail _ (.tail _ (.tail _ (.head _))))))) (hT.now hw (.tail _ (.tail _ (.tail _ (.tail _ (.tail _ (.head _)))))))) (next := ?_))
    rintro v n8 es w8 ⟨s1, s2, s3, s4, s5, s6, s7, s8, s9, ⟨hs1, hs2, hs3, hs4, hs5, hs6, hs7, hs8, hs9⟩, rfl, rfl⟩
    rw [vwOf_ok hz, hz]
    refine gO_ ?_
    refine wl_fx (fx_alloc (next := ?_)); intro bv
    refine gO_ ?_
    refine wl_fx (fx_store_box (i := 0) (hi := rfl) (next := ?_))
    refine gO_ ?_
    refine wc_cond rfl (fun h3 => ?_) (fun h3 => ?_)
    · simp [dc_eq] at h3
    clear h3
    refine gO_ ?_
    refine wl_fx (fx_call (spec := fun w' hw => rwithin_spec t.evs.length sp (relOf t.evs.length (rvP t c)) t.evs.length sq (relOf t.evs.length (ppP t)) w' (hw.lend (.tail _ (.tail _ (.tail _ (.tail _ (.tail _ (.tail _ (.tail _ (.tail _ (.tail _ (.tail _ (.tail _ (.tail _ (.tail _ (.head _))))))))))))))) (hw.lend (.tail _ (.tail _ (.tail _ (.tail _ (.tail _ (.tail _ (.tail _ (.tail _ (.tail _ (.tail _ (.tail _ (.head _)))))))))))))) (next := ?_))
    rintro v n9 w9 rfl hn9
    rw [win1, wer1]
    refine gO_ ?_
    refine wl_fx (fx_call (spec := fun w' hw => rwithin_spec t.evs.length sq (relOf t.evs.length (ppP t)) t.evs.length s1 (relOf t.evs.length (poP t)) w' (hw.lend (.tail _ (.tail _ (.tail _ (.tail _ (.tail _ (.tail _ (.tail _ (.tail _ (.tail _ (.tail _ (.tail _ (.head _))))))))))))) (hw.lend (.tail _ (.head _)))) (next := ?_))
    rintro v n10 w10 rfl hn10
    rw [win2, wer2]
    refine gO_ ?_
    refine wl_gx (h := gx_call (spec := fun _ w' hw => rvawake_spec w' (hT.now hw (.tail _ (.tail _ (.tail _ (.tail _ (.tail _ (.tail _ (.tail _ (.tail _ (.head _)))))))))))) (next := ?_)
    refine gO_ ?_
    refine pur_ret Tryz.results7 (.tmp rfl .nil) (.tail _ (.tail _ (.tail _ (.tail _ (.tail _ (.tail _ (.tail _ (.tail _ (.head _))))))))) fun w' hw => ?_
    have hst : (!scB t c || tsB t c) = true := by
      cases hs : scB t c
      · rfl
      · rw [sc_ts hs]; rfl
    have htr : (!tsB t c || rvB t c) = true := by
      cases hs : tsB t c
      · rfl
      · rw [ts_rv hs]; rfl
    simp only [dc_eq, decide_true, Bool.and_true, beq_self_eq_true, hst, htr]
    rfl

end Go.Proofs.YtgidhhpjabdnkaaGreatDoor