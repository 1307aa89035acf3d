/- The law RvwmoFewer, walked; alembicref20.Happens (printed by gen_fw.py). -/
import Derived.Test.YtgidhhpjabdnkaaGreatDoorFwB
set_option linter.unusedSimpArgs false
set_option linter.unusedVariables false
namespace Go.Proofs.YtgidhhpjabdnkaaGreatDoor
open Go Go.Eng Go.Tc Go.Rl Go.Vw
attribute [local irreducible] wpList Code.wp bodyPost Exit.then Exit.inBlock Calls
set_option maxHeartbeats 3200000 in
theorem rhapp20_spec {t : Tr} (c : Cd) (p : Nat → Nat → Bool) (s0 s1 s2 s3 s4 s5 s6 s7 s8 s9 : Value) (w : World) (hb : t.evs.length ≤ 64) (r0 : Sl All w encW 1 s0 (relOf t.evs.length p)) (r4 : Sl All w encW 1 s4 (relOf t.evs.length (exP t (rfP t c)))) (r5 : Sl All w encW 1 s5 (relOf t.evs.length (coP t c))) (r7 : Sl All w encW 1 s7 (relOf t.evs.length (frP t c))) (hs1 : SV s1) (hs2 : SV s2) (hs3 : SV s3) (hs4 : SV s4) (hs5 : SV s5) (hs6 : SV s6) (hs7 : SV s7) (hs8 : SV s8) (hs9 : SV s9) :
    Mk Tryz.prog 18 [.agg #[.int .i64 t.evs.length, s0], .agg #[.int .i64 t.evs.length, s1, .int .i64 t.evs.length, s2, .int .i64 t.evs.length, s3, .int .i64 t.evs.length, s4, .int .i64 t.evs.length, s5, .int .i64 t.evs.length, s6, .int .i64 t.evs.length, s7, .int .i64 t.evs.length, s8, .int .i64 t.evs.length, s9]] w (Rel1Ψ t.evs.length (relOf t.evs.length fun i j => ((p i j || exP t (rfP t c) i j) || coP t c i j) || frP t c i j)) := by
  have hs0 := r0.sv
  refine enter_mk Tryz.func18 Tryz.ntmps18 rfl rfl ?_
  refine gO_ ?_
  refine wl_fx (fx_box (next := ?_)); intro b2
  refine gO_ ?_
  refine wl_fx (fx_box (next := ?_)); intro b3
  refine gO_ ?_
  refine wl_fx (fx_alloc (next := ?_)); intro b4
  refine gO_ ?_
  refine wl_fx (fx_call_mk (spec := fun w' hw => runion_ok (relOk_relOf _ p hb) (relOk_relOf _ (exP t (rfP t c)) hb) (hw.now r0 (.head _)) (hw.now r4 (.head _))) (next := ?_))
  rintro v n1 es w1 ⟨u1, hu1, rfl, rfl⟩
  rw [relOf_uni hb]
  refine gO_ ?_
  refine wl_fx (fx_alloc (next := ?_)); intro b5
  refine gO_ ?_
  refine wl_fx (fx_store_box (i := 0) (hi := rfl) (next := ?_))
  refine gO_ ?_
  refine wl_fx (fx_call_mk (spec := fun w' hw => runion_ok (relOk_relOf _ (fun i j => p i j || exP t (rfP t c) i j) hb) (relOk_relOf _ (coP t c) hb) (hw.lend (.tail _ (.head _))) (hw.now r5 (.tail _ (.head _)))) (next := ?_))
  rintro v n2 es w2 ⟨u2, hu2, rfl, rfl⟩
  rw [relOf_uni hb]
  refine gO_ ?_
  refine wl_fx (fx_alloc (next := ?_)); intro b6
  refine gO_ ?_
  refine wl_fx (fx_store_box (i := 0) (hi := rfl) (next := ?_))
  refine gO_ ?_
  refine wl_fx (fx_call_mk (spec := fun w' hw => runion_ok (relOk_relOf _ (fun i j => (p i j || exP t (rfP t c) i j) || coP t c i j) hb) (relOk_relOf _ (frP t c) hb) (hw.lend (.tail _ (.head _))) (hw.now r7 (.tail _ (.tail _ (.head _))))) (next := ?_))
  rintro v n3 es w3 ⟨u3, hu3, rfl, rfl⟩
  rw [relOf_uni hb]
  refine gO_ ?_
  refine wl_fx (fx_alloc (next := ?_)); intro b7
  refine gO_ ?_
  refine wl_fx (fx_store_box (i := 0) (hi := rfl) (next := ?_))
  refine gO_ ?_
  refine wl_fx (fx_store_box (i := 6) (hi := rfl) (next := ?_))
  refine gO_ ?_
  exact mk_ret Tryz.results18 (.cellN inferInstance rfl (.tail _ (.tail _ (.tail _ (.tail _ (.tail _ (.tail _ (.head _))))))) rfl .nil) (.tail _ (.tail _ (.tail _ (.head _)))) [_] [1] rfl (by decide) fun w' hw => ⟨u3, hu3, rfl, rfl⟩


theorem bare_open {t : Tr} {c : Cd} (hz : cdE t c = 0) : rvB (cutT t [] [] [] []) c = (cohB t c && acycS t.evs.length (relOf t.evs.length fun i j => (((ruleP (cutT t [] [] [] []) c ((1 : Nat) : Int) i j || ruleP (cutT t [] [] [] []) c ((2 : Nat) : Int) i j) || exP t (rfP t c) i j) || coP t c i j) || frP t c i j)) := by
  unfold rvB
  rw [cut_coh (List.nil_sublist _) (List.nil_sublist _) (List.nil_sublist _) (List.nil_sublist _) hz]
  have e : relOf t.evs.length (rhP (cutT t [] [] [] []) c) = relOf t.evs.length fun i j => (((ruleP (cutT t [] [] [] []) c ((1 : Nat) : Int) i j || ruleP (cutT t [] [] [] []) c ((2 : Nat) : Int) i j) || exP t (rfP t c) i j) || coP t c i j) || frP t c i j := relOf_ext fun a b _ _ => by
    unfold rhP
    rw [bare_rv]
    rfl
  show (cohB t c && acycS t.evs.length (relOf t.evs.length (rhP (cutT t [] [] [] []) c))) = _
  rw [e]
theorem bare_rule {lv iv ev bv av dv cv tv nv : Value} {t : Tr} (fv ov : Value) (c : Cd) (w : World) (h : TrIn All w lv iv ev bv av dv cv tv nv t) (hc : CdIn All w fv ov c) (hT : Tab w) (k : Nat) (hk1 : 1 ≤ k) (hk2 : k ≤ 13) (hz : cdE t c = 0) {lv' iv' ev' bv' av' dv' cv' tv' nv' : Value} (hb : TrIn All w lv' iv' ev' bv' av' dv' cv' tv' nv' (cutT t [] [] [] [])) :
    Pur Tryz.prog 14 [.agg #[lv', iv', ev', bv', av', dv', cv', tv', nv'], .agg #[fv, ov], .int .i64 k] w fun m v w' => ∃ s, SV s ∧ v = .tuple #[.agg #[.int .i64 t.evs.length, s], .int .i64 0] ∧ Sl (Fr m) w' encW 1 s (relOf t.evs.length (ruleP (cutT t [] [] [] []) c k)) :=
  rvRule_ok fv ov c w hb hc hT k hk1 hk2 (cut_z (List.nil_sublist _) (List.nil_sublist _) (List.nil_sublist _) (List.nil_sublist _) hz)

set_option maxRecDepth 8000 in
set_option maxHeartbeats 12800000 in
theorem rvwmoFewer_spec {lv iv ev bv av dv cv tv nv : Value} {t : Tr} (fv ov : Value) (c : Cd) (w : World) (h : TrIn All w lv iv ev bv av dv cv tv nv t) (hc : CdIn All w fv ov c) (mask : W) (hB : TrBig t) (hT : Tab w) :
    Pur Tryz.prog 3 [.agg #[lv, iv, ev, bv, av, dv, cv, tv, nv], .agg #[fv, ov], u64 mask] w fun _ v _ => v = .bool true := by
  have hfs := hc.rf.sv
  have hos := hc.cosv
  have g1 := h.locs.sv; have g2 := h.init.sv; have g3 := h.evs.sv; have g4 := h.bars.sv; have g5 := h.addr.sv; have g6 := h.data.sv; have g7 := h.ctrl.sv; have g8 := h.things.sv; have g9 := h.ends.sv
  refine enter_pur Tryz.func3 Tryz.ntmps3 rfl rfl ?_
  refine gO_ ?_
  refine wl_fx (fx_box (next := ?_)); intro bT
  refine gO_ ?_
  refine wl_fx (fx_box (next := ?_)); intro bC
  refine gO_ ?_
  refine wl_fx (fx_call (spec := fun w' hw => rvcons_spec fv ov c w' (h.now hw (.head _)) (hc.now hw (.head _)) (hT.now hw (.head _))) (next := ?_))
  rintro v n1 w1 rfl hn1
  refine gO_ ?_
  refine wc_cond rfl (fun h1 => ?_) (fun h1 => ?_)
  · refine gO_ ?_
    refine wl_fx (fx_call (spec := fun w' hw => rCheck_spec fv ov c w' (h.now hw (.tail _ (.head _))) (hc.now hw (.tail _ (.head _)))) (next := ?_))
    rintro v n2 w2 rfl hn2
    refine gO_ ?_
    refine wl_gx (h := gx_call (spec := fun _ w' hw => rvawake_spec w' (hT.now hw (.tail _ (.tail _ (.head _)))))) (next := ?_)
    refine gO_ ?_
    refine pur_ret Tryz.results3 (.tmp rfl .nil) (.tail _ (.tail _ (.head _))) fun w' hw => ?_
    simp only [dc_eq, decide_true, Bool.and_true, beq_self_eq_true]
    rfl
  have hz : cdE t c = 0 := by rw [Bool.not_eq_false', dc_true] at h1; exact h1
  clear h1
  have ht := (cdE_ok hz).1
  have hb := (trOk_lens ht).1
  have zF : cdE (fewT t mask) c = 0 := cut_z (few_sub _ _ _) (few_sub _ _ _) (few_sub _ _ _) (few_sub _ _ _) hz
  have zN : cdE (cutT t [] [] [] []) c = 0 := cut_z (List.nil_sublist _) (List.nil_sublist _) (List.nil_sublist _) (List.nil_sublist _) hz
  have m1 : rvB t c = true → rvB (fewT t mask) c = true := cut_may (few_sub _ _ _) (few_sub _ _ _) (few_sub _ _ _) (few_sub _ _ _) hz
  have m2 : rvB (fewT t mask) c = true → rvB (cutT t [] [] [] []) c = true := cut_may (t := fewT t mask) (List.nil_sublist _) (List.nil_sublist _) (List.nil_sublist _) (List.nil_sublist _) zF
  have hopen := bare_open hz
  refine gO_ ?_
  refine wc_draw [0, 1, 3, 2, 4, 5, 6, 7, 8, 9] mixed ?_
  refine kG_ ?_
  refine kg_f _ (h := fx_call (spec := fun w' hw => fewer_spec mask w' (h.now hw (.tail _ (.head _))) hB) (next := ?_)) (hSS := fun _ h => h)
  rintro v n4 w4 ⟨lv1, iv1, ev1, bv1, av1, dv1, cv1, tv1, nv1, rfl, hT1⟩ hn4
  refine kp_S ?_ (fun _ h => h.tailB)
  refine kG_ ?_
  refine kg_f _ (h := fx_call (spec := fun w' hw => rvcons_spec (t := fewT t mask) fv ov c w' (hT1.now hw (.head _)) (hc.now hw (.tail _ (.tail _ (.head _)))) (hT.now hw (.tail _ (.tail _ (.head _))))) (next := ?_)) (hSS := fun _ h => h)
  rintro v n5 w5 rfl hn5
  rw [zF]
  refine kp_S ?_ (fun _ h => h.tailB.tailB)
  refine kG_ ?_
  refine gO_ ?_
  refine wl_fx (fx_call (spec := fun w' hw => fewer_spec 9223372036854775807#64 w' (h.now hw (.tail _ (.tail _ (.tail _ (.head _))))) hB) (next := ?_))
  rintro v n6 w6 ⟨lv2, iv2, ev2, bv2, av2, dv2, cv2, tv2, nv2, rfl, hT2⟩ hn6
  rw [fewT_none] at hT2
  have g1 := hT2.locs.sv; have g2 := hT2.init.sv; have g3 := hT2.evs.sv; have g4 := hT2.bars.sv; have g5 := hT2.addr.sv; have g6 := hT2.data.sv; have g7 := hT2.ctrl.sv; have g8 := hT2.things.sv; have g9 := hT2.ends.sv
  refine gO_ ?_
  refine wl_fx (fx_alloc (next := ?_)); intro bbare
  refine gO_ ?_
  refine wl_fx (fx_store_box (i := 0) (hi := rfl) (next := ?_))
  refine gO_ ?_
  refine wl_fx (fx_call (spec := fun w' hw => rvcons_spec (t := cutT t [] [] [] []) fv ov c w' (hT2.now hw (.head _)) (hc.now hw (.tail _ (.tail _ (.tail _ (.tail _ (.head _)))))) (hT.now hw (.tail _ (.tail _ (.tail _ (.tail _ (.head _))))))) (next := ?_))
  rintro v n7 w7 rfl hn7
  rw [zN, hz]
  refine gO_ ?_
  refine wc_cond rfl (fun h2 => ?_) (fun h2 => ?_)
  · exfalso
    revert h2
    cases e1 : rvB t c <;> cases e2 : rvB (fewT t mask) c <;> cases e3 : rvB (cutT t [] [] [] []) c <;> simp [dc_eq]
    all_goals first | (have := m1 e1; rw [e2] at this; cases this; done) | (have := m2 e2; rw [e3] at this; cases this; done)
  clear h2
  refine gO_ ?_
  refine wl_fx (fx_call (spec := fun w' hw => vcoh_spec fv ov c w' (h.now hw (.tail _ (.tail _ (.tail _ (.tail _ (.tail _ (.head _))))))) (hc.now hw (.tail _ (.tail _ (.tail _ (.tail _ (.tail _ (.head _))))))) (hT.now hw (.tail _ (.tail _ (.tail _ (.tail _ (.tail _ (.head _)))))))) (next := ?_))
  rintro v n8 w8 rfl hn8
  rw [hz]
  refine gO_ ?_
  refine wl_fx (fx_call_mk (spec := fun w' hw => vof_spec fv ov c w' (h.now hw (.tail _ (.tail _ (.tail _ (.tail _ (.tail _ (.tail _ (.head _)))))))) (hc.now hw (.tail _ (.tail _ (.tail _ (.tail _ (.tail _ (.tail _ (.head _)))))))) (hT.now hw (.tail _ (.tail _ (.tail _ (.tail _ (.tail _ (.tail _ (.head _))))))))) (next := ?_))
  rintro v n9 es w9 ⟨s1, s2, s3, s4, s5, s6, s7, s8, s9, ⟨hs1, hs2, hs3, hs4, hs5, hs6, hs7, hs8, hs9⟩, rfl, rfl⟩
  rw [vwOf_ok hz, hz]
  refine gO_ ?_
  refine wl_fx (fx_alloc (next := ?_)); intro bv
  refine gO_ ?_
  refine wl_fx (fx_store_box (i := 0) (hi := rfl) (next := ?_))
  refine gO_ ?_
  refine wl_fx (fx_call (spec := fun w' hw => bare_rule fv ov c w' (h.now hw (.tail _ (.tail _ (.tail _ (.tail _ (.tail _ (.tail _ (.tail _ (.head _))))))))) (hc.now hw (.tail _ (.tail _ (.tail _ (.tail _ (.tail _ (.tail _ (.tail _ (.head _))))))))) (hT.now hw (.tail _ (.tail _ (.tail _ (.tail _ (.tail _ (.tail _ (.tail _ (.head _))))))))) 1 (by omega) (by omega) hz (hT2.now hw (.tail _ (.tail _ (.tail _ (.head _)))))) (next := ?_))
  rintro v n10 w10 ⟨r1, hr1, rfl, hR1⟩ hn10
  refine gO_ ?_
  refine wl_fx (fx_alloc (next := ?_)); intro bone
  refine gO_ ?_
  refine wl_fx (fx_store_box (i := 0) (hi := rfl) (next := ?_))
  refine gO_ ?_
  refine wl_fx (fx_call (spec := fun w' hw => bare_rule fv ov c w' (h.now hw (.tail _ (.tail _ (.tail _ (.tail _ (.tail _ (.tail _ (.tail _ (.tail _ (.head _)))))))))) (hc.now hw (.tail _ (.tail _ (.tail _ (.tail _ (.tail _ (.tail _ (.tail _ (.tail _ (.head _)))))))))) (hT.now hw (.tail _ (.tail _ (.tail _ (.tail _ (.tail _ (.tail _ (.tail _ (.tail _ (.head _)))))))))) 2 (by omega) (by omega) hz (hT2.now hw (.tail _ (.tail _ (.tail _ (.tail _ (.head _))))))) (next := ?_))
  rintro v n11 w11 ⟨r2, hr2, rfl, hR2⟩ hn11
  refine gO_ ?_
  refine wl_fx (fx_alloc (next := ?_)); intro btwo
  refine gO_ ?_
  refine wl_fx (fx_store_box (i := 0) (hi := rfl) (next := ?_))
  refine gO_ ?_
  refine wc_cond rfl (fun h3 => ?_) (fun h3 => ?_)
  · simp [dc_eq] at h3
  clear h3
  refine gO_ ?_
  refine wl_fx (fx_call_mk (spec := fun w' hw => runion_ok (relOk_relOf _ (ruleP (cutT t [] [] [] []) c ((1 : Nat) : Int)) hb) (relOk_relOf _ (ruleP (cutT t [] [] [] []) c ((2 : Nat) : Int)) hb) (hw.now hR1 (.tail _ (.head _))) (hw.now hR2 (.head _))) (next := ?_))
  rintro v n12 es w12 ⟨su, hsu, rfl, rfl⟩
  rw [relOf_uni hb]
  refine gO_ ?_
  refine wl_fx (fx_alloc (next := ?_)); intro br
  refine gO_ ?_
  refine wl_fx (fx_store_box (i := 0) (hi := rfl) (next := ?_))
  refine gO_ ?_
  refine wl_gx (h := gx_call (spec := fun _ w' hw => rcheck_spec t.evs.length s4 (relOf t.evs.length (exP t (rfP t c))) w' (hw.lend (.tail _ (.tail _ (.tail _ (.tail _ (.tail _ (.tail _ (.tail _ (.tail _ (.head _)))))))))))) (next := ?_)
  refine gO_ ?_
  refine wl_gx (h := gx_call (spec := fun _ w' hw => rcheck_spec t.evs.length s5 (relOf t.evs.length (coP t c)) w' (hw.lend (.tail _ (.tail _ (.tail _ (.tail _ (.tail _ (.tail _ (.tail _ (.tail _ (.tail _ (.head _))))))))))))) (next := ?_)
  refine gO_ ?_
  refine wl_gx (h := gx_call (spec := fun _ w' hw => rcheck_spec t.evs.length s7 (relOf t.evs.length (frP t c)) w' (hw.lend (.tail _ (.tail _ (.tail _ (.tail _ (.tail _ (.tail _ (.tail _ (.tail _ (.tail _ (.tail _ (.tail _ (.head _))))))))))))))) (next := ?_)
  refine gO_ ?_
  refine wc_cond rfl (fun h4 => ?_) (fun h4 => ?_)
  · simp [dc_eq, relOk_relOf _ _ hb] at h4
  clear h4
  refine gO_ ?_
  refine wl_fx (fx_call_mk (spec := fun w' hw => rhapp20_spec c (fun i j => ruleP (cutT t [] [] [] []) c ((1 : Nat) : Int) i j || ruleP (cutT t [] [] [] []) c ((2 : Nat) : Int) i j) su s1 s2 s3 s4 s5 s6 s7 s8 s9 w' hb (hw.lend (.tail _ (.head _))) (hw.lend (.tail _ (.tail _ (.tail _ (.tail _ (.tail _ (.tail _ (.tail _ (.tail _ (.head _)))))))))) (hw.lend (.tail _ (.tail _ (.tail _ (.tail _ (.tail _ (.tail _ (.tail _ (.tail _ (.tail _ (.head _))))))))))) (hw.lend (.tail _ (.tail _ (.tail _ (.tail _ (.tail _ (.tail _ (.tail _ (.tail _ (.tail _ (.tail _ (.tail _ (.head _))))))))))))) hs1 hs2 hs3 hs4 hs5 hs6 hs7 hs8 hs9) (next := ?_))
  rintro v n16 es w16 ⟨sh, hsh, rfl, rfl⟩
  refine gO_ ?_
  refine wl_fx (fx_call (spec := fun w' hw => racyclic_spec t.evs.length sh _ w' (hw.lend (.head _))) (next := ?_))
  rintro v n17 w17 rfl hn17
  refine gO_ ?_
  refine wl_gx (h := gx_call (spec := fun _ w' hw => rvawake_spec w' (hT.now hw (.tail _ (.tail _ (.tail _ (.tail _ (.tail _ (.tail _ (.tail _ (.tail _ (.tail _ (.tail _ (.tail _ (.tail _ (.head _)))))))))))))))) (next := ?_)
  refine gO_ ?_
  refine pur_ret Tryz.results3 (.tmp rfl .nil) (.tail _ (.tail _ (.tail _ (.tail _ (.tail _ (.tail _ (.tail _ (.tail _ (.tail _ (.tail _ (.tail _ (.tail _ (.head _))))))))))))) fun w' hw => ?_
  rw [hopen]
  simp [dc_eq]
  try rfl
end Go.Proofs.YtgidhhpjabdnkaaGreatDoor
