/- The walks: rvwmo.Rule; alembiclaw20.mp, stale, awake (printed by gen_rv6.py). -/
import Derived.Test.YtgidhhpjabdnkaaGreatDoorRvG
set_option linter.unusedSimpArgs false
set_option linter.unusedVariables false
namespace Go.Eng
open Go
theorem Pur.from {P : Program} {k : FuncId} {args : List Value} {w w0 : World} {S : Nat → Prop} {bs : List Base} {H : List Ent} {Φ : Nat → Value → World → Prop} (h : Pur P k args w Φ) (hw : Mem bs H w) (hB : (w0, S) ∈ bs) : Pur P k args w fun n v w' => w0.heap.size ≤ n ∧ Φ n v w' := by
  unfold Pur at *
  exact Calls.mono h fun _ w' h' => by
    unfold PurR at *
    obtain ⟨v, h1, h2, h3⟩ := h'
    exact ⟨v, h1, h2, (hw.base _ hB).size, h3⟩
end Go.Eng
namespace Go.Proofs.YtgidhhpjabdnkaaGreatDoor
open Go Go.Eng Go.Tc Go.Rl Go.Vw
attribute [local irreducible] wpList Code.wp bodyPost Exit.then Exit.inBlock Calls

set_option maxRecDepth 8000 in
set_option maxHeartbeats 6400000 in
theorem rvRule_ok {lv iv ev bv av dv cv tv nv : Value} {t : Tr} (fv ov : Value) (c : Cd) (w : World) (h : TrIn All w lv iv ev bv av dv cv tv nv t) (hc : CdIn All w fv ov c) (hT : Tab w) (k : Nat) (hk1 : 1 ≤ k) (hk2 : k ≤ 13) (hz : cdE t c = 0) :
    Pur Tryz.prog 14 [.agg #[lv, iv, ev, bv, av, dv, cv, tv, nv], .agg #[fv, ov], .int .i64 k] w fun m v w' => ∃ s, SV s ∧ v = .tuple #[.agg #[.int .i64 t.evs.length, s], .int .i64 0] ∧ Sl (Fr m) w' encW 1 s (relOf t.evs.length (ruleP t c k)) := by
  have hfs := hc.rf.sv
  have hos := hc.cosv
  have g1 := h.locs.sv; have g2 := h.init.sv; have g3 := h.evs.sv; have g4 := h.bars.sv; have g5 := h.addr.sv; have g6 := h.data.sv; have g7 := h.ctrl.sv; have g8 := h.things.sv; have g9 := h.ends.sv
  have hb := (trOk_lens (cdE_ok hz).1).1
  refine enter_pur Tryz.func14 Tryz.ntmps14 rfl rfl ?_
  refine gO_ ?_
  refine wl_fx (fx_box (next := ?_)); intro bT
  refine gO_ ?_
  refine wl_fx (fx_box (next := ?_)); intro bC
  refine gO_ ?_
  refine wl_fx (fx_alloc (next := ?_)); intro b4
  refine gO_ ?_
  refine wl_fx (fx_call_mk (spec := fun w' hw => rvof_ok fv ov c w' (h.now hw (.head _)) (hc.now hw (.head _)) (hT.now hw (.head _)) hz) (next := ?_))
  rintro v n1 es w1 ⟨ba, s1, s2, s3, s4, s5, s6, s7, s8, s9, sf, sa, sd, sc, ⟨hs1, hs2, hs3, hs4, hs5, hs6, hs7, hs8, hs9, hsf, hsa, hsd, hsc⟩, rfl, rfl⟩
  refine gO_ ?_
  refine wc_cond rfl (fun h1 => ?_) (fun h1 => ?_)
  · simp [dc_eq] at h1
  clear h1
  refine gO_ ?_
  refine wc_cond rfl (fun h1 => ?_) (fun h1 => ?_)
  · exfalso; simp [dc_eq] at h1; omega
  clear h1
  refine gO_ ?_
  refine wl_fx (fx_call (spec := fun w' hw => (rvrule_spec k w' (AkIn.made fv ov c w h hc hw (.tail _ (.head _)) hz (.head _) (.tail _ (.tail _ (.tail _ (.tail _ (.head _))))) (.tail _ (.tail _ (.tail _ (.tail _ (.tail _ (.head _)))))) (.tail _ (.tail _ (.tail _ (.tail _ (.tail _ (.tail _ (.tail _ (.head _)))))))) (.tail _ (.tail _ (.tail _ (.tail _ (.tail _ (.tail _ (.tail _ (.tail _ (.tail _ (.tail _ (.head _))))))))))) (.tail _ (.tail _ (.tail _ (.tail _ (.tail _ (.tail _ (.tail _ (.tail _ (.tail _ (.tail _ (.tail _ (.head _)))))))))))) (.tail _ (.tail _ (.tail _ (.tail _ (.tail _ (.tail _ (.tail _ (.tail _ (.tail _ (.tail _ (.tail _ (.tail _ (.head _))))))))))))) (.tail _ (.tail _ (.tail _ (.tail _ (.tail _ (.tail _ (.tail _ (.tail _ (.tail _ (.tail _ (.tail _ (.tail _ (.tail _ (.head _))))))))))))))) hk1 hk2).from hw (.tail _ (.head _))) (next := ?_))
  rintro v n2 w2 ⟨hle, s, hs, rfl, hR⟩ hn2
  refine gO_ ?_
  refine wl_fx (fx_store_box (i := 14) (hi := rfl) (next := ?_))
  refine gO_ ?_
  refine pur_ret Tryz.results14 (.cellN inferInstance rfl (.tail _ (.tail _ (.tail _ (.tail _ (.tail _ (.tail _ (.tail _ (.tail _ (.tail _ (.tail _ (.tail _ (.tail _ (.tail _ (.tail _ (.head _))))))))))))))) rfl (.tmp rfl .nil)) (.tail _ (.tail _ (.head _))) fun w' hw => ⟨s, hs, rfl, ?_⟩
  obtain ⟨q1, q2, q3⟩ := trOk_pairs (cdE_ok hz).1
  have ht := (cdE_ok hz).1
  rcases hR with ⟨rfl, rfl⟩ | ⟨rfl, rfl⟩ | ⟨rfl, rfl⟩ | hR
  · have e := relOf_ext (m := t.evs.length) (p := fnP t) (q := ruleP t c ((4 : Nat) : Int)) fun a b _ _ => rfl
    rw [← e]; exact hw.give (.tail _ (.tail _ (.tail _ (.tail _ (.tail _ (.tail _ (.tail _ (.tail _ (.tail _ (.tail _ (.head _))))))))))) (.tail _ (.tail _ (.head _)))
  · have e := relOf_ext (m := t.evs.length) (p := fun a b => memb t.addr a b) (q := ruleP t c ((9 : Nat) : Int)) fun a b ha hb => (pair_po ht q1 ha hb).symm
    rw [← e]; exact hw.give (.tail _ (.tail _ (.tail _ (.tail _ (.tail _ (.tail _ (.tail _ (.tail _ (.tail _ (.tail _ (.tail _ (.head _)))))))))))) (.tail _ (.tail _ (.head _)))
  · have e := relOf_ext (m := t.evs.length) (p := fun a b => memb t.data a b) (q := ruleP t c ((10 : Nat) : Int)) fun a b ha hb => (pair_po ht q2 ha hb).symm
    rw [← e]; exact hw.give (.tail _ (.tail _ (.tail _ (.tail _ (.tail _ (.tail _ (.tail _ (.tail _ (.tail _ (.tail _ (.tail _ (.tail _ (.head _))))))))))))) (.tail _ (.tail _ (.head _)))
  · exact hR.mono (hw.base _ (.head _)) (fun _ _ hk => Nat.le_trans hle hk) (fun x _ => by simp [encW])

set_option maxHeartbeats 3200000 in
theorem mp_spec (w : World) : Pur Tryz.prog 38 [] w fun m v w' => ∃ lv iv ev bv av dv cv tv nv, v = .agg #[lv, iv, ev, bv, av, dv, cv, tv, nv] ∧ TrIn (Fr m) w' lv iv ev bv av dv cv tv nv mpT := by
  refine enter_pur Tryz.func38 Tryz.ntmps38 rfl rfl ?_
  refine gO_ ?_
  refine wl_fx (fx_alloc (next := ?_)); intro br0
  refine gO_ ?_
  refine wl_fx (fx_lit (next := ?_))
  intro v1 hv1
  refine gO_ ?_
  refine wl_fx (fx_lit (next := ?_))
  intro v2 hv2
  refine gO_ ?_
  refine wl_fx (fx_lit (next := ?_))
  intro v7 hv7
  refine gO_ ?_
  refine wl_fx (fx_lit (next := ?_))
  intro v9 hv9
  refine gO_ ?_
  refine wl_fx (fx_lit (next := ?_))
  intro v11 hv11
  refine gO_ ?_
  refine wl_fx (fx_store_box (i := 5) (hi := rfl) (next := ?_))
  refine gO_ ?_
  refine pur_ret Tryz.results38 (.cellN inferInstance rfl (.tail _ (.tail _ (.tail _ (.tail _ (.tail _ (.head _)))))) rfl .nil) (.head _) fun w' hw => ?_
  exact ⟨_, _, _, _, _, _, _, _, _, rfl, hw.give (.tail _ (.tail _ (.tail _ (.tail _ (.head _))))) (.head _), hw.give (.tail _ (.tail _ (.tail _ (.head _)))) (.head _), hw.give (.tail _ (.tail _ (.head _))) (.head _), hw.give (.tail _ (.head _)) (.head _), hw.give (.head _) (.head _), sl_nil _ _, sl_nil _ _, sl_nil _ _, sl_nil _ _⟩

set_option maxHeartbeats 3200000 in
theorem stale_spec (w : World) : Pur Tryz.prog 39 [] w fun m v w' => ∃ fv ov, v = .agg #[fv, ov] ∧ CdIn (Fr m) w' fv ov staC := by
  refine enter_pur Tryz.func39 Tryz.ntmps39 rfl rfl ?_
  refine gO_ ?_
  refine wl_fx (fx_alloc (next := ?_)); intro br0
  refine gO_ ?_
  refine wl_fx (fx_lit (next := ?_))
  intro v1 hv1
  refine gO_ ?_
  refine wl_fx (fx_lit (next := ?_))
  intro v2 hv2
  refine gO_ ?_
  refine wl_fx (fx_lit (next := ?_))
  intro v3 hv3
  refine gO_ ?_
  refine wl_fx (fx_lit (next := ?_))
  intro v4 hv4
  refine gO_ ?_
  refine wl_fx (fx_store_box (i := 4) (hi := rfl) (next := ?_))
  refine gO_ ?_
  refine pur_ret Tryz.results39 (.cellN inferInstance rfl (.tail _ (.tail _ (.tail _ (.tail _ (.head _))))) rfl .nil) (.head _) fun w' hw => ?_
  exact ⟨_, _, rfl, ⟨hw.give (.tail _ (.tail _ (.tail _ (.head _)))) (.head _), ⟨[v2, v3], hw.give (.head _) (.head _), rfl, fun i hi => (by
      obtain rfl | rfl : i = 0 ∨ i = 1 := by have : i < 2 := hi; omega
      · exact hw.give (.tail _ (.tail _ (.head _))) (.head _)
      · exact hw.give (.tail _ (.head _)) (.head _))⟩, fun i hi => (by
      obtain rfl | rfl : i = 0 ∨ i = 1 := by have : i < 2 := hi; omega
      · decide
      · decide)⟩⟩

set_option maxRecDepth 8000 in
set_option maxHeartbeats 12800000 in
theorem rvawake_spec (w : World) (hT : Tab w) : Pur Tryz.prog 10 [] w fun _ v _ => v = .bool true := by
  refine enter_pur Tryz.func10 Tryz.ntmps10 rfl rfl ?_
  refine gO_ ?_
  refine wl_fx (fx_call (spec := fun w' hw => mp_spec w') (next := ?_))
  rintro v n1 w1 ⟨lv, iv, ev, bv, av, dv, cv, tv, nv, rfl, hT1⟩ hn1
  refine gO_ ?_
  refine wl_fx (fx_call (spec := fun w' hw => stale_spec w') (next := ?_))
  rintro v n2 w2 ⟨fv, ov, rfl, hC1⟩ hn2
  refine gO_ ?_
  refine wl_fx (fx_call (spec := fun w' hw => rvcons_spec fv ov staC w' (hT1.now hw (.tail _ (.head _))) (hC1.now hw (.head _)) (hT.now hw (.tail _ (.tail _ (.head _))))) (next := ?_))
  rintro v n3 w3 rfl hn3
  rw [mp_z, mp_no]
  refine gO_ ?_
  refine wl_fx (fx_call (spec := fun w' hw => mp_spec w') (next := ?_))
  rintro v n4 w4 ⟨lv2, iv2, ev2, bv2, av2, dv2, cv2, tv2, nv2, rfl, hT2⟩ hn4
  refine gO_ ?_
  refine wl_fx (fx_call (spec := fun w' hw => stale_spec w') (next := ?_))
  rintro v n5 w5 ⟨fv2, ov2, rfl, hC2⟩ hn5
  refine gO_ ?_
  refine wl_fx (fx_call_mk (spec := fun w' hw => rvwhy_spec fv2 ov2 staC w' (hT2.now hw (.tail _ (.head _))) (hC2.now hw (.head _)) (hT.now hw (.tail _ (.tail _ (.tail _ (.tail _ (.tail _ (.head _)))))))) (next := ?_))
  rintro v n6 es w6 ⟨a1, ha1, rfl, rfl⟩
  rw [mp_whyE, mp_whyL]
  generalize hxs : ([⟨0, 1, 6⟩, ⟨1, 2, 4⟩, ⟨2, 3, 5⟩, ⟨3, 0, 2⟩] : List Arc) = xs at *
  have hxl : xs.length = 4 := by rw [← hxs]; rfl
  have hx2 : xs.getD 2 default = ⟨2, 3, 5⟩ := by rw [← hxs]; rfl
  refine gO_ ?_
  refine wl_fx (fx_call (spec := fun w' hw => mp_spec w') (next := ?_))
  rintro v n7 w7 ⟨lv3, iv3, ev3, bv3, av3, dv3, cv3, tv3, nv3, rfl, hT3⟩ hn7
  have g1 := hT3.locs.sv; have g2 := hT3.init.sv; have g3 := hT3.evs.sv; have g4 := hT3.bars.sv; have g5 := hT3.addr.sv; have g6 := hT3.data.sv; have g7 := hT3.ctrl.sv; have g8 := hT3.things.sv; have g9 := hT3.ends.sv
  refine gO_ ?_
  refine wl_fx (fx_alloc (next := ?_)); intro bfree
  refine gO_ ?_
  refine wl_fx (fx_store_box (i := 0) (hi := rfl) (next := ?_))
  refine gO_ ?_
  refine wl_fx (fx_store_box (i := 0) (hi := rfl) (next := ?_))
  refine gO_ ?_
  refine wc_draw [0, 1, 2, 3, 4, 5, 6, 7] mixed ?_
  refine kG_ ?_
  refine kg_f _ (h := fx_call (spec := fun w' hw => stale_spec w') (next := ?_)) (hSS := fun _ h => h)
  rintro v n8 w8 ⟨fv3, ov3, rfl, hC3⟩ hn8
  refine kp_S ?_ (fun _ h => h.tailB)
  refine kG_ ?_
  refine kg_f _ (h := fx_call (spec := fun w' hw => rvcons_spec (t := mpF) fv3 ov3 staC w' ⟨hw.now hT3.locs (.tail _ (.head _)), hw.now hT3.init (.tail _ (.head _)), hw.now hT3.evs (.tail _ (.head _)), hw.now hT3.bars (.tail _ (.head _)), sl_nil _ _, hw.now hT3.data (.tail _ (.head _)), hw.now hT3.ctrl (.tail _ (.head _)), hw.now hT3.things (.tail _ (.head _)), hw.now hT3.ends (.tail _ (.head _))⟩ (hC3.now hw (.head _)) (hT.now hw (.tail _ (.tail _ (.tail _ (.tail _ (.tail _ (.tail _ (.tail _ (.tail _ (.head _))))))))))) (next := ?_)) (hSS := fun _ h => h)
  rintro v n9 w9 rfl hn9
  rw [mpf_z, mpf_yes]
  refine kp_S ?_ (fun _ h => h.tailB.tailB)
  refine kG_ ?_
  refine gO_ ?_
  refine wl_fx (fx_call (spec := fun w' hw => mp_spec w') (next := ?_))
  rintro v n10 w10 ⟨lv4, iv4, ev4, bv4, av4, dv4, cv4, tv4, nv4, rfl, hT4⟩ hn10
  refine gO_ ?_
  refine wl_fx (fx_call (spec := fun w' hw => stale_spec w') (next := ?_))
  rintro v n11 w11 ⟨fv4, ov4, rfl, hC4⟩ hn11
  refine gO_ ?_
  refine wl_fx (fx_call (spec := fun w' hw => rvRule_ok fv4 ov4 staC w' (hT4.now hw (.tail _ (.head _))) (hC4.now hw (.head _)) (hT.now hw (.tail _ (.tail _ (.tail _ (.tail _ (.tail _ (.tail _ (.tail _ (.tail _ (.tail _ (.tail _ (.tail _ (.head _))))))))))))) 9 (by omega) (by omega) mp_z) (next := ?_))
  rintro v n12 w12 ⟨s9, hs9, rfl, hR9⟩ hn12
  refine gO_ ?_
  refine wl_fx (fx_alloc (next := ?_)); intro br
  refine gO_ ?_
  refine wl_fx (fx_store_box (i := 0) (hi := rfl) (next := ?_))
  refine gO_ ?_
  refine wl_ag (v := .bool (dc (xs.getD 2 default = ⟨2, 3, 5⟩))) (h := ?_) (next := ?_)
  · exact qy_eqS (p := xs.getD 2 default) (q := ⟨2, 3, 5⟩)
  refine gO_ ?_
  refine wl_gx (h := gx_call (spec := fun _ w' hw => rhas_spec _ s9 (relOf mpT.evs.length (ruleP mpT staC ((9 : Nat) : Int))) 0 1 w' (hw.now hR9 (.head _)))) (next := ?_)
  refine gO_ ?_
  refine pur_ret Tryz.results10 (.tmp rfl .nil) (.tail _ (.tail _ (.tail _ (.tail _ (.tail _ (.tail _ (.tail _ (.tail _ (.tail _ (.tail _ (.tail _ (.tail _ (.head _))))))))))))) fun w' hw => ?_
  simp only [dc_eq, hxl, hx2, mp_nine]
  rfl

end Go.Proofs.YtgidhhpjabdnkaaGreatDoor