/- The walks: store buffering and what must come of it; the laws TsoPpo, TsoWhy. -/
import Derived.Test.YtnplmhfjoemgdaaGreatDoorTsE
import Derived.Test.YtnplmhfjoemgdaaGreatDoorG12
set_option linter.unusedSimpArgs false
set_option linter.unusedVariables false
namespace Go.Vw
open Go Go.Eng Go.Tc Go.Rl
def bufT : Tr := { locs := [⟨#[120]⟩, ⟨#[121]⟩], init := [0, 0], evs := [⟨0, 0, 2, 0, 1, 0⟩, ⟨0, 1, 1, 1, 0, 0⟩, ⟨1, 0, 2, 1, 1, 0⟩, ⟨1, 1, 1, 0, 0, 0⟩], bars := [], addr := [], data := [], ctrl := [], things := [], ends := [] }
def bufC : Cd := ⟨[-1, -1, -1, -1], [[0], [2]]⟩
theorem buf1 : cdE bufT bufC = 0 := by
  unfold cdE
  rw [if_pos (show trOk bufT = true by kernel_rfl), if_pos ((candB_iff _ _).2 ⟨rfl, rfl, all_range.1 (by kernel_rfl), all_range.1 (by kernel_rfl)⟩)]
end Go.Vw
namespace Go.Proofs.YtnplmhfjoemgdaaGreatDoor
open Go Go.Eng Go.Tc Go.Rl Go.Vw
attribute [local irreducible] wpList Code.wp bodyPost Exit.then Exit.inBlock Calls
theorem buf_ts : tsB bufT bufC = true := by
  unfold tsB cohB
  rw [if_pos buf1]; kernel_rfl
theorem buf_ordE : tordE bufT bufC = 0 := by
  unfold tordE
  rw [if_pos buf1, if_pos buf_ts]
theorem buf_ordL : tordL bufT bufC = [1, 2, 3, 0] := by
  unfold tordL
  rw [if_pos buf_ts]; kernel_rfl

set_option maxHeartbeats 1600000 in
theorem buffered_spec (w : World) : Pur Tryz.prog 47 [] w fun m v w' => ∃ lv iv ev bv av dv cv tv nv, v = .agg #[lv, iv, ev, bv, av, dv, cv, tv, nv] ∧ TrIn (Fr m) w' lv iv ev bv av dv cv tv nv bufT := by
  refine enter_pur Tryz.func47 Tryz.ntmps47 rfl rfl ?_
  refine gO_ ?_
  refine wl_fx (fx_alloc (next := ?_)); intro br0
  refine gO_ ?_
  refine wl_fx (fx_lit (next := ?_))
  intro v6 hv6
  refine gO_ ?_
  refine wl_fx (fx_lit (next := ?_))
  intro v7 hv7
  refine gO_ ?_
  refine wl_fx (fx_lit (next := ?_))
  intro v8 hv8
  refine gO_ ?_
  refine wl_fx (fx_store_box (i := 3) (hi := rfl) (next := ?_))
  refine gO_ ?_
  refine pur_ret Tryz.results47 (.cellN inferInstance rfl (.tail _ (.tail _ (.tail _ (.head _)))) rfl .nil) (.head _) fun w' hw => ?_
  exact ⟨_, _, _, _, _, _, _, _, _, rfl, hw.give (.tail _ (.head _)) (.head _), hw.give (.head _) (.head _), hw.give (.tail _ (.tail _ (.head _))) (.head _), sl_nil _ _, sl_nil _ _, sl_nil _ _, sl_nil _ _, sl_nil _ _, sl_nil _ _⟩

set_option maxRecDepth 8000 in
set_option maxHeartbeats 6400000 in
theorem tawake_spec (w : World) (hT : Tab w) : Pur Tryz.prog 14 [] w fun _ v _ => v = .bool true := by
  refine enter_pur Tryz.func14 Tryz.ntmps14 rfl rfl ?_
  refine gO_ ?_
  refine wl_fx (fx_lit (next := ?_))
  intro v6 hv6
  refine gO_ ?_
  refine wl_fx (fx_lit (next := ?_))
  intro v7 hv7
  refine gO_ ?_
  refine wl_fx (fx_lit (next := ?_))
  intro v8 hv8
  refine gO_ ?_
  refine wl_fx (fx_lit (next := ?_))
  intro v9 hv9
  refine gO_ ?_
  refine wl_fx (fx_alloc (next := ?_)); intro bc
  refine gO_ ?_
  refine wl_fx (fx_store_box (i := 0) (hi := rfl) (next := ?_))
  refine gO_ ?_
  refine wc_draw [1, 0, 2, 3, 4, 5, 6, 7] mixed ?_
  refine kG_ ?_
  refine kg_f _ (h := fx_call (spec := fun w' hw => buffered_spec w') (next := ?_)) (hSS := fun _ h => h)
  rintro v n1 w1 ⟨lv, iv, ev, bv, av, dv, cv, tv, nv, rfl, hT1⟩ hn1
  refine kp_S ?_ (fun _ h => h.tailB)
  refine kG_ ?_
  refine kg_f _ (h := fx_call (spec := fun w' hw => tcons_spec v6 v9 bufC w' (hT1.now hw (.head _)) ⟨hw.lend (.tail _ (.tail _ (.tail _ (.tail _ (.head _))))), ⟨[v7, v8], hw.lend (.tail _ (.head _)), rfl, fun i hi => (by
      obtain rfl | rfl : i = 0 ∨ i = 1 := by have : i < 2 := hi; omega
      · exact hw.lend (.tail _ (.tail _ (.tail _ (.head _))))
      · exact hw.lend (.tail _ (.tail _ (.head _))))⟩, fun i hi => (by
      obtain rfl | rfl : i = 0 ∨ i = 1 := by have : i < 2 := hi; omega
      · decide
      · decide)⟩ (hT.now hw (.tail _ (.head _)))) (next := ?_)) (hSS := fun _ h => h)
  rintro v n2 w2 rfl hn2
  rw [buf_ts, buf1]
  refine kp_S ?_ (fun _ h => h.tailB.tailB)
  refine kG_ ?_
  refine gO_ ?_
  refine wc_draw [1, 0, 2, 3, 4, 5, 6, 7] mixed ?_
  refine kG_ ?_
  refine kg_f _ (h := fx_call (spec := fun w' hw => buffered_spec w') (next := ?_)) (hSS := fun _ h => h)
  rintro v n3 w3 ⟨lv2, iv2, ev2, bv2, av2, dv2, cv2, tv2, nv2, rfl, hT2⟩ hn3
  refine kp_S ?_ (fun _ h => h.tailB)
  refine kG_ ?_
  refine kg_f _ (h := fx_call_mk (spec := fun w' hw => tord_spec v6 v9 bufC w' (hT2.now hw (.head _)) ⟨hw.lend (.tail _ (.tail _ (.tail _ (.tail _ (.head _))))), ⟨[v7, v8], hw.lend (.tail _ (.head _)), rfl, fun i hi => (by
      obtain rfl | rfl : i = 0 ∨ i = 1 := by have : i < 2 := hi; omega
      · exact hw.lend (.tail _ (.tail _ (.tail _ (.head _))))
      · exact hw.lend (.tail _ (.tail _ (.head _))))⟩, fun i hi => (by
      obtain rfl | rfl : i = 0 ∨ i = 1 := by have : i < 2 := hi; omega
      · decide
      · decide)⟩ (hT.now hw (.tail _ (.tail _ (.tail _ (.head _)))))) (next := ?_)) (hSS := fun _ h => h)
  rintro v n4 es w4 ⟨pv, hpv, rfl, rfl⟩
  rw [buf_ordE, buf_ordL]
  refine kp_S ?_ (fun _ h => h.tailB.tailB.tail)
  refine kG_ ?_
  refine gO_ ?_
  refine wl_gyes (by rfl) (by rfl) (by simp [dc_eq]) ?_
  refine wl_fx (fx_lit (next := ?_))
  intro v34 hv34
  refine gO_ ?_
  refine wl_gx (h := gx_call (spec := fun _ w' hw => sameInts_spec pv v34 [1, 2, 3, 0] [1, 2, 3, 0] w' (hw.lend (.tail _ (.head _))) (hw.lend (.head _)))) (next := ?_)
  refine gO_ ?_
  refine pur_ret Tryz.results14 (.tmp rfl .nil) (.tail _ (.tail _ (.tail _ (.tail _ (.head _))))) fun w' hw => ?_
  simp only [dc_eq]
  rfl

set_option maxHeartbeats 3200000 in
theorem tsoPpo_spec {lv iv ev bv av dv cv tv nv : Value} {t : Tr} (w : World) (h : TrIn All w lv iv ev bv av dv cv tv nv t) (hT : Tab w) :
    Pur Tryz.prog 3 [.agg #[lv, iv, ev, bv, av, dv, cv, tv, nv]] w fun _ v _ => v = .bool true := by
  refine enter_pur Tryz.func3 Tryz.ntmps3 rfl rfl ?_
  refine gO_ ?_
  refine wl_fx (fx_box (next := ?_)); intro bT
  refine gO_ ?_
  refine wl_fx (fx_call_mk (spec := fun w' hw => tppo_spec (t := t) w' (h.now hw (.head _))) (next := ?_))
  rintro v n1 es w1 ⟨s1, hs1, rfl, rfl⟩
  refine gO_ ?_
  refine wl_fx (fx_alloc (next := ?_)); intro ba
  refine gO_ ?_
  refine wl_fx (fx_store_box (i := 0) (hi := rfl) (next := ?_))
  refine gO_ ?_
  refine wl_fx (fx_call_mk (spec := fun w' hw => rppo_spec (t := t) w' (h.now hw (.tail _ (.head _)))) (next := ?_))
  rintro v n2 es w2 ⟨s2, hs2, rfl, rfl⟩
  refine gO_ ?_
  refine wl_fx (fx_alloc (next := ?_)); intro bb
  refine gO_ ?_
  refine wl_fx (fx_store_box (i := 0) (hi := rfl) (next := ?_))
  refine gO_ ?_
  refine wl_fx (fx_call (spec := fun w' hw => same_spec (trN t) (trN t) s1 s2 (trR t (ppP t)) (trR t (ppP t)) w' (hw.lend (.tail _ (.tail _ (.tail _ (.head _))))) (hw.lend (.tail _ (.head _)))) (next := ?_))
  rintro v n3 w3 rfl hn3
  refine gO_ ?_
  refine wl_gx (h := gx_call (spec := fun _ w' hw => tawake_spec w' (hT.now hw (.tail _ (.tail _ (.tail _ (.head _))))))) (next := ?_)
  refine gO_ ?_
  refine pur_ret Tryz.results3 (.tmp rfl .nil) (.tail _ (.tail _ (.tail _ (.head _)))) fun w' hw => ?_
  simp only [dc_eq, decide_true, Bool.and_true, beq_self_eq_true]
  rfl

set_option maxHeartbeats 6400000 in
theorem tsoWhy_spec {lv iv ev bv av dv cv tv nv : Value} {t : Tr} (fv ov : Value) (c : Cd) (w : World) (h : TrIn All w lv iv ev bv av dv cv tv nv t) (hc : CdIn All w fv ov c) (hT : Tab w) :
    Pur Tryz.prog 10 [.agg #[lv, iv, ev, bv, av, dv, cv, tv, nv], .agg #[fv, ov]] w fun _ v _ => v = .bool true := by
  have hfs := hc.rf.sv
  have hos := hc.cosv
  refine enter_pur Tryz.func10 Tryz.ntmps10 rfl rfl ?_
  refine gO_ ?_
  refine wl_fx (fx_box (next := ?_)); intro bT
  refine gO_ ?_
  refine wl_fx (fx_box (next := ?_)); intro bC
  refine gO_ ?_
  refine wl_fx (fx_call_mk (spec := fun w' hw => twhy_spec fv ov c w' (h.now hw (.head _)) (hc.now hw (.head _)) (hT.now hw (.head _))) (next := ?_))
  rintro v n1 es w1 ⟨a1, ha1, rfl, rfl⟩
  refine gO_ ?_
  refine wl_fx (fx_call_mk (spec := fun w' hw => rwhy19_spec fv ov c w' (h.now hw (.tail _ (.head _))) (hc.now hw (.tail _ (.head _)))) (next := ?_))
  rintro v n2 es w2 ⟨a2, ha2, rfl, rfl⟩
  refine gO_ ?_
  refine wl_fx (fx_call (spec := fun w' hw => samearcs_spec a1 a2 (twhyL t c) (twhyL t c) w' (hw.lend (.tail _ (.head _))) (hw.lend (.head _))) (next := ?_))
  rintro v n3 w3 rfl hn3
  refine gO_ ?_
  refine wl_gx (h := gx_call (spec := fun _ w' hw => tawake_spec w' (hT.now hw (.tail _ (.tail _ (.tail _ (.head _))))))) (next := ?_)
  refine gO_ ?_
  refine pur_ret Tryz.results10 (.tmp rfl .nil) (.tail _ (.tail _ (.tail _ (.head _)))) fun w' hw => ?_
  simp only [dc_eq, decide_true, Bool.and_true]
  rfl
end Go.Proofs.YtnplmhfjoemgdaaGreatDoor
