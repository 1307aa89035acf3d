/- THE LAW CandReads: its row. -/
import Derived.Test.YtdpcdbepeemflaaRows
import Derived.Test.YtdpcdbepeemflaaOptP
import Derived.Test.YtdpcdbepeemflaaCaJ
import Derived.Test.YtdpcdbepeemflaaG24
import Derived.SizedLaws
import Derived.Stop.Joined
set_option linter.unusedSimpArgs false
set_option linter.unusedVariables false
namespace Go.Proofs.Ytdpcdbepeemflaa
open Go Go.Eng Go.Tc Go.Frm
open Go.ChangeShapes Go.WideShapes Go.ChangeAt Go.RowKit Go.Joins

set_option maxRecDepth 100000 in
theorem liftedCandReads (os : Os) (started : os.Started) (H : Type) (enc : TypeId × Value → H) :
    ReturnsInHanded {} Try.checked os 4 .any (Rows.candReadsSpec.pre6 enc Try.prog Try.f4 [] false) (Rows.candReadsSpec.post enc Try.prog Try.f4 false true false false) := by
  refine returnsInHanded_of_change_sized (C := Try.checked) own started (by kernel_rfl) Try.func4
    (ChangeSpec.witness6 (enc := enc) (C := Try.checked) false ⟨#[], #[.agg #[.slice none 0 0, .slice none 0 0, .slice none 0 0, .slice none 0 0, .slice none 0 0, .slice none 0 0, .slice none 0 0, .slice none 0 0, .slice none 0 0], .agg #[.slice none 0 0, .slice none 0 0], .int .i64 0, .int .i64 0], []⟩ 8 (by kernel_rfl) (by kernel_rfl) (by kernel_rfl) (by kernel_rfl)) ?_
  intro W base args ds gs before hval0 hW _ hsz0 _
  have hval : ∀ (j : Nat) t v, Try.f4.params[j]? = some t → args[j]? = some v → Value.okWide Try.prog W .any base t v := hval0
  have hsz : (DataW.weightsEach Try.prog (Try.f4.params.toList ++ Rows.candReadsSpec.plain.varTypes Try.prog) (ds ++ gs)).all (· ≤ reachBytes) = true := hsz0
  have hW' := hW
  obtain ⟨p, q, hA0, hV, rfl, _, _⟩ := hW
  have hA : DataW.TrodAll enc Try.prog W 0 (fun _ => true) true Try.f4.params.toList args.toList ds p := hA0
  rw [Try.params4] at hA hval hsz
  obtain ⟨v0, v1, v2, v3, d0, d1, d2, d3, p0, p1, p2, p3, rfl, rfl, rfl, g0, g1, g2, g3⟩ := trodAll_four hA
  obtain ⟨rfl, rfl⟩ := trodVars_none hV
  obtain ⟨_, rfl, lv_t, iv_t, ev_t, bv_t, av_t, dv_t, cv_t, tv_t, nv_t, T_t, rfl, h_t, b_t⟩ := arg_struct Try.underlying30 (hval 0 30 v0 rfl rfl) g0 (sz_at hsz (j := 0) (t := 30) rfl rfl) (opn_trace)
  obtain ⟨_, rfl, fv_c, ov_c, C_c, rfl, h_c, b_c, d_c⟩ := arg_struct Try.underlying33 (hval 1 33 v1 rfl rfl) g1 (sz_at hsz (j := 1) (t := 33) rfl rfl) (opn_cand)
  have x2 := arg_one (cells_int Try.underlying3 (hval 2 3 v2 rfl rfl)) g2 (sz_at hsz (j := 2) (t := 3) rfl rfl) (opn_i64 Try.underlying3)
  obtain ⟨at_, y2, l_at_, u_at_⟩ := x2
  obtain rfl : v2 = _ := by simpa using y2
  have x3 := arg_one (cells_int Try.underlying3 (hval 3 3 v3 rfl rfl)) g3 (sz_at hsz (j := 3) (t := 3) rfl rfl) (opn_i64 Try.underlying3)
  obtain ⟨pick, y3, l_pick, u_pick⟩ := x3
  obtain rfl : v3 = _ := by simpa using y3
  refine Calls.mono (candReads_spec fv_c ov_c C_c at_ pick W h_t h_c) fun e W' h => ?_
  unfold PurR at h
  obtain ⟨v, rfl, hbel, rfl⟩ := h
  exact ⟨_, rfl, post_pure laidOut (fun t ht => by
    rw [Try.params4] at ht
    simp at ht
    rcases ht with rfl | rfl | rfl | rfl <;> exact ⟨by kernel_rfl, of_decide_eq_true (by kernel_rfl)⟩) rfl rfl Try.underlying4 hW' rfl rfl rfl hbel⟩

theorem candReads_holds : Rows.CandReadsSaid :=
  OpenClaim.holds_of_wide 4 Try.f4 rfl rfl rfl rfl rfl rfl rfl ⟨rfl, rfl, rfl, rfl, rfl⟩ rfl rfl rfl rfl rfl (by kernel_rfl) Try.func4 (by kernel_rfl)
    (of_decide_eq_true (by kernel_rfl)) (by unfold Func.isWrapper; rw [if_neg (of_decide_eq_false (by kernel_rfl))]; exact ⟨rfl, rfl⟩)
    (fun os started H enc _ => liftedCandReads os started H enc)

#print axioms candReads_holds
end Go.Proofs.Ytdpcdbepeemflaa
