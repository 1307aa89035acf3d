/- THE LAW CandRows: its row. -/
import Derived.Test.YtdpcdbepeemflaaRows
import Derived.Test.YtdpcdbepeemflaaOptP
import Derived.Test.YtdpcdbepeemflaaCaM
import Derived.Test.YtdpcdbepeemflaaG24
import Derived.SizedLaws
import Derived.Stop.Joined
set_option linter.unusedSimpArgs false
set_option linter.unusedVariables false
namespace Go.Proofs.Ytdpcdbepeemflaa
open Go Go.Eng Go.Tc Go.Frm
open Go.ChangeShapes Go.WideShapes Go.ChangeAt Go.RowKit Go.Joins

set_option maxRecDepth 100000 in
theorem liftedCandRows (os : Os) (started : os.Started) (H : Type) (enc : TypeId × Value → H) :
    ReturnsInHanded {} Try.checked os 5 .any (Rows.candRowsSpec.pre6 enc Try.prog Try.f5 [] false) (Rows.candRowsSpec.post enc Try.prog Try.f5 false true false false) := by
  refine returnsInHanded_of_change_sized (C := Try.checked) own started (by kernel_rfl) Try.func5
    (ChangeSpec.witness6 (enc := enc) (C := Try.checked) false ⟨#[], #[.agg #[.slice none 0 0, .slice none 0 0, .slice none 0 0, .slice none 0 0, .slice none 0 0, .slice none 0 0, .slice none 0 0, .slice none 0 0, .slice none 0 0]], []⟩ 8 (by kernel_rfl) (by kernel_rfl) (by kernel_rfl) (by kernel_rfl)) ?_
  intro W base args ds gs before hval0 hW _ hsz0 _
  have hval : ∀ (j : Nat) t v, Try.f5.params[j]? = some t → args[j]? = some v → Value.okWide Try.prog W .any base t v := hval0
  have hsz : (DataW.weightsEach Try.prog (Try.f5.params.toList ++ Rows.candRowsSpec.plain.varTypes Try.prog) (ds ++ gs)).all (· ≤ reachBytes) = true := hsz0
  have hW' := hW
  obtain ⟨p, q, hA0, hV, rfl, _, _⟩ := hW
  have hA : DataW.TrodAll enc Try.prog W 0 (fun _ => true) true Try.f5.params.toList args.toList ds p := hA0
  rw [Try.params5] at hA hval hsz
  obtain ⟨v0, d0, rfl, rfl, g0⟩ := trodAll_one hA
  obtain ⟨rfl, rfl⟩ := trodVars_none hV
  obtain ⟨_, rfl, lv_t, iv_t, ev_t, bv_t, av_t, dv_t, cv_t, tv_t, nv_t, T_t, rfl, h_t, b_t⟩ := arg_struct Try.underlying30 (hval 0 30 v0 rfl rfl) g0 (sz_at hsz (j := 0) (t := 30) rfl rfl) (opn_trace)
  refine Calls.mono (candRows_spec W h_t) fun e W' h => ?_
  unfold PurR at h
  obtain ⟨v, rfl, hbel, rfl⟩ := h
  exact ⟨_, rfl, post_pure laidOut (fun t ht => by
    rw [Try.params5] at ht
    simp at ht
    subst ht; exact ⟨by kernel_rfl, of_decide_eq_true (by kernel_rfl)⟩) rfl rfl Try.underlying4 hW' rfl rfl rfl hbel⟩

theorem candRows_holds : Rows.CandRowsSaid :=
  OpenClaim.holds_of_wide 5 Try.f5 rfl rfl rfl rfl rfl rfl rfl ⟨rfl, rfl, rfl, rfl, rfl⟩ rfl rfl rfl rfl rfl (by kernel_rfl) Try.func5 (by kernel_rfl)
    (of_decide_eq_true (by kernel_rfl)) (by unfold Func.isWrapper; rw [if_neg (of_decide_eq_false (by kernel_rfl))]; exact ⟨rfl, rfl⟩)
    (fun os started H enc _ => liftedCandRows os started H enc)

#print axioms candRows_holds
end Go.Proofs.Ytdpcdbepeemflaa
