/- THE LAW RelLines: its row. -/
import Derived.Test.YtpncpbdfomgcgaaRows
import Derived.Test.YtpncpbdfomgcgaaRoj
import Derived.Test.YtpncpbdfomgcgaaOpq
import Derived.Test.YtpncpbdfomgcgaaPlain
import Derived.SizedLaws
import Derived.Stop.Joined
namespace Go.Proofs.Ytpncpbdfomgcgaa
open Go Go.Eng Go.Rl Go.Frm
open Go.ChangeShapes Go.WideShapes Go.ChangeAt Go.RowKit Go.Joins

set_option maxRecDepth 100000 in
theorem liftedRelLines (os : Os) (started : os.Started) (H : Type) (enc : TypeId × Value → H) :
    ReturnsInHanded {} Try.checked os 4 .any (Rows.relLinesSpec.pre6 enc Try.prog Try.f4 [] false) (Rows.relLinesSpec.post enc Try.prog Try.f4 false true false false) := by
  refine returnsInHanded_of_change_sized (C := Try.checked) own started (by kernel_rfl) Try.func4
    (ChangeSpec.witness6 (enc := enc) (C := Try.checked) false ⟨#[], #[.agg #[.int .i64 0, .slice none 0 0]], []⟩ 8 (by kernel_rfl) (by kernel_rfl) (by kernel_rfl) (by kernel_rfl)) ?_
  intro W base args ds gs before hval0 hW _ hsz0 _
  have hval : ∀ (j : Nat) t v, Try.f4.params[j]? = some t → args[j]? = some v → Value.okWide Try.prog W .any base t v := hval0
  have hsz : (DataW.weightsEach Try.prog (Try.f4.params.toList ++ Rows.relLinesSpec.plain.varTypes Try.prog) (ds ++ gs)).all (· ≤ reachBytes) = true := hsz0
  have hW' := hW
  obtain ⟨p, q, hA0, hV, rfl, _, _⟩ := hW
  have hA : DataW.TrodAll enc Try.prog W 0 (fun _ => true) true Try.f4.params.toList args.toList ds p := hA0
  rw [Try.params4] at hA hval hsz
  obtain ⟨v0, d0, rfl, rfl, g0⟩ := trodAll_one hA
  obtain ⟨rfl, rfl⟩ := trodVars_none hV
  obtain ⟨_, rfl, _, _, rfl, ⟨aN, rfl, l_aN, u_aN⟩, _, _, rfl, ⟨aRows, aRows', rfl, h_aRows, b_aRows, e_aRows⟩, rfl⟩ := arg_struct Try.underlying24 (hval 0 24 v0 rfl rfl) g0 (sz_at hsz (j := 0) (t := 24) rfl rfl) (opn_struct Try.underlying24 (by kernel_rfl) (.cons (opn_i64 Try.underlying3) (.cons (opn_slice (en := encW) (sz := 1) Try.underlying22 (by kernel_rfl) (opn_ely (el_u64 Try.underlying42))) .nil)))
  refine Calls.mono (relLines_spec aN aRows aRows' W h_aRows) fun e W' h => ?_
  unfold PurR at h
  obtain ⟨v, rfl, hbel, rfl⟩ := h
  exact ⟨_, rfl, post_pure laidOut (fun t ht => by
    rw [Try.params4] at ht
    simp at ht
    subst ht; exact ⟨by kernel_rfl, of_decide_eq_true (by kernel_rfl)⟩) rfl rfl Try.underlying4 hW' rfl rfl rfl hbel⟩

theorem relLines_holds : Rows.RelLinesSaid :=
  OpenClaim.holds_of_wide 4 Try.f4 rfl rfl rfl rfl rfl rfl rfl ⟨rfl, rfl, rfl, rfl, rfl⟩ rfl rfl rfl rfl rfl (by kernel_rfl) Try.func4 (by kernel_rfl)
    (of_decide_eq_true (by kernel_rfl)) (by unfold Func.isWrapper; rw [if_neg (of_decide_eq_false (by kernel_rfl))]; exact ⟨rfl, rfl⟩)
    (fun os started H enc _ => liftedRelLines os started H enc)

#print axioms relLines_holds
end Go.Proofs.Ytpncpbdfomgcgaa
