/- THE LAW RelRounds: its row. -/
import Derived.Test.YtpncpbdfomgcgaaRows
import Derived.Test.YtpncpbdfomgcgaaRoi
import Derived.Test.YtpncpbdfomgcgaaOpq
import Derived.Test.YtpncpbdfomgcgaaPlain
import Derived.SizedLaws
import Derived.Stop.Joined
namespace Go.Proofs.Ytpncpbdfomgcgaa
open Go Go.Eng Go.Rl Go.Frm
open Go.ChangeShapes Go.WideShapes Go.ChangeAt Go.RowKit Go.Joins

set_option maxRecDepth 100000 in
theorem liftedRelRounds (os : Os) (started : os.Started) (H : Type) (enc : TypeId × Value → H) :
    ReturnsInHanded {} Try.checked os 3 .any (Rows.relRoundsSpec.pre6 enc Try.prog Try.f3 [] false) (Rows.relRoundsSpec.post enc Try.prog Try.f3 false true false false) := by
  refine returnsInHanded_of_change_sized (C := Try.checked) own started (by kernel_rfl) Try.func3
    (ChangeSpec.witness6 (enc := enc) (C := Try.checked) false ⟨#[], #[.agg #[.int .i64 0, .slice none 0 0]], []⟩ 8 (by kernel_rfl) (by kernel_rfl) (by kernel_rfl) (by kernel_rfl)) ?_
  intro W base args ds gs before hval0 hW _ hsz0 _
  have hval : ∀ (j : Nat) t v, Try.f3.params[j]? = some t → args[j]? = some v → Value.okWide Try.prog W .any base t v := hval0
  have hsz : (DataW.weightsEach Try.prog (Try.f3.params.toList ++ Rows.relRoundsSpec.plain.varTypes Try.prog) (ds ++ gs)).all (· ≤ reachBytes) = true := hsz0
  have hW' := hW
  obtain ⟨p, q, hA0, hV, rfl, _, _⟩ := hW
  have hA : DataW.TrodAll enc Try.prog W 0 (fun _ => true) true Try.f3.params.toList args.toList ds p := hA0
  rw [Try.params3] at hA hval hsz
  obtain ⟨v0, d0, rfl, rfl, g0⟩ := trodAll_one hA
  obtain ⟨rfl, rfl⟩ := trodVars_none hV
  obtain ⟨_, rfl, _, _, rfl, ⟨rN, rfl, l_rN, u_rN⟩, _, _, rfl, ⟨rRows, rRows', rfl, h_rRows, b_rRows, e_rRows⟩, rfl⟩ := arg_struct Try.underlying24 (hval 0 24 v0 rfl rfl) g0 (sz_at hsz (j := 0) (t := 24) rfl rfl) (opn_struct Try.underlying24 (by kernel_rfl) (.cons (opn_i64 Try.underlying3) (.cons (opn_slice (en := encW) (sz := 1) Try.underlying22 (by kernel_rfl) (opn_ely (el_u64 Try.underlying42))) .nil)))
  refine Calls.mono (relRounds_spec rN rRows rRows' W h_rRows b_rRows) fun e W' h => ?_
  unfold PurR at h
  obtain ⟨v, rfl, hbel, rfl⟩ := h
  exact ⟨_, rfl, post_pure laidOut (fun t ht => by
    rw [Try.params3] at ht
    simp at ht
    subst ht; exact ⟨by kernel_rfl, of_decide_eq_true (by kernel_rfl)⟩) rfl rfl Try.underlying4 hW' rfl rfl rfl hbel⟩

theorem relRounds_holds : Rows.RelRoundsSaid :=
  OpenClaim.holds_of_wide 3 Try.f3 rfl rfl rfl rfl rfl rfl rfl ⟨rfl, rfl, rfl, rfl, rfl⟩ rfl rfl rfl rfl rfl (by kernel_rfl) Try.func3 (by kernel_rfl)
    (of_decide_eq_true (by kernel_rfl)) (by unfold Func.isWrapper; rw [if_neg (of_decide_eq_false (by kernel_rfl))]; exact ⟨rfl, rfl⟩)
    (fun os started H enc _ => liftedRelRounds os started H enc)

#print axioms relRounds_holds
end Go.Proofs.Ytpncpbdfomgcgaa
