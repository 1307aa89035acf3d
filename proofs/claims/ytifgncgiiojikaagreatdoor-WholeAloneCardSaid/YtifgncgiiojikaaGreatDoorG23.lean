import Derived.Test.YtifgncgiiojikaaGreatDoorG22
set_option linter.unusedSimpArgs false
set_option linter.unusedVariables false
section
/- The walks: awake, refused; the laws ViewOf, ViewWhy. -/
namespace Go.Proofs.YtifgncgiiojikaaGreatDoor
open Go Go.Eng Go.Tc Go.Rl Go.Vw
attribute [local irreducible] wpList Code.wp bodyPost Exit.then Exit.inBlock Calls
theorem small_whyE : whyE smallT sc1 = 0 := by
  unfold whyE
  rw [if_pos small1]; kernel_rfl
theorem small_whyL : whyL smallT sc1 = [⟨0, 1, 1⟩, ⟨1, 0, 4⟩] := by
  unfold whyL
  rw [if_pos ⟨small1, by kernel_rfl⟩]; kernel_rfl
theorem small_coh : cohB smallT sc2 = true := by
  unfold cohB
  rw [if_pos small2]; kernel_rfl

end Go.Proofs.YtifgncgiiojikaaGreatDoor
end

section
/- The laws ViewOf, ViewWhy, walked. -/
namespace Go.Tc
open Go Go.Eng
theorem cd_of {w : World} {fv ov : Value} {rf : List Int} {ovs : List Value} {b : Nat} (hb : b = 8) {Ψ : Int → Prop} (h1 : Sl All w encI 1 fv rf) (h2 : Sl All w encV 1 ov ovs) (h3 : ∀ x, x ∈ ovs → ∃ xs, Sl All w encI 1 x xs ∧ xs.length * b ≤ 140737488351232 ∧ ∀ y, y ∈ xs → Ψ y) : ∃ c, CdIn All w fv ov c ∧ c.rf = rf ∧ ovs.length = c.co.length := by
  subst hb
  have h4 : ∃ xss : List (List Int), ovs.length = xss.length ∧ ∀ i, i < xss.length → Sl All w encI 1 (ovs.getD i default) (xss.getD i default) ∧ (xss.getD i default).length * 8 ≤ 140737488351232 := by
    clear h2
    induction ovs with
    | nil => exact ⟨[], rfl, fun i hi => absurd hi (Nat.not_lt_zero _)⟩
    | cons v ovs ih =>
      obtain ⟨xss, hl, hall⟩ := ih fun x hx => h3 x (.tail _ hx)
      obtain ⟨xs, g1, g2, _⟩ := h3 v (.head _)
      refine ⟨xs :: xss, by simp [hl], fun i hi => ?_⟩
      cases i with
      | zero => exact ⟨g1, g2⟩
      | succ i => exact hall i (by simpa using hi)
  obtain ⟨xss, hl, hall⟩ := h4
  exact ⟨⟨rf, xss⟩, ⟨h1, ⟨ovs, h2, hl, fun i hi => (hall i hi).1⟩, fun i hi => (hall i hi).2⟩, rfl, hl⟩
end Go.Tc
namespace Go.Proofs.YtifgncgiiojikaaGreatDoor
open Go Go.Eng Go.Tc Go.Rl Go.Vw
attribute [local irreducible] wpList Code.wp bodyPost Exit.then Exit.inBlock Calls

end Go.Proofs.YtifgncgiiojikaaGreatDoor
end
