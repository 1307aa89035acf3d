/- The walks: store buffering again; alembiclaw18.awake, place, step. -/
import Derived.Test.YtifgncgiiojikaaGreatDoorScF
set_option linter.unusedSimpArgs false
set_option linter.unusedVariables false
namespace Go.Proofs.YtifgncgiiojikaaGreatDoor
open Go Go.Eng Go.Tc Go.Rl Go.Vw
attribute [local irreducible] wpList Code.wp bodyPost Exit.then Exit.inBlock Calls
def sbO : List Nat := [0, 2, 1, 3]
theorem sb_ok : trOk bufT = true := by kernel_rfl
theorem sb_ord : IsOrd bufT.evs.length sbO := ⟨by decide, by decide, rfl⟩
theorem sb_keeps : ∀ a b, a < bufT.evs.length → b < bufT.evs.length → poP bufT a b = true → posN sbO a < posN sbO b := fun a b ha hb =>
  (by decide +kernel : ∀ a, a < 4 → ∀ b, b < 4 → poP bufT a b = true → posN sbO a < posN sbO b) a ha b hb
theorem sb_sc : scB bufT bufC = false := by
  unfold scB; rw [if_pos buf1]; kernel_rfl
theorem sb_whyE : swhyE bufT bufC = 0 := by
  unfold swhyE; rw [if_pos buf1, if_neg (by rw [sb_sc]; simp)]; kernel_rfl
theorem sb_whyL : swhyL bufT bufC = [⟨0, 1, 1⟩, ⟨1, 2, 4⟩, ⟨2, 3, 1⟩, ⟨3, 0, 4⟩] := by
  unfold swhyL; rw [if_pos buf1, if_neg (by rw [sb_sc]; simp)]; kernel_rfl
theorem sb_rf : (candO bufT sbO).rf = [-1, 2, -1, 0] := by kernel_rfl
theorem sb_ordL : sordL bufT (candO bufT sbO) = [0, 2, 1, 3] := by
  unfold sordL; rw [if_pos (candO_sc sb_ok sb_ord sb_keeps)]; kernel_rfl
theorem sb_ordE : sordE bufT (candO bufT sbO) = 0 := by
  unfold sordE; rw [if_pos (candO_ok sb_ok sb_ord), if_pos (candO_sc sb_ok sb_ord sb_keeps)]

/-- a step of its kind -/
def StepIs (t : Tr) (c : Cd) (x y : Nat) (k : Int) : Prop := (k = 1 ∧ poP t x y = true) ∨ (k = 2 ∧ rfP t c x y = true) ∨ (k = 3 ∧ coP t c x y = true) ∨ (k = 4 ∧ frP t c x y = true)

end Go.Proofs.YtifgncgiiojikaaGreatDoor
