/- Plain: the trace of message passing, its candidate (chapter 20). -/
import Derived.Test.YtgidhhpjabdnkaaGreatDoorRvF
set_option linter.unusedSimpArgs false
set_option linter.unusedVariables false
namespace Go.Vw
open Go Go.Eng Go.Tc Go.Rl Go.Proofs.YtgidhhpjabdnkaaGreatDoor
def mpT : Tr := { locs := [⟨#[120]⟩, ⟨#[121]⟩], init := [0, 0], evs := [⟨0, 0, 1, 0, 0, 9⟩, ⟨0, 3, 1, 1, 0, 10⟩, ⟨1, 1, 2, 1, 1, 0⟩, ⟨1, 4, 2, 0, 1, 0⟩], bars := [⟨1, 2, 7⟩], addr := [⟨0, 1⟩], data := [], ctrl := [], things := [], ends := [] }
def mpF : Tr := { mpT with addr := [] }
def staC : Cd := ⟨[3, -1, -1, -1], [[3], [2]]⟩
theorem mp_z : cdE mpT staC = 0 := by
  unfold cdE
  rw [if_pos (show trOk mpT = true by kernel_rfl), if_pos ((candB_iff _ _).2 ⟨rfl, rfl, all_range.1 (by kernel_rfl), all_range.1 (by kernel_rfl)⟩)]
theorem mpf_z : cdE mpF staC = 0 := by
  unfold cdE
  rw [if_pos (show trOk mpF = true by kernel_rfl), if_pos ((candB_iff _ _).2 ⟨rfl, rfl, all_range.1 (by kernel_rfl), all_range.1 (by kernel_rfl)⟩)]
end Go.Vw
namespace Go.Proofs.YtgidhhpjabdnkaaGreatDoor
open Go Go.Eng Go.Tc Go.Rl Go.Vw
theorem mp_no : rvB mpT staC = false := by
  unfold rvB cohB
  rw [if_pos mp_z]; kernel_rfl
theorem mpf_yes : rvB mpF staC = true := by
  unfold rvB cohB
  rw [if_pos mpf_z]; kernel_rfl
theorem mp_coh : cohB mpT staC = true := by
  unfold cohB
  rw [if_pos mp_z]; kernel_rfl
theorem mp_turn : ¬ acyP mpT (rhP mpT staC) = true := by
  rw [show acyP mpT (rhP mpT staC) = false by kernel_rfl]; simp
theorem mp_whyE : rvwhyE mpT staC = 0 := by
  unfold rvwhyE
  rw [if_pos mp_z, if_pos mp_coh, if_neg mp_turn]; kernel_rfl
theorem mp_whyL : rvwhyL mpT staC = [⟨0, 1, 6⟩, ⟨1, 2, 4⟩, ⟨2, 3, 5⟩, ⟨3, 0, 2⟩] := by
  unfold rvwhyL
  rw [if_pos mp_z, if_pos mp_coh, if_neg mp_turn]; kernel_rfl
theorem mp_nine : has mpT.evs.length (relOf mpT.evs.length (ruleP mpT staC ((9 : Nat) : Int))) 0 1 = true := by kernel_rfl
end Go.Proofs.YtgidhhpjabdnkaaGreatDoor
