/- The walks: store buffering and what must come of it; the laws TsoPpo, TsoWhy. -/
import Derived.Test.YtifgncgiiojikaaGreatDoorTsE
import Derived.Test.YtifgncgiiojikaaGreatDoorG12
set_option linter.unusedSimpArgs false
set_option linter.unusedVariables false
namespace Go.Vw
open Go Go.Eng Go.Tc Go.Rl
def bufT : Tr := { locs := [⟨#[120]⟩, ⟨#[121]⟩], init := [0, 0], evs := [⟨0, 0, 2, 0, 1, 0⟩, ⟨0, 1, 1, 1, 0, 0⟩, ⟨1, 0, 2, 1, 1, 0⟩, ⟨1, 1, 1, 0, 0, 0⟩], bars := [], addr := [], data := [], ctrl := [], things := [], ends := [] }
def bufC : Cd := ⟨[-1, -1, -1, -1], [[0], [2]]⟩
theorem buf1 : cdE bufT bufC = 0 := by
  unfold cdE
  rw [if_pos (show trOk bufT = true by kernel_rfl), if_pos ((candB_iff _ _).2 ⟨rfl, rfl, all_range.1 (by kernel_rfl), all_range.1 (by kernel_rfl)⟩)]
end Go.Vw
namespace Go.Proofs.YtifgncgiiojikaaGreatDoor
open Go Go.Eng Go.Tc Go.Rl Go.Vw
attribute [local irreducible] wpList Code.wp bodyPost Exit.then Exit.inBlock Calls
theorem buf_ts : tsB bufT bufC = true := by
  unfold tsB cohB
  rw [if_pos buf1]; kernel_rfl
theorem buf_ordE : tordE bufT bufC = 0 := by
  unfold tordE
  rw [if_pos buf1, if_pos buf_ts]
theorem buf_ordL : tordL bufT bufC = [1, 2, 3, 0] := by
  unfold tordL
  rw [if_pos buf_ts]; kernel_rfl

end Go.Proofs.YtifgncgiiojikaaGreatDoor
