/- The walks of the reference: mixed, Union, Both, Less, Then, Within (both). -/
import Derived.Test.YtpncpbdfomgcgaaRelM
namespace Go.Proofs.Ytpncpbdfomgcgaa
open Go Go.Eng Go.Rl
attribute [local irreducible] wpList Code.wp bodyPost Exit.then Exit.inBlock Calls

theorem how1 : howB 1 = (· || ·) := by funext x y; simp [howB]
theorem how2 : howB 2 = (· && ·) := by funext x y; simp [howB]
theorem how3 : howB 3 = (fun x y => x && !y) := by funext x y; simp [howB]

end Go.Proofs.Ytpncpbdfomgcgaa
