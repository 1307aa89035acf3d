/- The walks: Back (both), Pick (both). -/
import Derived.Test.YtpncpbdfomgcgaaRelJ
import Derived.Test.YtpncpbdfomgcgaaRelT
namespace Go.Proofs.Ytpncpbdfomgcgaa
open Go Go.Eng Go.Rl
attribute [local irreducible] wpList Code.wp bodyPost Exit.then Exit.inBlock Calls

def backL (m : Nat) (rows : List W) : List W := relOf m fun a b => bt rows b a

def backRow (rows : List W) (i : Nat) (n : Nat) : W := (List.range n).foldl (fun r j => r ||| (rows.getD j default >>> i &&& 1#64) <<< j) 0#64
theorem backRow_succ (rows : List W) (i n : Nat) : backRow rows i (n + 1) = backRow rows i n ||| (rows.getD n default >>> i &&& 1#64) <<< n := by
  unfold backRow; rw [List.range_succ, List.foldl_append]; rfl

end Go.Proofs.Ytpncpbdfomgcgaa
