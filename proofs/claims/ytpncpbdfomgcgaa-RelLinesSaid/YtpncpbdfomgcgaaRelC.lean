/- The walks: TrailingZeros64, each. -/
import Derived.Test.YtpncpbdfomgcgaaRelB
namespace Go.Proofs.Ytpncpbdfomgcgaa
open Go Go.Eng Go.Rl
attribute [local irreducible] wpList Code.wp bodyPost Exit.then Exit.inBlock Calls

/-! Pairs -/
abbrev ownP (v : Value) (xs : List Pair) : Ent := .own v 49 2 encPair xs

end Go.Proofs.Ytpncpbdfomgcgaa
