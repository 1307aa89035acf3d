/- The law ViewRound, walked. -/
import Derived.Test.YtnplmhfjoemgdaaGreatDoorVwP
set_option linter.unusedSimpArgs false
set_option linter.unusedVariables false
namespace Go.Proofs.YtnplmhfjoemgdaaGreatDoor
open Go Go.Eng Go.Tc Go.Rl Go.Vw
attribute [local irreducible] wpList Code.wp bodyPost Exit.then Exit.inBlock Calls

end Go.Proofs.YtnplmhfjoemgdaaGreatDoor
