/- What the laws of a plain seat share. -/
import Derived.Test.YtpncpbdfomgcgaaTy
import Derived.Test.YtpncpbdfomgcgaaFrm
namespace Go.Proofs.Ytpncpbdfomgcgaa
open Go
theorem own : ownKnob Try.prog.godebug = none := by kernel_rfl
theorem laidOut : laidOutB Try.prog = true := by kernel_rfl
end Go.Proofs.Ytpncpbdfomgcgaa
