/- What the laws of the door seat share: the table as it is laid. -/
import Derived.Test.YtpncpbdfomgcgaaDoorRows
import Derived.Test.YtpncpbdfomgcgaaDoorCards
import Derived.Test.YtpncpbdfomgcgaaDoorTie
import Derived.Test.YtpncpbdfomgcgaaDoorRelC
import Derived.Test.YtpncpbdfomgcgaaDoorOpn
import Derived.LaidMore
import Derived.Stop.Joined
import Derived.SevenTiedAt
namespace Go.Proofs.YtpncpbdfomgcgaaDoor
open Go Go.Eng Go.Rl Go.Frm
open Go.ChangeShapes Go.WideShapes Go.ChangeAt Go.RowKit Go.Joins

theorem own : ownKnob Tryd.prog.godebug = none := by kernel_rfl
theorem laidOut : laidOutB Tryd.prog = true := by kernel_rfl
abbrev lay1 : List (String × DataW Unit) := [("math/bits.deBruijn64tab", Rows.laid_math_bits_deBruijn64tab)]
theorem gTab : Tryd.prog.globalNamed "math/bits.deBruijn64tab" = some 0 := by kernel_rfl
theorem tTab : (Tryd.prog.globals[0]?).map (·.type) = some 70 := by kernel_rfl

theorem door_met (os : Os) (args : Array Value) : laidMetH Tryd.prog lay1 ((World.doorLaid Tryd.prog 400 os).forCall (fun _ _ => 0) ⟨#[], args, []⟩).memory :=
  laidMetH_of_parts3 (fuel := 8) (laidMet_of_run' 8 (by kernel_rfl) (by kernel_rfl)) (by kernel_rfl) (by kernel_rfl)

theorem tab_of {W : World} (h : laidMetH Tryd.prog lay1 W) : Tab W := by
  rw [MakeChecks.laidMetH_plain _ _ _ (by kernel_rfl)] at h
  obtain ⟨ps, ⟨g0, t0, cs0, f0, p0, q0, hg0, ht0, hv0, hd0, _, _⟩, _, _⟩ := h
  obtain rfl := Option.some.inj (gTab.symm.trans hg0)
  obtain rfl := Option.some.inj (tTab.symm.trans ht0)
  exact tab_sl (zs := Lib.deBruijn64tab) Tryd.underlying70 Tryd.underlying5 (by kernel_rfl) rfl (by decide) hg0 hv0 hd0

end Go.Proofs.YtpncpbdfomgcgaaDoor
