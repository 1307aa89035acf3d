/-
  DERIVED. GIVEN WITH THE SEED: THE CARDS: each row of YtiknadellddjhaaGreatDoorRows.lean that lists a variable, with what it lists TIED to the program's text (the seventh form; the later family's looks); each row that meets fmt, with fmt's text TOLD by the authors' own Lean function (tested against real Go, not proved from fmt's source: count such statements apart). THE CARD IS WHAT COUNTS. Prove the row's statement (the work); the ties are given (YtiknadellddjhaaGreatDoorTie.lean); close each card by the builder's one call (the guide's Derived/Test/ToyasCard.lean, 'card_holds'). Laid BY PROGRAM, IN A SANDBOX (cutbox-door.mjs). By AI agents, Wed Nov 11 2026. No macro, syntax, notation, axiom, sorry.
-/
import Derived.Test.YtiknadellddjhaaGreatDoorRows
import GoSem.ClaimSeven
namespace Go.Proofs.YtiknadellddjhaaGreatDoor
namespace Rows

/-- THE TIED CARD OF 'alembictop.WholeSound'. -/
def wholeSoundCard : Claim7 := { stood := { row := wholeSoundRow, standIns := [], harness := (true, "9adbbf5923800d4c51fbbcff5e0d5b5d00886db3dab14f3d973ce77f18c20e6a"), looks := true }, kinds := [], alts := [], laidByText := true, laidKinds := [.data, .data, .pinned], laidTests := true, laidLooks := .later }
def WholeSoundCardSaid : Prop := Claim7.holds Tryz.pinned (.plain (OpenSpec.ofChange wholeSoundSpec)) wholeSoundCard

/-- THE TIED CARD OF 'alembictop.WholeComplete'. -/
def wholeCompleteCard : Claim7 := { stood := { row := wholeCompleteRow, standIns := [], harness := (true, "9adbbf5923800d4c51fbbcff5e0d5b5d00886db3dab14f3d973ce77f18c20e6a"), looks := true }, kinds := [], alts := [], laidByText := true, laidKinds := [.data, .data, .pinned], laidTests := true, laidLooks := .later }
def WholeCompleteCardSaid : Prop := Claim7.holds Tryz.pinned (.plain (OpenSpec.ofChange wholeCompleteSpec)) wholeCompleteCard

/-- THE SECOND FORM's CARD OF 'alembictop.WholeSound'. -/
def wholeSoundUptoCard : Claim7 := { stood := { row := wholeSoundUptoRow, standIns := [], harness := (true, "9adbbf5923800d4c51fbbcff5e0d5b5d00886db3dab14f3d973ce77f18c20e6a"), looks := true }, kinds := [], alts := [], laidByText := true, laidKinds := [.data, .data, .pinned], laidTests := true, laidLooks := .later }
def WholeSoundUptoCardSaid : Prop := Claim7.holds Tryz.pinned (.plain (OpenSpec.upto wholeSoundSpec)) wholeSoundUptoCard

/-- THE SECOND FORM's CARD OF 'alembictop.WholeComplete'. -/
def wholeCompleteUptoCard : Claim7 := { stood := { row := wholeCompleteUptoRow, standIns := [], harness := (true, "9adbbf5923800d4c51fbbcff5e0d5b5d00886db3dab14f3d973ce77f18c20e6a"), looks := true }, kinds := [], alts := [], laidByText := true, laidKinds := [.data, .data, .pinned], laidTests := true, laidLooks := .later }
def WholeCompleteUptoCardSaid : Prop := Claim7.holds Tryz.pinned (.plain (OpenSpec.upto wholeCompleteSpec)) wholeCompleteUptoCard
end Rows
end Go.Proofs.YtiknadellddjhaaGreatDoor
