/-
  DERIVED. GIVEN WITH THE SEED: THE CARDS: each row of YtcjabnfgkfiajaaGreatDoorRows.lean that lists a variable, with what it lists TIED to the program's text (the seventh form; the later family's looks); each row that meets fmt, with fmt's text TOLD by the authors' own Lean function (tested against real Go, not proved from fmt's source: count such statements apart). THE CARD IS WHAT COUNTS. Prove the row's statement (the work); the ties are given (YtcjabnfgkfiajaaGreatDoorTie.lean); close each card by the builder's one call (the guide's Derived/Test/ToyasCard.lean, 'card_holds'). Laid BY PROGRAM, IN A SANDBOX (cutbox-door.mjs). By AI agents, Wed Nov 11 2026. No macro, syntax, notation, axiom, sorry.
-/
import Derived.Test.YtcjabnfgkfiajaaGreatDoorRows
import GoSem.ClaimSeven
namespace Go.Proofs.YtcjabnfgkfiajaaGreatDoor
namespace Rows

/-- THE TIED CARD OF 'alembiclaw17.ViewOf'. -/
def viewOfCard : Claim7 := { stood := { row := viewOfRow, standIns := [], harness := (true, "191d5523756141dd6b95bc05763b9e7ef93e4eabe390b30bd1ba0a22b1ae9eaa"), looks := false }, kinds := [], alts := [], laidByText := true, laidKinds := [.data], laidTests := true, laidLooks := .later }
def ViewOfCardSaid : Prop := Claim7.holds Tryz.pinned (.plain (OpenSpec.ofChange viewOfSpec)) viewOfCard

/-- THE TIED CARD OF 'alembiclaw17.ViewWhy'. -/
def viewWhyCard : Claim7 := { stood := { row := viewWhyRow, standIns := [], harness := (true, "191d5523756141dd6b95bc05763b9e7ef93e4eabe390b30bd1ba0a22b1ae9eaa"), looks := false }, kinds := [], alts := [], laidByText := true, laidKinds := [.data], laidTests := true, laidLooks := .later }
def ViewWhyCardSaid : Prop := Claim7.holds Tryz.pinned (.plain (OpenSpec.ofChange viewWhySpec)) viewWhyCard

/-- THE TIED CARD OF 'alembiclaw17.ViewFroms'. -/
def viewFromsCard : Claim7 := { stood := { row := viewFromsRow, standIns := [], harness := (true, "191d5523756141dd6b95bc05763b9e7ef93e4eabe390b30bd1ba0a22b1ae9eaa"), looks := false }, kinds := [], alts := [], laidByText := true, laidKinds := [.data], laidTests := true, laidLooks := .later }
def ViewFromsCardSaid : Prop := Claim7.holds Tryz.pinned (.plain (OpenSpec.ofChange viewFromsSpec)) viewFromsCard

/-- THE TIED CARD OF 'alembiclaw17.ViewRound'. -/
def viewRoundCard : Claim7 := { stood := { row := viewRoundRow, standIns := [], harness := (true, "191d5523756141dd6b95bc05763b9e7ef93e4eabe390b30bd1ba0a22b1ae9eaa"), looks := false }, kinds := [], alts := [], laidByText := true, laidKinds := [.data], laidTests := true, laidLooks := .later }
def ViewRoundCardSaid : Prop := Claim7.holds Tryz.pinned (.plain (OpenSpec.ofChange viewRoundSpec)) viewRoundCard

/-- THE SECOND FORM's CARD OF 'alembiclaw17.ViewOf'. -/
def viewOfUptoCard : Claim7 := { stood := { row := viewOfUptoRow, standIns := [], harness := (true, "191d5523756141dd6b95bc05763b9e7ef93e4eabe390b30bd1ba0a22b1ae9eaa"), looks := false }, kinds := [], alts := [], laidByText := true, laidKinds := [.data], laidTests := true, laidLooks := .later }
def ViewOfUptoCardSaid : Prop := Claim7.holds Tryz.pinned (.plain (OpenSpec.upto viewOfSpec)) viewOfUptoCard

/-- THE SECOND FORM's CARD OF 'alembiclaw17.ViewWhy'. -/
def viewWhyUptoCard : Claim7 := { stood := { row := viewWhyUptoRow, standIns := [], harness := (true, "191d5523756141dd6b95bc05763b9e7ef93e4eabe390b30bd1ba0a22b1ae9eaa"), looks := false }, kinds := [], alts := [], laidByText := true, laidKinds := [.data], laidTests := true, laidLooks := .later }
def ViewWhyUptoCardSaid : Prop := Claim7.holds Tryz.pinned (.plain (OpenSpec.upto viewWhySpec)) viewWhyUptoCard

/-- THE SECOND FORM's CARD OF 'alembiclaw17.ViewFroms'. -/
def viewFromsUptoCard : Claim7 := { stood := { row := viewFromsUptoRow, standIns := [], harness := (true, "191d5523756141dd6b95bc05763b9e7ef93e4eabe390b30bd1ba0a22b1ae9eaa"), looks := false }, kinds := [], alts := [], laidByText := true, laidKinds := [.data], laidTests := true, laidLooks := .later }
def ViewFromsUptoCardSaid : Prop := Claim7.holds Tryz.pinned (.plain (OpenSpec.upto viewFromsSpec)) viewFromsUptoCard

/-- THE SECOND FORM's CARD OF 'alembiclaw17.ViewRound'. -/
def viewRoundUptoCard : Claim7 := { stood := { row := viewRoundUptoRow, standIns := [], harness := (true, "191d5523756141dd6b95bc05763b9e7ef93e4eabe390b30bd1ba0a22b1ae9eaa"), looks := false }, kinds := [], alts := [], laidByText := true, laidKinds := [.data], laidTests := true, laidLooks := .later }
def ViewRoundUptoCardSaid : Prop := Claim7.holds Tryz.pinned (.plain (OpenSpec.upto viewRoundSpec)) viewRoundUptoCard
end Rows
end Go.Proofs.YtcjabnfgkfiajaaGreatDoor
