/-
  DERIVED. GIVEN WITH THE SEED: THE CARDS: each row of YtcjabnfgkfiajaaDoorRows.lean that lists a variable, with what it lists TIED to the program's text (the seventh form; the later family's looks); each row that meets fmt, with fmt's text TOLD by the authors' own Lean function (tested against real Go, not proved from fmt's source: count such statements apart). THE CARD IS WHAT COUNTS. Prove the row's statement (the work); the ties are given (YtcjabnfgkfiajaaDoorTie.lean); close each card by the builder's one call (the guide's Derived/Test/ToyasCard.lean, 'card_holds'). Laid BY PROGRAM, IN A SANDBOX (cutbox-door.mjs). By AI agents, Wed Nov 11 2026. No macro, syntax, notation, axiom, sorry.
-/
import Derived.Test.YtcjabnfgkfiajaaDoorRows
import GoSem.ClaimSeven
namespace Go.Proofs.YtcjabnfgkfiajaaDoor
namespace Rows

/-- THE TIED CARD OF 'alembiclaw17.ViewArcs'. -/
def viewArcsCard : Claim7 := { stood := { row := viewArcsRow, standIns := [], harness := (true, "c9c6aef4b1afda55ac18e329126d050d998e452ad8d6b440402eadd5d7ad5e64"), looks := false }, kinds := [], alts := [], laidByText := true, laidKinds := [.data], laidTests := true, laidLooks := .later }
def ViewArcsCardSaid : Prop := Claim7.holds Tryd.pinned (.plain (OpenSpec.ofChange viewArcsSpec)) viewArcsCard

/-- THE TIED CARD OF 'alembiclaw17.ViewFive'. -/
def viewFiveCard : Claim7 := { stood := { row := viewFiveRow, standIns := [], harness := (true, "c9c6aef4b1afda55ac18e329126d050d998e452ad8d6b440402eadd5d7ad5e64"), looks := false }, kinds := [], alts := [], laidByText := true, laidKinds := [.data], laidTests := true, laidLooks := .later }
def ViewFiveCardSaid : Prop := Claim7.holds Tryd.pinned (.plain (OpenSpec.ofChange viewFiveSpec)) viewFiveCard

/-- THE SECOND FORM's CARD OF 'alembiclaw17.ViewArcs'. -/
def viewArcsUptoCard : Claim7 := { stood := { row := viewArcsUptoRow, standIns := [], harness := (true, "c9c6aef4b1afda55ac18e329126d050d998e452ad8d6b440402eadd5d7ad5e64"), looks := false }, kinds := [], alts := [], laidByText := true, laidKinds := [.data], laidTests := true, laidLooks := .later }
def ViewArcsUptoCardSaid : Prop := Claim7.holds Tryd.pinned (.plain (OpenSpec.upto viewArcsSpec)) viewArcsUptoCard

/-- THE SECOND FORM's CARD OF 'alembiclaw17.ViewFive'. -/
def viewFiveUptoCard : Claim7 := { stood := { row := viewFiveUptoRow, standIns := [], harness := (true, "c9c6aef4b1afda55ac18e329126d050d998e452ad8d6b440402eadd5d7ad5e64"), looks := false }, kinds := [], alts := [], laidByText := true, laidKinds := [.data], laidTests := true, laidLooks := .later }
def ViewFiveUptoCardSaid : Prop := Claim7.holds Tryd.pinned (.plain (OpenSpec.upto viewFiveSpec)) viewFiveUptoCard
end Rows
end Go.Proofs.YtcjabnfgkfiajaaDoor
