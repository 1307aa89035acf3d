/-
  DERIVED. GIVEN WITH THE SEED: THE CARDS: each row of YtnplmhfjoemgdaaGreatDoorRows.lean that lists a variable, with what it lists TIED to the program's text (the seventh form; the later family's looks); each row that meets fmt, with fmt's text TOLD by the authors' own Lean function (tested against real Go, not proved from fmt's source: count such statements apart). THE CARD IS WHAT COUNTS. Prove the row's statement (the work); the ties are given (YtnplmhfjoemgdaaGreatDoorTie.lean); close each card by the builder's one call (the guide's Derived/Test/ToyasCard.lean, 'card_holds'). Laid BY PROGRAM, IN A SANDBOX (cutbox-door.mjs). By AI agents, Wed Nov 11 2026. No macro, syntax, notation, axiom, sorry.
-/
import Derived.Test.YtnplmhfjoemgdaaGreatDoorRows
import GoSem.ClaimSeven
namespace Go.Proofs.YtnplmhfjoemgdaaGreatDoor
namespace Rows

/-- THE TIED CARD OF 'alembiclaw19.TsoPpo'. -/
def tsoPpoCard : Claim7 := { stood := { row := tsoPpoRow, standIns := [], harness := (true, "7f030369f1d87d30ad73a3ecda773d5b76f8967368ae064da7f26ab878b15e63"), looks := false }, kinds := [], alts := [], laidByText := true, laidKinds := [.data], laidTests := true, laidLooks := .later }
def TsoPpoCardSaid : Prop := Claim7.holds Tryz.pinned (.plain (OpenSpec.ofChange tsoPpoSpec)) tsoPpoCard

/-- THE TIED CARD OF 'alembiclaw19.TsoExplains'. -/
def tsoExplainsCard : Claim7 := { stood := { row := tsoExplainsRow, standIns := [], harness := (true, "7f030369f1d87d30ad73a3ecda773d5b76f8967368ae064da7f26ab878b15e63"), looks := false }, kinds := [], alts := [], laidByText := true, laidKinds := [.data], laidTests := true, laidLooks := .later }
def TsoExplainsCardSaid : Prop := Claim7.holds Tryz.pinned (.plain (OpenSpec.ofChange tsoExplainsSpec)) tsoExplainsCard

/-- THE TIED CARD OF 'alembiclaw19.TsoWithin'. -/
def tsoWithinCard : Claim7 := { stood := { row := tsoWithinRow, standIns := [], harness := (true, "7f030369f1d87d30ad73a3ecda773d5b76f8967368ae064da7f26ab878b15e63"), looks := false }, kinds := [], alts := [], laidByText := true, laidKinds := [.data], laidTests := true, laidLooks := .later }
def TsoWithinCardSaid : Prop := Claim7.holds Tryz.pinned (.plain (OpenSpec.ofChange tsoWithinSpec)) tsoWithinCard

/-- THE TIED CARD OF 'alembiclaw19.TsoFenced'. -/
def tsoFencedCard : Claim7 := { stood := { row := tsoFencedRow, standIns := [], harness := (true, "7f030369f1d87d30ad73a3ecda773d5b76f8967368ae064da7f26ab878b15e63"), looks := false }, kinds := [], alts := [], laidByText := true, laidKinds := [.data], laidTests := true, laidLooks := .later }
def TsoFencedCardSaid : Prop := Claim7.holds Tryz.pinned (.plain (OpenSpec.ofChange tsoFencedSpec)) tsoFencedCard

/-- THE TIED CARD OF 'alembiclaw18.SeqcExplains'. -/
def seqcExplainsCard : Claim7 := { stood := { row := seqcExplainsRow, standIns := [], harness := (true, "7f030369f1d87d30ad73a3ecda773d5b76f8967368ae064da7f26ab878b15e63"), looks := false }, kinds := [], alts := [], laidByText := true, laidKinds := [.data], laidTests := true, laidLooks := .later }
def SeqcExplainsCardSaid : Prop := Claim7.holds Tryz.pinned (.plain (OpenSpec.ofChange seqcExplainsSpec)) seqcExplainsCard

/-- THE TIED CARD OF 'alembiclaw18.SeqcWeaves'. -/
def seqcWeavesCard : Claim7 := { stood := { row := seqcWeavesRow, standIns := [], harness := (true, "7f030369f1d87d30ad73a3ecda773d5b76f8967368ae064da7f26ab878b15e63"), looks := false }, kinds := [], alts := [], laidByText := true, laidKinds := [.data], laidTests := true, laidLooks := .later }
def SeqcWeavesCardSaid : Prop := Claim7.holds Tryz.pinned (.plain (OpenSpec.ofChange seqcWeavesSpec)) seqcWeavesCard

/-- THE TIED CARD OF 'alembiclaw18.SeqcCoherent'. -/
def seqcCoherentCard : Claim7 := { stood := { row := seqcCoherentRow, standIns := [], harness := (true, "7f030369f1d87d30ad73a3ecda773d5b76f8967368ae064da7f26ab878b15e63"), looks := false }, kinds := [], alts := [], laidByText := true, laidKinds := [.data], laidTests := true, laidLooks := .later }
def SeqcCoherentCardSaid : Prop := Claim7.holds Tryz.pinned (.plain (OpenSpec.ofChange seqcCoherentSpec)) seqcCoherentCard

/-- THE TIED CARD OF 'alembiclaw19.TsoWhy'. -/
def tsoWhyCard : Claim7 := { stood := { row := tsoWhyRow, standIns := [], harness := (true, "7f030369f1d87d30ad73a3ecda773d5b76f8967368ae064da7f26ab878b15e63"), looks := false }, kinds := [], alts := [], laidByText := true, laidKinds := [.data], laidTests := true, laidLooks := .later }
def TsoWhyCardSaid : Prop := Claim7.holds Tryz.pinned (.plain (OpenSpec.ofChange tsoWhySpec)) tsoWhyCard

/-- THE SECOND FORM's CARD OF 'alembiclaw19.TsoPpo'. -/
def tsoPpoUptoCard : Claim7 := { stood := { row := tsoPpoUptoRow, standIns := [], harness := (true, "7f030369f1d87d30ad73a3ecda773d5b76f8967368ae064da7f26ab878b15e63"), looks := false }, kinds := [], alts := [], laidByText := true, laidKinds := [.data], laidTests := true, laidLooks := .later }
def TsoPpoUptoCardSaid : Prop := Claim7.holds Tryz.pinned (.plain (OpenSpec.upto tsoPpoSpec)) tsoPpoUptoCard

/-- THE SECOND FORM's CARD OF 'alembiclaw19.TsoExplains'. -/
def tsoExplainsUptoCard : Claim7 := { stood := { row := tsoExplainsUptoRow, standIns := [], harness := (true, "7f030369f1d87d30ad73a3ecda773d5b76f8967368ae064da7f26ab878b15e63"), looks := false }, kinds := [], alts := [], laidByText := true, laidKinds := [.data], laidTests := true, laidLooks := .later }
def TsoExplainsUptoCardSaid : Prop := Claim7.holds Tryz.pinned (.plain (OpenSpec.upto tsoExplainsSpec)) tsoExplainsUptoCard

/-- THE SECOND FORM's CARD OF 'alembiclaw19.TsoWithin'. -/
def tsoWithinUptoCard : Claim7 := { stood := { row := tsoWithinUptoRow, standIns := [], harness := (true, "7f030369f1d87d30ad73a3ecda773d5b76f8967368ae064da7f26ab878b15e63"), looks := false }, kinds := [], alts := [], laidByText := true, laidKinds := [.data], laidTests := true, laidLooks := .later }
def TsoWithinUptoCardSaid : Prop := Claim7.holds Tryz.pinned (.plain (OpenSpec.upto tsoWithinSpec)) tsoWithinUptoCard

/-- THE SECOND FORM's CARD OF 'alembiclaw19.TsoFenced'. -/
def tsoFencedUptoCard : Claim7 := { stood := { row := tsoFencedUptoRow, standIns := [], harness := (true, "7f030369f1d87d30ad73a3ecda773d5b76f8967368ae064da7f26ab878b15e63"), looks := false }, kinds := [], alts := [], laidByText := true, laidKinds := [.data], laidTests := true, laidLooks := .later }
def TsoFencedUptoCardSaid : Prop := Claim7.holds Tryz.pinned (.plain (OpenSpec.upto tsoFencedSpec)) tsoFencedUptoCard

/-- THE SECOND FORM's CARD OF 'alembiclaw18.SeqcExplains'. -/
def seqcExplainsUptoCard : Claim7 := { stood := { row := seqcExplainsUptoRow, standIns := [], harness := (true, "7f030369f1d87d30ad73a3ecda773d5b76f8967368ae064da7f26ab878b15e63"), looks := false }, kinds := [], alts := [], laidByText := true, laidKinds := [.data], laidTests := true, laidLooks := .later }
def SeqcExplainsUptoCardSaid : Prop := Claim7.holds Tryz.pinned (.plain (OpenSpec.upto seqcExplainsSpec)) seqcExplainsUptoCard

/-- THE SECOND FORM's CARD OF 'alembiclaw18.SeqcWeaves'. -/
def seqcWeavesUptoCard : Claim7 := { stood := { row := seqcWeavesUptoRow, standIns := [], harness := (true, "7f030369f1d87d30ad73a3ecda773d5b76f8967368ae064da7f26ab878b15e63"), looks := false }, kinds := [], alts := [], laidByText := true, laidKinds := [.data], laidTests := true, laidLooks := .later }
def SeqcWeavesUptoCardSaid : Prop := Claim7.holds Tryz.pinned (.plain (OpenSpec.upto seqcWeavesSpec)) seqcWeavesUptoCard

/-- THE SECOND FORM's CARD OF 'alembiclaw18.SeqcCoherent'. -/
def seqcCoherentUptoCard : Claim7 := { stood := { row := seqcCoherentUptoRow, standIns := [], harness := (true, "7f030369f1d87d30ad73a3ecda773d5b76f8967368ae064da7f26ab878b15e63"), looks := false }, kinds := [], alts := [], laidByText := true, laidKinds := [.data], laidTests := true, laidLooks := .later }
def SeqcCoherentUptoCardSaid : Prop := Claim7.holds Tryz.pinned (.plain (OpenSpec.upto seqcCoherentSpec)) seqcCoherentUptoCard

/-- THE SECOND FORM's CARD OF 'alembiclaw19.TsoWhy'. -/
def tsoWhyUptoCard : Claim7 := { stood := { row := tsoWhyUptoRow, standIns := [], harness := (true, "7f030369f1d87d30ad73a3ecda773d5b76f8967368ae064da7f26ab878b15e63"), looks := false }, kinds := [], alts := [], laidByText := true, laidKinds := [.data], laidTests := true, laidLooks := .later }
def TsoWhyUptoCardSaid : Prop := Claim7.holds Tryz.pinned (.plain (OpenSpec.upto tsoWhySpec)) tsoWhyUptoCard
end Rows
end Go.Proofs.YtnplmhfjoemgdaaGreatDoor
