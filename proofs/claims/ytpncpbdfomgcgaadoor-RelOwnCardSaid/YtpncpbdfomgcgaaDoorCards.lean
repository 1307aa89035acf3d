/-
  DERIVED. GIVEN WITH THE SEED: THE CARDS: each row of YtpncpbdfomgcgaaDoorRows.lean that lists a variable, with what it lists TIED to the program's text (the seventh form; the later family's looks); each row that meets fmt, with fmt's text TOLD by the authors' own Lean function (tested against real Go, not proved from fmt's source: count such statements apart). THE CARD IS WHAT COUNTS. Prove the row's statement (the work); the ties are given (YtpncpbdfomgcgaaDoorTie.lean); close each card by the builder's one call (the guide's Derived/Test/ToyasCard.lean, 'card_holds'). Laid BY PROGRAM, IN A SANDBOX (cutbox-door.mjs). By AI agents, Wed Nov 11 2026. No macro, syntax, notation, axiom, sorry.
-/
import Derived.Test.YtpncpbdfomgcgaaDoorRows
import GoSem.ClaimSeven
namespace Go.Proofs.YtpncpbdfomgcgaaDoor
namespace Rows

/-- THE TIED CARD OF 'alembiclaw01.RelMakes'. -/
def relMakesCard : Claim7 := { stood := { row := relMakesRow, standIns := [], harness := (true, "b79d73ff54fb8fb0df4b295753801d13a56390ad4b3b76b31e32d4077928e13a"), looks := false }, kinds := [], alts := [], laidByText := true, laidKinds := [.data], laidTests := true, laidLooks := .later }
def RelMakesCardSaid : Prop := Claim7.holds Tryd.pinned (.plain (OpenSpec.ofChange relMakesSpec)) relMakesCard

/-- THE TIED CARD OF 'alembiclaw01.RelAsks'. -/
def relAsksCard : Claim7 := { stood := { row := relAsksRow, standIns := [], harness := (true, "b79d73ff54fb8fb0df4b295753801d13a56390ad4b3b76b31e32d4077928e13a"), looks := false }, kinds := [], alts := [], laidByText := true, laidKinds := [.data], laidTests := true, laidLooks := .later }
def RelAsksCardSaid : Prop := Claim7.holds Tryd.pinned (.plain (OpenSpec.ofChange relAsksSpec)) relAsksCard

/-- THE TIED CARD OF 'alembiclaw01.RelCloses'. -/
def relClosesCard : Claim7 := { stood := { row := relClosesRow, standIns := [], harness := (true, "b79d73ff54fb8fb0df4b295753801d13a56390ad4b3b76b31e32d4077928e13a"), looks := false }, kinds := [], alts := [], laidByText := true, laidKinds := [.data], laidTests := true, laidLooks := .later }
def RelClosesCardSaid : Prop := Claim7.holds Tryd.pinned (.plain (OpenSpec.ofChange relClosesSpec)) relClosesCard

/-- THE TIED CARD OF 'alembiclaw01.RelAlgebra'. -/
def relAlgebraCard : Claim7 := { stood := { row := relAlgebraRow, standIns := [], harness := (true, "b79d73ff54fb8fb0df4b295753801d13a56390ad4b3b76b31e32d4077928e13a"), looks := false }, kinds := [], alts := [], laidByText := true, laidKinds := [.data], laidTests := true, laidLooks := .later }
def RelAlgebraCardSaid : Prop := Claim7.holds Tryd.pinned (.plain (OpenSpec.ofChange relAlgebraSpec)) relAlgebraCard

/-- THE TIED CARD OF 'alembiclaw01.RelMixes'. -/
def relMixesCard : Claim7 := { stood := { row := relMixesRow, standIns := [], harness := (true, "b79d73ff54fb8fb0df4b295753801d13a56390ad4b3b76b31e32d4077928e13a"), looks := false }, kinds := [], alts := [], laidByText := true, laidKinds := [.data], laidTests := true, laidLooks := .later }
def RelMixesCardSaid : Prop := Claim7.holds Tryd.pinned (.plain (OpenSpec.ofChange relMixesSpec)) relMixesCard

/-- THE TIED CARD OF 'alembiclaw01.RelOwn'. -/
def relOwnCard : Claim7 := { stood := { row := relOwnRow, standIns := [], harness := (true, "b79d73ff54fb8fb0df4b295753801d13a56390ad4b3b76b31e32d4077928e13a"), looks := false }, kinds := [], alts := [], laidByText := true, laidKinds := [.data], laidTests := true, laidLooks := .later }
def RelOwnCardSaid : Prop := Claim7.holds Tryd.pinned (.plain (OpenSpec.ofChange relOwnSpec)) relOwnCard

/-- THE SECOND FORM's CARD OF 'alembiclaw01.RelMakes'. -/
def relMakesUptoCard : Claim7 := { stood := { row := relMakesUptoRow, standIns := [], harness := (true, "b79d73ff54fb8fb0df4b295753801d13a56390ad4b3b76b31e32d4077928e13a"), looks := false }, kinds := [], alts := [], laidByText := true, laidKinds := [.data], laidTests := true, laidLooks := .later }
def RelMakesUptoCardSaid : Prop := Claim7.holds Tryd.pinned (.plain (OpenSpec.upto relMakesSpec)) relMakesUptoCard

/-- THE SECOND FORM's CARD OF 'alembiclaw01.RelAsks'. -/
def relAsksUptoCard : Claim7 := { stood := { row := relAsksUptoRow, standIns := [], harness := (true, "b79d73ff54fb8fb0df4b295753801d13a56390ad4b3b76b31e32d4077928e13a"), looks := false }, kinds := [], alts := [], laidByText := true, laidKinds := [.data], laidTests := true, laidLooks := .later }
def RelAsksUptoCardSaid : Prop := Claim7.holds Tryd.pinned (.plain (OpenSpec.upto relAsksSpec)) relAsksUptoCard

/-- THE SECOND FORM's CARD OF 'alembiclaw01.RelCloses'. -/
def relClosesUptoCard : Claim7 := { stood := { row := relClosesUptoRow, standIns := [], harness := (true, "b79d73ff54fb8fb0df4b295753801d13a56390ad4b3b76b31e32d4077928e13a"), looks := false }, kinds := [], alts := [], laidByText := true, laidKinds := [.data], laidTests := true, laidLooks := .later }
def RelClosesUptoCardSaid : Prop := Claim7.holds Tryd.pinned (.plain (OpenSpec.upto relClosesSpec)) relClosesUptoCard

/-- THE SECOND FORM's CARD OF 'alembiclaw01.RelAlgebra'. -/
def relAlgebraUptoCard : Claim7 := { stood := { row := relAlgebraUptoRow, standIns := [], harness := (true, "b79d73ff54fb8fb0df4b295753801d13a56390ad4b3b76b31e32d4077928e13a"), looks := false }, kinds := [], alts := [], laidByText := true, laidKinds := [.data], laidTests := true, laidLooks := .later }
def RelAlgebraUptoCardSaid : Prop := Claim7.holds Tryd.pinned (.plain (OpenSpec.upto relAlgebraSpec)) relAlgebraUptoCard

/-- THE SECOND FORM's CARD OF 'alembiclaw01.RelMixes'. -/
def relMixesUptoCard : Claim7 := { stood := { row := relMixesUptoRow, standIns := [], harness := (true, "b79d73ff54fb8fb0df4b295753801d13a56390ad4b3b76b31e32d4077928e13a"), looks := false }, kinds := [], alts := [], laidByText := true, laidKinds := [.data], laidTests := true, laidLooks := .later }
def RelMixesUptoCardSaid : Prop := Claim7.holds Tryd.pinned (.plain (OpenSpec.upto relMixesSpec)) relMixesUptoCard

/-- THE SECOND FORM's CARD OF 'alembiclaw01.RelOwn'. -/
def relOwnUptoCard : Claim7 := { stood := { row := relOwnUptoRow, standIns := [], harness := (true, "b79d73ff54fb8fb0df4b295753801d13a56390ad4b3b76b31e32d4077928e13a"), looks := false }, kinds := [], alts := [], laidByText := true, laidKinds := [.data], laidTests := true, laidLooks := .later }
def RelOwnUptoCardSaid : Prop := Claim7.holds Tryd.pinned (.plain (OpenSpec.upto relOwnSpec)) relOwnUptoCard
end Rows
end Go.Proofs.YtpncpbdfomgcgaaDoor
