/-
  DERIVED. GIVEN WITH THE SEED: THE CARDS: each row of YtgidhhpjabdnkaaGreatDoorRows.lean that lists a variable, with what it lists TIED to the program's text (the seventh form; the later family's looks); each row that meets fmt, with fmt's text TOLD by the authors' own Lean function (tested against real Go, not proved from fmt's source: count such statements apart). THE CARD IS WHAT COUNTS. Prove the row's statement (the work); the ties are given (YtgidhhpjabdnkaaGreatDoorTie.lean); close each card by the builder's one call (the guide's Derived/Test/ToyasCard.lean, 'card_holds'). Laid BY PROGRAM, IN A SANDBOX (cutbox-door.mjs). By AI agents, Wed Nov 11 2026. No macro, syntax, notation, axiom, sorry.
-/
import Derived.Test.YtgidhhpjabdnkaaGreatDoorRows
import GoSem.ClaimSeven
namespace Go.Proofs.YtgidhhpjabdnkaaGreatDoor
namespace Rows

/-- THE TIED CARD OF 'alembiclaw20.RvwmoFewer'. -/
def rvwmoFewerCard : Claim7 := { stood := { row := rvwmoFewerRow, standIns := [], harness := (true, "1aa2434d14b45271d25980bf92053fd559255ebfb1ef1db500905a56c06c7018"), looks := false }, kinds := [], alts := [], laidByText := true, laidKinds := [.data], laidTests := true, laidLooks := .later }
def RvwmoFewerCardSaid : Prop := Claim7.holds Tryz.pinned (.plain (OpenSpec.ofChange rvwmoFewerSpec)) rvwmoFewerCard

/-- THE TIED CARD OF 'alembiclaw20.RvwmoLoads'. -/
def rvwmoLoadsCard : Claim7 := { stood := { row := rvwmoLoadsRow, standIns := [], harness := (true, "1aa2434d14b45271d25980bf92053fd559255ebfb1ef1db500905a56c06c7018"), looks := false }, kinds := [], alts := [], laidByText := true, laidKinds := [.data], laidTests := true, laidLooks := .later }
def RvwmoLoadsCardSaid : Prop := Claim7.holds Tryz.pinned (.plain (OpenSpec.ofChange rvwmoLoadsSpec)) rvwmoLoadsCard

/-- THE TIED CARD OF 'alembiclaw20.RvwmoOrders'. -/
def rvwmoOrdersCard : Claim7 := { stood := { row := rvwmoOrdersRow, standIns := [], harness := (true, "1aa2434d14b45271d25980bf92053fd559255ebfb1ef1db500905a56c06c7018"), looks := false }, kinds := [], alts := [], laidByText := true, laidKinds := [.data], laidTests := true, laidLooks := .later }
def RvwmoOrdersCardSaid : Prop := Claim7.holds Tryz.pinned (.plain (OpenSpec.ofChange rvwmoOrdersSpec)) rvwmoOrdersCard

/-- THE TIED CARD OF 'alembiclaw20.RvwmoExplains'. -/
def rvwmoExplainsCard : Claim7 := { stood := { row := rvwmoExplainsRow, standIns := [], harness := (true, "1aa2434d14b45271d25980bf92053fd559255ebfb1ef1db500905a56c06c7018"), looks := false }, kinds := [], alts := [], laidByText := true, laidKinds := [.data], laidTests := true, laidLooks := .later }
def RvwmoExplainsCardSaid : Prop := Claim7.holds Tryz.pinned (.plain (OpenSpec.ofChange rvwmoExplainsSpec)) rvwmoExplainsCard

/-- THE TIED CARD OF 'alembiclaw20.RvwmoModels'. -/
def rvwmoModelsCard : Claim7 := { stood := { row := rvwmoModelsRow, standIns := [], harness := (true, "1aa2434d14b45271d25980bf92053fd559255ebfb1ef1db500905a56c06c7018"), looks := false }, kinds := [], alts := [], laidByText := true, laidKinds := [.data], laidTests := true, laidLooks := .later }
def RvwmoModelsCardSaid : Prop := Claim7.holds Tryz.pinned (.plain (OpenSpec.ofChange rvwmoModelsSpec)) rvwmoModelsCard

/-- THE SECOND FORM's CARD OF 'alembiclaw20.RvwmoFewer'. -/
def rvwmoFewerUptoCard : Claim7 := { stood := { row := rvwmoFewerUptoRow, standIns := [], harness := (true, "1aa2434d14b45271d25980bf92053fd559255ebfb1ef1db500905a56c06c7018"), looks := false }, kinds := [], alts := [], laidByText := true, laidKinds := [.data], laidTests := true, laidLooks := .later }
def RvwmoFewerUptoCardSaid : Prop := Claim7.holds Tryz.pinned (.plain (OpenSpec.upto rvwmoFewerSpec)) rvwmoFewerUptoCard

/-- THE SECOND FORM's CARD OF 'alembiclaw20.RvwmoLoads'. -/
def rvwmoLoadsUptoCard : Claim7 := { stood := { row := rvwmoLoadsUptoRow, standIns := [], harness := (true, "1aa2434d14b45271d25980bf92053fd559255ebfb1ef1db500905a56c06c7018"), looks := false }, kinds := [], alts := [], laidByText := true, laidKinds := [.data], laidTests := true, laidLooks := .later }
def RvwmoLoadsUptoCardSaid : Prop := Claim7.holds Tryz.pinned (.plain (OpenSpec.upto rvwmoLoadsSpec)) rvwmoLoadsUptoCard

/-- THE SECOND FORM's CARD OF 'alembiclaw20.RvwmoOrders'. -/
def rvwmoOrdersUptoCard : Claim7 := { stood := { row := rvwmoOrdersUptoRow, standIns := [], harness := (true, "1aa2434d14b45271d25980bf92053fd559255ebfb1ef1db500905a56c06c7018"), looks := false }, kinds := [], alts := [], laidByText := true, laidKinds := [.data], laidTests := true, laidLooks := .later }
def RvwmoOrdersUptoCardSaid : Prop := Claim7.holds Tryz.pinned (.plain (OpenSpec.upto rvwmoOrdersSpec)) rvwmoOrdersUptoCard

/-- THE SECOND FORM's CARD OF 'alembiclaw20.RvwmoExplains'. -/
def rvwmoExplainsUptoCard : Claim7 := { stood := { row := rvwmoExplainsUptoRow, standIns := [], harness := (true, "1aa2434d14b45271d25980bf92053fd559255ebfb1ef1db500905a56c06c7018"), looks := false }, kinds := [], alts := [], laidByText := true, laidKinds := [.data], laidTests := true, laidLooks := .later }
def RvwmoExplainsUptoCardSaid : Prop := Claim7.holds Tryz.pinned (.plain (OpenSpec.upto rvwmoExplainsSpec)) rvwmoExplainsUptoCard

/-- THE SECOND FORM's CARD OF 'alembiclaw20.RvwmoModels'. -/
def rvwmoModelsUptoCard : Claim7 := { stood := { row := rvwmoModelsUptoRow, standIns := [], harness := (true, "1aa2434d14b45271d25980bf92053fd559255ebfb1ef1db500905a56c06c7018"), looks := false }, kinds := [], alts := [], laidByText := true, laidKinds := [.data], laidTests := true, laidLooks := .later }
def RvwmoModelsUptoCardSaid : Prop := Claim7.holds Tryz.pinned (.plain (OpenSpec.upto rvwmoModelsSpec)) rvwmoModelsUptoCard
end Rows
end Go.Proofs.YtgidhhpjabdnkaaGreatDoor
