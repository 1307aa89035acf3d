/-
  No cell of these rows narrows 'for every input' (looked for: loops, veiled, ifaces, maps, wideKeys, modest, calm, conditions, laid).
  DERIVED. THE GIVEN ROWS OF THIS SEAT. 3 by the template 'for every input the law returns true; each argument reads behind the call as it read before'; 0 by the template 'total and deterministic' (their statements: YtdpcdbepeemflaaTotals.lean).
  GIVEN WITH THE SEED: the statements are not yours to turn. If you find one false, say at which input.
  Laid BY PROGRAM, IN A SANDBOX (cutbox-rows.mjs): the forced cells as the released guide's own fill.sh prints them over the translation adaeaec801f04ae7… (all of the seat's roots in one cut). By AI agents, Wed Nov 11 2026. No macro, syntax, notation, axiom, sorry.
-/
import Derived.Test.YtdpcdbepeemflaaChecked
import GoSem.Claim
import GoSem.ClaimJoined
import GoSem.ClaimMapViews
import Derived.JoinedTies
import Derived.KernelRfl
namespace Go.Proofs.Ytdpcdbepeemflaa
/- THE CELL 'sum', in the pinned program and in every row, IS THE sha256 OF THE DUMP (.gsa) THAT YtdpcdbepeemflaaProg.lean LOADS. Nothing in Lean hashes anything: it is a label: what it is worth is what the hold of that sum in a sandbox is worth. -/
noncomputable def Try.pinned : Pinned := { name := "ytdpcdbepeemflaa", sum := "adaeaec801f04ae76fc623774887699f41c61cb69bfea42bf028932f9a34d19b", checked := Try.checked }
namespace Rows
def none {H : Type} : Left H := { results := [], args := [] }

/-- 'alembiclaw16.CandAts': WHATEVER THE INPUT: true; the input reads as it did. -/
def candAtsSpec : ChangeSpec := { name := "candAts", fn := fun _ => fun
  | [d1, d2] => { results := [.lit (.bool true)], args := [d1, d2] }
  | _ => none }
def candAtsRow : OpenClaim := { program := "ytdpcdbepeemflaa", sum := "adaeaec801f04ae76fc623774887699f41c61cb69bfea42bf028932f9a34d19b", func := "alembic/alembiclaw16.CandAts", spec := "candAts", unfollowed := true, recurses := true, apart := false }
def CandAtsSaid : Prop := candAtsRow.holds Try.pinned (OpenSpec.ofChange candAtsSpec)

/-- ITS FALSE NEIGHBOUR: 'it returns false'. Refute it at one input. -/
def candAtsWrong : ChangeSpec := { name := "candAts", fn := fun _ => fun
  | [d1, d2] => { results := [.lit (.bool false)], args := [d1, d2] }
  | _ => none }
def CandAtsWrongFalsely : Prop := candAtsRow.holds Try.pinned (OpenSpec.ofChange candAtsWrong)

/-- 'alembiclaw16.CandReads': WHATEVER THE INPUT: true; the input reads as it did. -/
def candReadsSpec : ChangeSpec := { name := "candReads", fn := fun _ => fun
  | [d1, d2, d3, d4] => { results := [.lit (.bool true)], args := [d1, d2, d3, d4] }
  | _ => none }
def candReadsRow : OpenClaim := { program := "ytdpcdbepeemflaa", sum := "adaeaec801f04ae76fc623774887699f41c61cb69bfea42bf028932f9a34d19b", func := "alembic/alembiclaw16.CandReads", spec := "candReads", unfollowed := true, recurses := true, apart := false }
def CandReadsSaid : Prop := candReadsRow.holds Try.pinned (OpenSpec.ofChange candReadsSpec)

/-- ITS FALSE NEIGHBOUR: 'it returns false'. Refute it at one input. -/
def candReadsWrong : ChangeSpec := { name := "candReads", fn := fun _ => fun
  | [d1, d2, d3, d4] => { results := [.lit (.bool false)], args := [d1, d2, d3, d4] }
  | _ => none }
def CandReadsWrongFalsely : Prop := candReadsRow.holds Try.pinned (OpenSpec.ofChange candReadsWrong)

/-- 'alembiclaw16.CandRows': WHATEVER THE INPUT: true; the input reads as it did. -/
def candRowsSpec : ChangeSpec := { name := "candRows", fn := fun _ => fun
  | [d] => { results := [.lit (.bool true)], args := [d] }
  | _ => none }
def candRowsRow : OpenClaim := { program := "ytdpcdbepeemflaa", sum := "adaeaec801f04ae76fc623774887699f41c61cb69bfea42bf028932f9a34d19b", func := "alembic/alembiclaw16.CandRows", spec := "candRows", unfollowed := true, recurses := true, apart := false }
def CandRowsSaid : Prop := candRowsRow.holds Try.pinned (OpenSpec.ofChange candRowsSpec)

/-- ITS FALSE NEIGHBOUR: 'it returns false'. Refute it at one input. -/
def candRowsWrong : ChangeSpec := { name := "candRows", fn := fun _ => fun
  | [d] => { results := [.lit (.bool false)], args := [d] }
  | _ => none }
def CandRowsWrongFalsely : Prop := candRowsRow.holds Try.pinned (OpenSpec.ofChange candRowsWrong)

/- THE SECOND FORM. 'bulk': how many values and letters a reading holds, each counted each time it is reached (what is shared counts as often as it is met; a slice's spare places count too). A statement '..UptoSaid' is the law's where the arguments, and the package variables that the reading takes, are together of bulk at most 1048576: NARROWER than '..Said'. Prove '..Said' where nothing that the law and all that it calls make is longer than what came in: it says more and counts as full. Else prove '..UptoSaid'. A law counts once. -/
mutual
def uptoBulk {H : Type} : DataW H → Nat
  | .lit (.string bytes) => bytes.length + 1
  | .lit _ => 1
  | .nil => 1
  | .ptr d => uptoBulk d + 1
  | .slice elems spare => uptoBulkAll elems + uptoBulkAll spare + 1
  | .agg parts => uptoBulkAll parts + 1
  | .iface _ d => uptoBulk d + 1
  | .map entries => uptoBulkEntries entries + 1
  | .held _ => 1
def uptoBulkAll {H : Type} : List (DataW H) → Nat
  | [] => 0
  | d :: r => uptoBulk d + uptoBulkAll r
def uptoBulkEntries {H : Type} : List (Lit × DataW H) → Nat
  | [] => 0
  | x :: r => uptoBulkEntry x + uptoBulkEntries r
def uptoBulkEntry {H : Type} : Lit × DataW H → Nat
  | (.string bytes, d) => bytes.length + uptoBulk d + 1
  | (_, d) => uptoBulk d + 1
 end
def uptoSmall : (H : Type) → List (DataW H) → Bool := fun _ ds => decide (uptoBulkAll ds ≤ 1048576)
def OpenSpec.upto (s : _root_.Go.ChangeSpec) : _root_.Go.OpenSpec := { _root_.Go.OpenSpec.ofChange s with cond := some uptoSmall }

/-- 'alembiclaw16.CandAts', WHERE WHAT IT READS IS OF BULK AT MOST 1048576: true; the input reads as it did. -/
def candAtsUptoRow : OpenClaim := { program := "ytdpcdbepeemflaa", sum := "adaeaec801f04ae76fc623774887699f41c61cb69bfea42bf028932f9a34d19b", func := "alembic/alembiclaw16.CandAts", spec := "candAts", unfollowed := true, recurses := true, apart := false, narrowed := true }
def CandAtsUptoSaid : Prop := candAtsUptoRow.holds Try.pinned (OpenSpec.upto candAtsSpec)

/-- 'alembiclaw16.CandReads', WHERE WHAT IT READS IS OF BULK AT MOST 1048576: true; the input reads as it did. -/
def candReadsUptoRow : OpenClaim := { program := "ytdpcdbepeemflaa", sum := "adaeaec801f04ae76fc623774887699f41c61cb69bfea42bf028932f9a34d19b", func := "alembic/alembiclaw16.CandReads", spec := "candReads", unfollowed := true, recurses := true, apart := false, narrowed := true }
def CandReadsUptoSaid : Prop := candReadsUptoRow.holds Try.pinned (OpenSpec.upto candReadsSpec)

/-- 'alembiclaw16.CandRows', WHERE WHAT IT READS IS OF BULK AT MOST 1048576: true; the input reads as it did. -/
def candRowsUptoRow : OpenClaim := { program := "ytdpcdbepeemflaa", sum := "adaeaec801f04ae76fc623774887699f41c61cb69bfea42bf028932f9a34d19b", func := "alembic/alembiclaw16.CandRows", spec := "candRows", unfollowed := true, recurses := true, apart := false, narrowed := true }
def CandRowsUptoSaid : Prop := candRowsUptoRow.holds Try.pinned (OpenSpec.upto candRowsSpec)

end Rows
end Go.Proofs.Ytdpcdbepeemflaa
