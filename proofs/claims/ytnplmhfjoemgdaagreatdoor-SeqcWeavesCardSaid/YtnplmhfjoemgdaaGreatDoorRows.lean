/-
  NARROWER THAN 'FOR EVERY INPUT', by the rows' own cells (each row's printed sentence says how): TsoPpo: laid · TsoExplains: laid · TsoWithin: laid · TsoFenced: laid · SeqcExplains: laid · SeqcWeaves: laid · SeqcCoherent: laid · TsoWhy: laid.
  DERIVED. THE GIVEN ROWS OF THIS SEAT. 8 by the template 'for every input the law returns true; each argument reads behind the call as it read before'; 0 by the template 'total and deterministic' (their statements: YtnplmhfjoemgdaaGreatDoorTotals.lean).
  GIVEN WITH THE SEED: the statements are not yours to turn. If you find one false, say at which input.
  Laid BY PROGRAM, IN A SANDBOX (cutbox-rows.mjs): the forced cells as the released guide's own fill.sh prints them over the translation 700b477bc300df5e… (all of the seat's roots in one cut). By AI agents, Wed Nov 11 2026. No macro, syntax, notation, axiom, sorry.
-/
import Derived.Test.YtnplmhfjoemgdaaGreatDoorChecked
import GoSem.Claim
import GoSem.ClaimJoined
import GoSem.ClaimMapViews
import Derived.JoinedTies
import Derived.KernelRfl
namespace Go.Proofs.YtnplmhfjoemgdaaGreatDoor
/- THE CELL 'sum', in the pinned program and in every row, IS THE sha256 OF THE DUMP (.gsa) THAT YtnplmhfjoemgdaaGreatDoorProg.lean LOADS. Nothing in Lean hashes anything: it is a label: what it is worth is what the hold of that sum in a sandbox is worth. -/
noncomputable def Tryz.pinned : Pinned := { name := "ytnplmhfjoemgdaagreatdoor", sum := "700b477bc300df5ed482f5304ddf8494b2f00d6f7058a0d5ff0587ea1ef3710c", checked := Tryz.checked }
namespace Rows
def none {H : Type} : Left H := { results := [], args := [] }

/- WHAT THE LISTED PACKAGE-LEVEL VARIABLES READ AS WHEN THE CALL BEGINS. Each datum BY PROGRAM (the guide's laid-datum.mjs) off the statement by which the dump's own 'gosem.cut.vars' lays the variable. In a bare row this is a premise. The card (YtnplmhfjoemgdaaGreatDoorCards.lean) ties it to the program's text. -/
def laid_math_bits_deBruijn64tab {H : Type} : DataW H := .agg [.lit (.int .u8 0), .lit (.int .u8 1), .lit (.int .u8 56), .lit (.int .u8 2), .lit (.int .u8 57), .lit (.int .u8 49), .lit (.int .u8 28), .lit (.int .u8 3), .lit (.int .u8 61), .lit (.int .u8 58), .lit (.int .u8 42), .lit (.int .u8 50), .lit (.int .u8 38), .lit (.int .u8 29), .lit (.int .u8 17), .lit (.int .u8 4), .lit (.int .u8 62), .lit (.int .u8 47), .lit (.int .u8 59), .lit (.int .u8 36), .lit (.int .u8 45), .lit (.int .u8 43), .lit (.int .u8 51), .lit (.int .u8 22), .lit (.int .u8 53), .lit (.int .u8 39), .lit (.int .u8 33), .lit (.int .u8 30), .lit (.int .u8 24), .lit (.int .u8 18), .lit (.int .u8 12), .lit (.int .u8 5), .lit (.int .u8 63), .lit (.int .u8 55), .lit (.int .u8 48), .lit (.int .u8 27), .lit (.int .u8 60), .lit (.int .u8 41), .lit (.int .u8 37), .lit (.int .u8 16), .lit (.int .u8 46), .lit (.int .u8 35), .lit (.int .u8 44), .lit (.int .u8 21), .lit (.int .u8 52), .lit (.int .u8 32), .lit (.int .u8 23), .lit (.int .u8 11), .lit (.int .u8 54), .lit (.int .u8 26), .lit (.int .u8 40), .lit (.int .u8 15), .lit (.int .u8 34), .lit (.int .u8 20), .lit (.int .u8 31), .lit (.int .u8 10), .lit (.int .u8 25), .lit (.int .u8 14), .lit (.int .u8 19), .lit (.int .u8 9), .lit (.int .u8 13), .lit (.int .u8 8), .lit (.int .u8 7), .lit (.int .u8 6)]

/-- 'alembiclaw19.TsoPpo': WHATEVER THE INPUT: true; the input reads as it did. -/
def tsoPpoSpec : ChangeSpec := { name := "tsoPpo", fn := fun _ => fun
  | [d] => { results := [.lit (.bool true)], args := [d] }
  | _ => none }
def tsoPpoRow : OpenClaim := { program := "ytnplmhfjoemgdaagreatdoor", sum := "700b477bc300df5ed482f5304ddf8494b2f00d6f7058a0d5ff0587ea1ef3710c", func := "alembic/alembiclaw19.TsoPpo", spec := "tsoPpo", unfollowed := true, recurses := true, named := ["math/bits.deBruijn64tab"], apart := false, laid := [("math/bits.deBruijn64tab", laid_math_bits_deBruijn64tab)] }
def TsoPpoSaid : Prop := tsoPpoRow.holds Tryz.pinned (OpenSpec.ofChange tsoPpoSpec)

/-- ITS FALSE NEIGHBOUR: 'it returns false'. Refute it at one input. -/
def tsoPpoWrong : ChangeSpec := { name := "tsoPpo", fn := fun _ => fun
  | [d] => { results := [.lit (.bool false)], args := [d] }
  | _ => none }
def TsoPpoWrongFalsely : Prop := tsoPpoRow.holds Tryz.pinned (OpenSpec.ofChange tsoPpoWrong)

/-- 'alembiclaw19.TsoExplains': WHATEVER THE INPUT: true; the input reads as it did. -/
def tsoExplainsSpec : ChangeSpec := { name := "tsoExplains", fn := fun _ => fun
  | [d1, d2] => { results := [.lit (.bool true)], args := [d1, d2] }
  | _ => none }
def tsoExplainsRow : OpenClaim := { program := "ytnplmhfjoemgdaagreatdoor", sum := "700b477bc300df5ed482f5304ddf8494b2f00d6f7058a0d5ff0587ea1ef3710c", func := "alembic/alembiclaw19.TsoExplains", spec := "tsoExplains", unfollowed := true, recurses := true, named := ["math/bits.deBruijn64tab"], apart := false, laid := [("math/bits.deBruijn64tab", laid_math_bits_deBruijn64tab)] }
def TsoExplainsSaid : Prop := tsoExplainsRow.holds Tryz.pinned (OpenSpec.ofChange tsoExplainsSpec)

/-- ITS FALSE NEIGHBOUR: 'it returns false'. Refute it at one input. -/
def tsoExplainsWrong : ChangeSpec := { name := "tsoExplains", fn := fun _ => fun
  | [d1, d2] => { results := [.lit (.bool false)], args := [d1, d2] }
  | _ => none }
def TsoExplainsWrongFalsely : Prop := tsoExplainsRow.holds Tryz.pinned (OpenSpec.ofChange tsoExplainsWrong)

/-- 'alembiclaw19.TsoWithin': WHATEVER THE INPUT: true; the input reads as it did. -/
def tsoWithinSpec : ChangeSpec := { name := "tsoWithin", fn := fun _ => fun
  | [d1, d2] => { results := [.lit (.bool true)], args := [d1, d2] }
  | _ => none }
def tsoWithinRow : OpenClaim := { program := "ytnplmhfjoemgdaagreatdoor", sum := "700b477bc300df5ed482f5304ddf8494b2f00d6f7058a0d5ff0587ea1ef3710c", func := "alembic/alembiclaw19.TsoWithin", spec := "tsoWithin", unfollowed := true, recurses := true, named := ["math/bits.deBruijn64tab"], apart := false, laid := [("math/bits.deBruijn64tab", laid_math_bits_deBruijn64tab)] }
def TsoWithinSaid : Prop := tsoWithinRow.holds Tryz.pinned (OpenSpec.ofChange tsoWithinSpec)

/-- ITS FALSE NEIGHBOUR: 'it returns false'. Refute it at one input. -/
def tsoWithinWrong : ChangeSpec := { name := "tsoWithin", fn := fun _ => fun
  | [d1, d2] => { results := [.lit (.bool false)], args := [d1, d2] }
  | _ => none }
def TsoWithinWrongFalsely : Prop := tsoWithinRow.holds Tryz.pinned (OpenSpec.ofChange tsoWithinWrong)

/-- 'alembiclaw19.TsoFenced': WHATEVER THE INPUT: true; the input reads as it did. -/
def tsoFencedSpec : ChangeSpec := { name := "tsoFenced", fn := fun _ => fun
  | [d1, d2] => { results := [.lit (.bool true)], args := [d1, d2] }
  | _ => none }
def tsoFencedRow : OpenClaim := { program := "ytnplmhfjoemgdaagreatdoor", sum := "700b477bc300df5ed482f5304ddf8494b2f00d6f7058a0d5ff0587ea1ef3710c", func := "alembic/alembiclaw19.TsoFenced", spec := "tsoFenced", unfollowed := true, recurses := true, named := ["math/bits.deBruijn64tab"], apart := false, laid := [("math/bits.deBruijn64tab", laid_math_bits_deBruijn64tab)] }
def TsoFencedSaid : Prop := tsoFencedRow.holds Tryz.pinned (OpenSpec.ofChange tsoFencedSpec)

/-- ITS FALSE NEIGHBOUR: 'it returns false'. Refute it at one input. -/
def tsoFencedWrong : ChangeSpec := { name := "tsoFenced", fn := fun _ => fun
  | [d1, d2] => { results := [.lit (.bool false)], args := [d1, d2] }
  | _ => none }
def TsoFencedWrongFalsely : Prop := tsoFencedRow.holds Tryz.pinned (OpenSpec.ofChange tsoFencedWrong)

/-- 'alembiclaw18.SeqcExplains': WHATEVER THE INPUT: true; the input reads as it did. -/
def seqcExplainsSpec : ChangeSpec := { name := "seqcExplains", fn := fun _ => fun
  | [d1, d2] => { results := [.lit (.bool true)], args := [d1, d2] }
  | _ => none }
def seqcExplainsRow : OpenClaim := { program := "ytnplmhfjoemgdaagreatdoor", sum := "700b477bc300df5ed482f5304ddf8494b2f00d6f7058a0d5ff0587ea1ef3710c", func := "alembic/alembiclaw18.SeqcExplains", spec := "seqcExplains", unfollowed := true, recurses := true, named := ["math/bits.deBruijn64tab"], apart := false, laid := [("math/bits.deBruijn64tab", laid_math_bits_deBruijn64tab)] }
def SeqcExplainsSaid : Prop := seqcExplainsRow.holds Tryz.pinned (OpenSpec.ofChange seqcExplainsSpec)

/-- ITS FALSE NEIGHBOUR: 'it returns false'. Refute it at one input. -/
def seqcExplainsWrong : ChangeSpec := { name := "seqcExplains", fn := fun _ => fun
  | [d1, d2] => { results := [.lit (.bool false)], args := [d1, d2] }
  | _ => none }
def SeqcExplainsWrongFalsely : Prop := seqcExplainsRow.holds Tryz.pinned (OpenSpec.ofChange seqcExplainsWrong)

/-- 'alembiclaw18.SeqcWeaves': WHATEVER THE INPUT: true; the input reads as it did. -/
def seqcWeavesSpec : ChangeSpec := { name := "seqcWeaves", fn := fun _ => fun
  | [d1, d2] => { results := [.lit (.bool true)], args := [d1, d2] }
  | _ => none }
def seqcWeavesRow : OpenClaim := { program := "ytnplmhfjoemgdaagreatdoor", sum := "700b477bc300df5ed482f5304ddf8494b2f00d6f7058a0d5ff0587ea1ef3710c", func := "alembic/alembiclaw18.SeqcWeaves", spec := "seqcWeaves", unfollowed := true, recurses := true, named := ["math/bits.deBruijn64tab"], apart := false, laid := [("math/bits.deBruijn64tab", laid_math_bits_deBruijn64tab)] }
def SeqcWeavesSaid : Prop := seqcWeavesRow.holds Tryz.pinned (OpenSpec.ofChange seqcWeavesSpec)

/-- ITS FALSE NEIGHBOUR: 'it returns false'. Refute it at one input. -/
def seqcWeavesWrong : ChangeSpec := { name := "seqcWeaves", fn := fun _ => fun
  | [d1, d2] => { results := [.lit (.bool false)], args := [d1, d2] }
  | _ => none }
def SeqcWeavesWrongFalsely : Prop := seqcWeavesRow.holds Tryz.pinned (OpenSpec.ofChange seqcWeavesWrong)

/-- 'alembiclaw18.SeqcCoherent': WHATEVER THE INPUT: true; the input reads as it did. -/
def seqcCoherentSpec : ChangeSpec := { name := "seqcCoherent", fn := fun _ => fun
  | [d1, d2] => { results := [.lit (.bool true)], args := [d1, d2] }
  | _ => none }
def seqcCoherentRow : OpenClaim := { program := "ytnplmhfjoemgdaagreatdoor", sum := "700b477bc300df5ed482f5304ddf8494b2f00d6f7058a0d5ff0587ea1ef3710c", func := "alembic/alembiclaw18.SeqcCoherent", spec := "seqcCoherent", unfollowed := true, recurses := true, named := ["math/bits.deBruijn64tab"], apart := false, laid := [("math/bits.deBruijn64tab", laid_math_bits_deBruijn64tab)] }
def SeqcCoherentSaid : Prop := seqcCoherentRow.holds Tryz.pinned (OpenSpec.ofChange seqcCoherentSpec)

/-- ITS FALSE NEIGHBOUR: 'it returns false'. Refute it at one input. -/
def seqcCoherentWrong : ChangeSpec := { name := "seqcCoherent", fn := fun _ => fun
  | [d1, d2] => { results := [.lit (.bool false)], args := [d1, d2] }
  | _ => none }
def SeqcCoherentWrongFalsely : Prop := seqcCoherentRow.holds Tryz.pinned (OpenSpec.ofChange seqcCoherentWrong)

/-- 'alembiclaw19.TsoWhy': WHATEVER THE INPUT: true; the input reads as it did. -/
def tsoWhySpec : ChangeSpec := { name := "tsoWhy", fn := fun _ => fun
  | [d1, d2] => { results := [.lit (.bool true)], args := [d1, d2] }
  | _ => none }
def tsoWhyRow : OpenClaim := { program := "ytnplmhfjoemgdaagreatdoor", sum := "700b477bc300df5ed482f5304ddf8494b2f00d6f7058a0d5ff0587ea1ef3710c", func := "alembic/alembiclaw19.TsoWhy", spec := "tsoWhy", unfollowed := true, recurses := true, named := ["math/bits.deBruijn64tab"], apart := false, laid := [("math/bits.deBruijn64tab", laid_math_bits_deBruijn64tab)] }
def TsoWhySaid : Prop := tsoWhyRow.holds Tryz.pinned (OpenSpec.ofChange tsoWhySpec)

/-- ITS FALSE NEIGHBOUR: 'it returns false'. Refute it at one input. -/
def tsoWhyWrong : ChangeSpec := { name := "tsoWhy", fn := fun _ => fun
  | [d1, d2] => { results := [.lit (.bool false)], args := [d1, d2] }
  | _ => none }
def TsoWhyWrongFalsely : Prop := tsoWhyRow.holds Tryz.pinned (OpenSpec.ofChange tsoWhyWrong)

/- THE SECOND FORM. 'bulk': how many values and letters a reading holds, each counted each time it is reached (what is shared counts as often as it is met; a slice's spare places count too). A statement '..UptoSaid' is the law's where the arguments, and the package variables that the reading takes, are together of bulk at most 1048576: NARROWER than '..Said'. Prove '..Said' where nothing that the law and all that it calls make is longer than what came in: it says more and counts as full. Else prove '..UptoSaid'. A law counts once. -/
mutual
def uptoBulk {H : Type} : DataW H → Nat
  | .lit (.string bytes) => bytes.length + 1
  | .lit _ => 1
  | .nil => 1
  | .ptr d => uptoBulk d + 1
  | .slice elems spare => uptoBulkAll elems + uptoBulkAll spare + 1
  | .agg parts => uptoBulkAll parts + 1
  | .iface _ d => uptoBulk d + 1
  | .map entries => uptoBulkEntries entries + 1
  | .held _ => 1
def uptoBulkAll {H : Type} : List (DataW H) → Nat
  | [] => 0
  | d :: r => uptoBulk d + uptoBulkAll r
def uptoBulkEntries {H : Type} : List (Lit × DataW H) → Nat
  | [] => 0
  | x :: r => uptoBulkEntry x + uptoBulkEntries r
def uptoBulkEntry {H : Type} : Lit × DataW H → Nat
  | (.string bytes, d) => bytes.length + uptoBulk d + 1
  | (_, d) => uptoBulk d + 1
 end
def uptoSmall : (H : Type) → List (DataW H) → Bool := fun _ ds => decide (uptoBulkAll ds ≤ 1048576)
def OpenSpec.upto (s : _root_.Go.ChangeSpec) : _root_.Go.OpenSpec := { _root_.Go.OpenSpec.ofChange s with cond := some uptoSmall }

/-- 'alembiclaw19.TsoPpo', WHERE WHAT IT READS IS OF BULK AT MOST 1048576: true; the input reads as it did. -/
def tsoPpoUptoRow : OpenClaim := { program := "ytnplmhfjoemgdaagreatdoor", sum := "700b477bc300df5ed482f5304ddf8494b2f00d6f7058a0d5ff0587ea1ef3710c", func := "alembic/alembiclaw19.TsoPpo", spec := "tsoPpo", unfollowed := true, recurses := true, named := ["math/bits.deBruijn64tab"], apart := false, laid := [("math/bits.deBruijn64tab", laid_math_bits_deBruijn64tab)], narrowed := true }
def TsoPpoUptoSaid : Prop := tsoPpoUptoRow.holds Tryz.pinned (OpenSpec.upto tsoPpoSpec)

/-- 'alembiclaw19.TsoExplains', WHERE WHAT IT READS IS OF BULK AT MOST 1048576: true; the input reads as it did. -/
def tsoExplainsUptoRow : OpenClaim := { program := "ytnplmhfjoemgdaagreatdoor", sum := "700b477bc300df5ed482f5304ddf8494b2f00d6f7058a0d5ff0587ea1ef3710c", func := "alembic/alembiclaw19.TsoExplains", spec := "tsoExplains", unfollowed := true, recurses := true, named := ["math/bits.deBruijn64tab"], apart := false, laid := [("math/bits.deBruijn64tab", laid_math_bits_deBruijn64tab)], narrowed := true }
def TsoExplainsUptoSaid : Prop := tsoExplainsUptoRow.holds Tryz.pinned (OpenSpec.upto tsoExplainsSpec)

/-- 'alembiclaw19.TsoWithin', WHERE WHAT IT READS IS OF BULK AT MOST 1048576: true; the input reads as it did. -/
def tsoWithinUptoRow : OpenClaim := { program := "ytnplmhfjoemgdaagreatdoor", sum := "700b477bc300df5ed482f5304ddf8494b2f00d6f7058a0d5ff0587ea1ef3710c", func := "alembic/alembiclaw19.TsoWithin", spec := "tsoWithin", unfollowed := true, recurses := true, named := ["math/bits.deBruijn64tab"], apart := false, laid := [("math/bits.deBruijn64tab", laid_math_bits_deBruijn64tab)], narrowed := true }
def TsoWithinUptoSaid : Prop := tsoWithinUptoRow.holds Tryz.pinned (OpenSpec.upto tsoWithinSpec)

/-- 'alembiclaw19.TsoFenced', WHERE WHAT IT READS IS OF BULK AT MOST 1048576: true; the input reads as it did. -/
def tsoFencedUptoRow : OpenClaim := { program := "ytnplmhfjoemgdaagreatdoor", sum := "700b477bc300df5ed482f5304ddf8494b2f00d6f7058a0d5ff0587ea1ef3710c", func := "alembic/alembiclaw19.TsoFenced", spec := "tsoFenced", unfollowed := true, recurses := true, named := ["math/bits.deBruijn64tab"], apart := false, laid := [("math/bits.deBruijn64tab", laid_math_bits_deBruijn64tab)], narrowed := true }
def TsoFencedUptoSaid : Prop := tsoFencedUptoRow.holds Tryz.pinned (OpenSpec.upto tsoFencedSpec)

/-- 'alembiclaw18.SeqcExplains', WHERE WHAT IT READS IS OF BULK AT MOST 1048576: true; the input reads as it did. -/
def seqcExplainsUptoRow : OpenClaim := { program := "ytnplmhfjoemgdaagreatdoor", sum := "700b477bc300df5ed482f5304ddf8494b2f00d6f7058a0d5ff0587ea1ef3710c", func := "alembic/alembiclaw18.SeqcExplains", spec := "seqcExplains", unfollowed := true, recurses := true, named := ["math/bits.deBruijn64tab"], apart := false, laid := [("math/bits.deBruijn64tab", laid_math_bits_deBruijn64tab)], narrowed := true }
def SeqcExplainsUptoSaid : Prop := seqcExplainsUptoRow.holds Tryz.pinned (OpenSpec.upto seqcExplainsSpec)

/-- 'alembiclaw18.SeqcWeaves', WHERE WHAT IT READS IS OF BULK AT MOST 1048576: true; the input reads as it did. -/
def seqcWeavesUptoRow : OpenClaim := { program := "ytnplmhfjoemgdaagreatdoor", sum := "700b477bc300df5ed482f5304ddf8494b2f00d6f7058a0d5ff0587ea1ef3710c", func := "alembic/alembiclaw18.SeqcWeaves", spec := "seqcWeaves", unfollowed := true, recurses := true, named := ["math/bits.deBruijn64tab"], apart := false, laid := [("math/bits.deBruijn64tab", laid_math_bits_deBruijn64tab)], narrowed := true }
def SeqcWeavesUptoSaid : Prop := seqcWeavesUptoRow.holds Tryz.pinned (OpenSpec.upto seqcWeavesSpec)

/-- 'alembiclaw18.SeqcCoherent', WHERE WHAT IT READS IS OF BULK AT MOST 1048576: true; the input reads as it did. -/
def seqcCoherentUptoRow : OpenClaim := { program := "ytnplmhfjoemgdaagreatdoor", sum := "700b477bc300df5ed482f5304ddf8494b2f00d6f7058a0d5ff0587ea1ef3710c", func := "alembic/alembiclaw18.SeqcCoherent", spec := "seqcCoherent", unfollowed := true, recurses := true, named := ["math/bits.deBruijn64tab"], apart := false, laid := [("math/bits.deBruijn64tab", laid_math_bits_deBruijn64tab)], narrowed := true }
def SeqcCoherentUptoSaid : Prop := seqcCoherentUptoRow.holds Tryz.pinned (OpenSpec.upto seqcCoherentSpec)

/-- 'alembiclaw19.TsoWhy', WHERE WHAT IT READS IS OF BULK AT MOST 1048576: true; the input reads as it did. -/
def tsoWhyUptoRow : OpenClaim := { program := "ytnplmhfjoemgdaagreatdoor", sum := "700b477bc300df5ed482f5304ddf8494b2f00d6f7058a0d5ff0587ea1ef3710c", func := "alembic/alembiclaw19.TsoWhy", spec := "tsoWhy", unfollowed := true, recurses := true, named := ["math/bits.deBruijn64tab"], apart := false, laid := [("math/bits.deBruijn64tab", laid_math_bits_deBruijn64tab)], narrowed := true }
def TsoWhyUptoSaid : Prop := tsoWhyUptoRow.holds Tryz.pinned (OpenSpec.upto tsoWhySpec)

end Rows
end Go.Proofs.YtnplmhfjoemgdaaGreatDoor
