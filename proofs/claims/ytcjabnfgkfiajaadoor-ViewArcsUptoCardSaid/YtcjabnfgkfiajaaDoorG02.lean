import Derived.Test.YtcjabnfgkfiajaaDoorG01
import Derived.Test.YtcjabnfgkfiajaaDoorProg
import Derived.KernelRfl
set_option linter.unusedSimpArgs false
set_option linter.unusedVariables false
section
/- What the elements of slices are in Lean: codes into cells, and back. -/
namespace Go.Eng
open Go

def toI : Value → Int | .int _ n => n | _ => 0
def toB : Value → Bool | .bool b => b | _ => false
def toT : Value → ByteArray | .string s => s | _ => ByteArray.empty

def encI (n : Int) : List Value := [.int .i64 n]
def decI : List Value → Int | [v] => toI v | _ => 0
def encW (x : BitVec 64) : List Value := [u64 x]
def toW (v : Value) : BitVec 64 := BitVec.ofInt 64 (toI v)
def decW : List Value → BitVec 64 | [v] => toW v | _ => 0
def encB (b : Bool) : List Value := [.bool b]
def decB : List Value → Bool | [v] => toB v | _ => false
def encT (s : ByteArray) : List Value := [.string s]
def decT : List Value → ByteArray | [v] => toT v | _ => ByteArray.empty
def encV (v : Value) : List Value := [v]
def decV : List Value → Value | [v] => v | _ => .nilIface

def encU8 (n : Nat) : List Value := [.int .u8 (n : Int)]
def decU8 : List Value → Nat | [v] => (toI v).toNat | _ => 0

structure Pair where
  A : Int
  B : Int
  deriving DecidableEq, Inhabited
def encPair (p : Pair) : List Value := [.int .i64 p.A, .int .i64 p.B]
def decPair : List Value → Pair | [a, b] => ⟨toI a, toI b⟩ | _ => ⟨0, 0⟩

instance : Enc encI 1 := ⟨fun _ => rfl, by decide⟩
instance : Enc encW 1 := ⟨fun _ => rfl, by decide⟩
instance : Enc encB 1 := ⟨fun _ => rfl, by decide⟩
instance : Enc encT 1 := ⟨fun _ => rfl, by decide⟩
instance : Enc encV 1 := ⟨fun _ => rfl, by decide⟩
instance : Enc encU8 1 := ⟨fun _ => rfl, by decide⟩
instance : Enc encPair 2 := ⟨fun _ => rfl, by decide⟩
instance : EncOne encI (fun _ => True) := ⟨fun _ _ u hu => by simp [encI] at hu; subst hu; rfl⟩
instance : EncOne encW (fun _ => True) := ⟨fun _ _ u hu => by simp [encW] at hu; subst hu; rfl⟩
instance : EncOne encB (fun _ => True) := ⟨fun _ _ u hu => by simp [encB] at hu; subst hu; rfl⟩
instance : EncOne encT (fun _ => True) := ⟨fun _ _ u hu => by simp [encT] at hu; subst hu; rfl⟩
instance : EncOne encV (fun v => v.oneCell' = true) := ⟨fun _ h u hu => by simp [encV] at hu; subst hu; exact h⟩
instance : EncOne encPair (fun _ => True) := ⟨fun _ _ u hu => by simp [encPair] at hu; rcases hu with rfl | rfl <;> rfl⟩

structure Ev where
  thread : Int
  place : Int
  dir : Int
  loc : Int
  value : Int
  reg : Int
  deriving DecidableEq, Inhabited
def encEv (e : Ev) : List Value := [.int .i64 e.thread, .int .i64 e.place, .int .i64 e.dir, .int .i64 e.loc, .int .i64 e.value, .int .i64 e.reg]
def decEv : List Value → Ev | [a, b, c, d, e, f] => ⟨toI a, toI b, toI c, toI d, toI e, toI f⟩ | _ => ⟨0, 0, 0, 0, 0, 0⟩
structure Bar where
  thread : Int
  place : Int
  fence : Int
  deriving DecidableEq, Inhabited
def encBar (e : Bar) : List Value := [.int .i64 e.thread, .int .i64 e.place, .int .i64 e.fence]
def decBar : List Value → Bar | [a, b, c] => ⟨toI a, toI b, toI c⟩ | _ => ⟨0, 0, 0⟩
structure Thing where
  thread : Int
  reg : Int
  loc : ByteArray
  deriving DecidableEq, Inhabited
def encThing (e : Thing) : List Value := [.int .i64 e.thread, .int .i64 e.reg, .string e.loc]
def decThing : List Value → Thing | [a, b, c] => ⟨toI a, toI b, toT c⟩ | _ => ⟨0, 0, ByteArray.empty⟩
structure EndT where
  kind : Int
  n : Int
  deriving DecidableEq, Inhabited
def encEnd (e : EndT) : List Value := [.int .i64 e.kind, .int .i64 e.n]
def decEnd : List Value → EndT | [a, b] => ⟨toI a, toI b⟩ | _ => ⟨0, 0⟩
structure Arc where
  src : Int
  dst : Int
  kind : Int
  deriving DecidableEq, Inhabited
def encArc (e : Arc) : List Value := [.int .i64 e.src, .int .i64 e.dst, .int .i64 e.kind]
def decArc : List Value → Arc | [a, b, c] => ⟨toI a, toI b, toI c⟩ | _ => ⟨0, 0, 0⟩

instance : Enc encEv 6 := ⟨fun _ => rfl, by decide⟩
instance : Enc encBar 3 := ⟨fun _ => rfl, by decide⟩
instance : Enc encThing 3 := ⟨fun _ => rfl, by decide⟩
instance : Enc encEnd 2 := ⟨fun _ => rfl, by decide⟩
instance : Enc encArc 3 := ⟨fun _ => rfl, by decide⟩
instance : EncOne encEv (fun _ => True) := ⟨fun _ _ u hu => by simp [encEv] at hu; rcases hu with rfl | rfl | rfl | rfl | rfl | rfl <;> rfl⟩
instance : EncOne encBar (fun _ => True) := ⟨fun _ _ u hu => by simp [encBar] at hu; rcases hu with rfl | rfl | rfl <;> rfl⟩
instance : EncOne encThing (fun _ => True) := ⟨fun _ _ u hu => by simp [encThing] at hu; rcases hu with rfl | rfl | rfl <;> rfl⟩
instance : EncOne encEnd (fun _ => True) := ⟨fun _ _ u hu => by simp [encEnd] at hu; rcases hu with rfl | rfl <;> rfl⟩
instance : EncOne encArc (fun _ => True) := ⟨fun _ _ u hu => by simp [encArc] at hu; rcases hu with rfl | rfl | rfl <;> rfl⟩

theorem toW_u64 (x : BitVec 64) : toW (u64 x) = x := by simp [toW, toI, u64]

end Go.Eng
end

section
/- The facts on the seat's types and functions that the engine asks for: printed by wip/mkty.py. -/
namespace Go.Proofs.YtcjabnfgkfiajaaDoor
open Go Go.Eng

instance : T1 Tryd.prog 1 := .of Tryd.underlying1 rfl
instance : TE Tryd.prog 1 1 8 (.nilFunc) := .of (by kernel_rfl)
instance : TU Tryd.prog 2 (.int .i64) := ⟨Tryd.underlying2⟩
instance : T1 Tryd.prog 2 := .of Tryd.underlying2 rfl
instance : TE Tryd.prog 2 1 8 (.int .i64 0) := .of (by kernel_rfl)
instance : EncOf Tryd.prog 2 encI decI := ⟨trivial⟩
instance : TU Tryd.prog 3 (.int .i64) := ⟨Tryd.underlying3⟩
instance : T1 Tryd.prog 3 := .of Tryd.underlying3 rfl
instance : TE Tryd.prog 3 1 8 (.int .i64 0) := .of (by kernel_rfl)
instance : EncOf Tryd.prog 3 encI decI := ⟨trivial⟩
instance : TU Tryd.prog 4 (.bool) := ⟨Tryd.underlying4⟩
instance : T1 Tryd.prog 4 := .of Tryd.underlying4 rfl
instance : TE Tryd.prog 4 1 1 (.bool false) := .of (by kernel_rfl)
instance : EncOf Tryd.prog 4 encB decB := ⟨trivial⟩
instance : TU Tryd.prog 5 (.int .u8) := ⟨Tryd.underlying5⟩
instance : T1 Tryd.prog 5 := .of Tryd.underlying5 rfl
instance : TE Tryd.prog 5 1 1 (.int .u8 0) := .of (by kernel_rfl)
instance : EncOf Tryd.prog 5 encU8 decU8 := ⟨trivial⟩
instance : TN Tryd.prog 7 4 := .of Tryd.underlying7 rfl (by kernel_rfl)
instance : TE Tryd.prog 7 4 24 (.agg #[.int .i64 0, .int .i64 0, .bool false, .int .u8 0]) := .of (by kernel_rfl)
instance : TF Tryd.prog 7 0 0 := .of (n := 0) Tryd.underlying7 rfl rfl (by kernel_rfl)
instance : TF Tryd.prog 7 1 1 := .of (n := 0) Tryd.underlying7 rfl rfl (by kernel_rfl)
instance : TF Tryd.prog 7 2 2 := .of (n := 0) Tryd.underlying7 rfl rfl (by kernel_rfl)
instance : TF Tryd.prog 7 3 3 := .of (n := 0) Tryd.underlying7 rfl rfl (by kernel_rfl)
instance : TP Tryd.prog 7 (.agg #[.int .i64 0, .int .i64 0, .bool false, .int .u8 0]) [(0, 1), (1, 1), (2, 1), (3, 1)] := .of Tryd.underlying7 (by kernel_rfl) (by kernel_rfl)
instance : TU Tryd.prog 9 (.string) := ⟨Tryd.underlying9⟩
instance : T1 Tryd.prog 9 := .of Tryd.underlying9 rfl
instance : TE Tryd.prog 9 1 16 (.string ByteArray.empty) := .of (by kernel_rfl)
instance : EncOf Tryd.prog 9 encT decT := ⟨trivial⟩
instance : TU Tryd.prog 12 (.int .u64) := ⟨Tryd.underlying12⟩
instance : T1 Tryd.prog 12 := .of Tryd.underlying12 rfl
instance : TE Tryd.prog 12 1 8 (.int .u64 0) := .of (by kernel_rfl)
instance : EncOf Tryd.prog 12 encW decW := ⟨trivial⟩
instance : TN Tryd.prog 13 2 := .of Tryd.underlying13 rfl (by kernel_rfl)
instance : TE Tryd.prog 13 2 24 (.agg #[.string ByteArray.empty, .int .u64 0]) := .of (by kernel_rfl)
instance : TF Tryd.prog 13 0 0 := .of (n := 0) Tryd.underlying13 rfl rfl (by kernel_rfl)
instance : TF Tryd.prog 13 1 1 := .of (n := 0) Tryd.underlying13 rfl rfl (by kernel_rfl)
instance : TP Tryd.prog 13 (.agg #[.string ByteArray.empty, .int .u64 0]) [(0, 1), (1, 1)] := .of Tryd.underlying13 (by kernel_rfl) (by kernel_rfl)
instance : T1 Tryd.prog 17 := .of Tryd.underlying17 rfl
instance : TE Tryd.prog 17 1 8 (.pointer none) := .of (by kernel_rfl)
instance : EncOf Tryd.prog 17 encV decV := ⟨trivial⟩
instance : TN Tryd.prog 18 1 := .of Tryd.underlying18 rfl (by kernel_rfl)
instance : TE Tryd.prog 18 1 8 (.agg #[.pointer none]) := .of (by kernel_rfl)
instance : TF Tryd.prog 18 0 0 := .of (n := 0) Tryd.underlying18 rfl rfl (by kernel_rfl)
instance : TP Tryd.prog 18 (.agg #[.pointer none]) [(0, 1)] := .of Tryd.underlying18 (by kernel_rfl) (by kernel_rfl)
instance : T1 Tryd.prog 20 := .of Tryd.underlying20 rfl
instance : TE Tryd.prog 20 1 16 (.nilIface) := .of (by kernel_rfl)
instance : EncOf Tryd.prog 20 encV decV := ⟨trivial⟩
instance : TU Tryd.prog 21 (.int .i32) := ⟨Tryd.underlying21⟩
instance : T1 Tryd.prog 21 := .of Tryd.underlying21 rfl
instance : TE Tryd.prog 21 1 4 (.int .i32 0) := .of (by kernel_rfl)
instance : TU Tryd.prog 22 (.slice 77) := ⟨Tryd.underlying22⟩
instance : T1 Tryd.prog 22 := .of Tryd.underlying22 rfl
instance : TE Tryd.prog 22 1 24 (.slice none 0 0) := .of (by kernel_rfl)
instance : TSl Tryd.prog 22 77 := ⟨Tryd.underlying22⟩
instance : EncOf Tryd.prog 22 encV decV := ⟨trivial⟩
instance : TN Tryd.prog 23 2 := .of Tryd.underlying23 rfl (by kernel_rfl)
instance : TE Tryd.prog 23 2 32 (.agg #[.int .i64 0, .slice none 0 0]) := .of (by kernel_rfl)
instance : TF Tryd.prog 23 0 0 := .of (n := 0) Tryd.underlying23 rfl rfl (by kernel_rfl)
instance : TF Tryd.prog 23 1 1 := .of (n := 0) Tryd.underlying23 rfl rfl (by kernel_rfl)
instance : TP Tryd.prog 23 (.agg #[.int .i64 0, .slice none 0 0]) [(0, 1), (1, 1)] := .of Tryd.underlying23 (by kernel_rfl) (by kernel_rfl)
instance : TN Tryd.prog 24 2 := .of Tryd.underlying24 rfl (by kernel_rfl)
instance : TE Tryd.prog 24 2 32 (.agg #[.int .i64 0, .slice none 0 0]) := .of (by kernel_rfl)
instance : TF Tryd.prog 24 0 0 := .of (n := 0) Tryd.underlying24 rfl rfl (by kernel_rfl)
instance : TF Tryd.prog 24 1 1 := .of (n := 0) Tryd.underlying24 rfl rfl (by kernel_rfl)
instance : TP Tryd.prog 24 (.agg #[.int .i64 0, .slice none 0 0]) [(0, 1), (1, 1)] := .of Tryd.underlying24 (by kernel_rfl) (by kernel_rfl)
instance : TN Tryd.prog 25 18 := .of Tryd.underlying25 rfl (by kernel_rfl)
instance : TE Tryd.prog 25 18 288 (.agg #[.int .i64 0, .slice none 0 0, .int .i64 0, .slice none 0 0, .int .i64 0, .slice none 0 0, .int .i64 0, .slice none 0 0, .int .i64 0, .slice none 0 0, .int .i64 0, .slice none 0 0, .int .i64 0, .slice none 0 0, .int .i64 0, .slice none 0 0, .int .i64 0, .slice none 0 0]) := .of (by kernel_rfl)
instance : TF Tryd.prog 25 0 0 := .of (n := 1) Tryd.underlying25 rfl rfl (by kernel_rfl)
instance : TF Tryd.prog 25 1 2 := .of (n := 1) Tryd.underlying25 rfl rfl (by kernel_rfl)
instance : TF Tryd.prog 25 2 4 := .of (n := 1) Tryd.underlying25 rfl rfl (by kernel_rfl)
instance : TF Tryd.prog 25 3 6 := .of (n := 1) Tryd.underlying25 rfl rfl (by kernel_rfl)
instance : TF Tryd.prog 25 4 8 := .of (n := 1) Tryd.underlying25 rfl rfl (by kernel_rfl)
instance : TF Tryd.prog 25 5 10 := .of (n := 1) Tryd.underlying25 rfl rfl (by kernel_rfl)
instance : TF Tryd.prog 25 6 12 := .of (n := 1) Tryd.underlying25 rfl rfl (by kernel_rfl)
instance : TF Tryd.prog 25 7 14 := .of (n := 1) Tryd.underlying25 rfl rfl (by kernel_rfl)
instance : TF Tryd.prog 25 8 16 := .of (n := 1) Tryd.underlying25 rfl rfl (by kernel_rfl)
instance : TP Tryd.prog 25 (.agg #[.int .i64 0, .slice none 0 0, .int .i64 0, .slice none 0 0, .int .i64 0, .slice none 0 0, .int .i64 0, .slice none 0 0, .int .i64 0, .slice none 0 0, .int .i64 0, .slice none 0 0, .int .i64 0, .slice none 0 0, .int .i64 0, .slice none 0 0, .int .i64 0, .slice none 0 0]) [(0, 2), (2, 2), (4, 2), (6, 2), (8, 2), (10, 2), (12, 2), (14, 2), (16, 2)] := .of Tryd.underlying25 (by kernel_rfl) (by kernel_rfl)
instance : TN Tryd.prog 26 18 := .of Tryd.underlying26 rfl (by kernel_rfl)
instance : TE Tryd.prog 26 18 288 (.agg #[.int .i64 0, .slice none 0 0, .int .i64 0, .slice none 0 0, .int .i64 0, .slice none 0 0, .int .i64 0, .slice none 0 0, .int .i64 0, .slice none 0 0, .int .i64 0, .slice none 0 0, .int .i64 0, .slice none 0 0, .int .i64 0, .slice none 0 0, .int .i64 0, .slice none 0 0]) := .of (by kernel_rfl)
instance : TF Tryd.prog 26 0 0 := .of (n := 1) Tryd.underlying26 rfl rfl (by kernel_rfl)
instance : TF Tryd.prog 26 1 2 := .of (n := 1) Tryd.underlying26 rfl rfl (by kernel_rfl)
instance : TF Tryd.prog 26 2 4 := .of (n := 1) Tryd.underlying26 rfl rfl (by kernel_rfl)
instance : TF Tryd.prog 26 3 6 := .of (n := 1) Tryd.underlying26 rfl rfl (by kernel_rfl)
instance : TF Tryd.prog 26 4 8 := .of (n := 1) Tryd.underlying26 rfl rfl (by kernel_rfl)
instance : TF Tryd.prog 26 5 10 := .of (n := 1) Tryd.underlying26 rfl rfl (by kernel_rfl)
instance : TF Tryd.prog 26 6 12 := .of (n := 1) Tryd.underlying26 rfl rfl (by kernel_rfl)
instance : TF Tryd.prog 26 7 14 := .of (n := 1) Tryd.underlying26 rfl rfl (by kernel_rfl)
instance : TF Tryd.prog 26 8 16 := .of (n := 1) Tryd.underlying26 rfl rfl (by kernel_rfl)
instance : TP Tryd.prog 26 (.agg #[.int .i64 0, .slice none 0 0, .int .i64 0, .slice none 0 0, .int .i64 0, .slice none 0 0, .int .i64 0, .slice none 0 0, .int .i64 0, .slice none 0 0, .int .i64 0, .slice none 0 0, .int .i64 0, .slice none 0 0, .int .i64 0, .slice none 0 0, .int .i64 0, .slice none 0 0]) [(0, 2), (2, 2), (4, 2), (6, 2), (8, 2), (10, 2), (12, 2), (14, 2), (16, 2)] := .of Tryd.underlying26 (by kernel_rfl) (by kernel_rfl)
instance : TN Tryd.prog 27 22 := .of Tryd.underlying27 rfl (by kernel_rfl)
instance : TE Tryd.prog 27 22 352 (.agg #[.int .i64 0, .slice none 0 0, .int .i64 0, .slice none 0 0, .int .i64 0, .slice none 0 0, .int .i64 0, .slice none 0 0, .int .i64 0, .slice none 0 0, .int .i64 0, .slice none 0 0, .int .i64 0, .slice none 0 0, .int .i64 0, .slice none 0 0, .int .i64 0, .slice none 0 0, .int .i64 0, .slice none 0 0, .int .i64 0, .slice none 0 0]) := .of (by kernel_rfl)
instance : TF Tryd.prog 27 0 0 := .of (n := 17) Tryd.underlying27 rfl rfl (by kernel_rfl)
instance : TF Tryd.prog 27 1 18 := .of (n := 1) Tryd.underlying27 rfl rfl (by kernel_rfl)
instance : TF Tryd.prog 27 2 20 := .of (n := 1) Tryd.underlying27 rfl rfl (by kernel_rfl)
instance : TP Tryd.prog 27 (.agg #[.int .i64 0, .slice none 0 0, .int .i64 0, .slice none 0 0, .int .i64 0, .slice none 0 0, .int .i64 0, .slice none 0 0, .int .i64 0, .slice none 0 0, .int .i64 0, .slice none 0 0, .int .i64 0, .slice none 0 0, .int .i64 0, .slice none 0 0, .int .i64 0, .slice none 0 0, .int .i64 0, .slice none 0 0, .int .i64 0, .slice none 0 0]) [(0, 18), (18, 2), (20, 2)] := .of Tryd.underlying27 (by kernel_rfl) (by kernel_rfl)
instance : TN Tryd.prog 28 22 := .of Tryd.underlying28 rfl (by kernel_rfl)
instance : TE Tryd.prog 28 22 352 (.agg #[.int .i64 0, .slice none 0 0, .int .i64 0, .slice none 0 0, .int .i64 0, .slice none 0 0, .int .i64 0, .slice none 0 0, .int .i64 0, .slice none 0 0, .int .i64 0, .slice none 0 0, .int .i64 0, .slice none 0 0, .int .i64 0, .slice none 0 0, .int .i64 0, .slice none 0 0, .int .i64 0, .slice none 0 0, .int .i64 0, .slice none 0 0]) := .of (by kernel_rfl)
instance : TF Tryd.prog 28 0 0 := .of (n := 17) Tryd.underlying28 rfl rfl (by kernel_rfl)
instance : TF Tryd.prog 28 1 18 := .of (n := 1) Tryd.underlying28 rfl rfl (by kernel_rfl)
instance : TF Tryd.prog 28 2 20 := .of (n := 1) Tryd.underlying28 rfl rfl (by kernel_rfl)
instance : TP Tryd.prog 28 (.agg #[.int .i64 0, .slice none 0 0, .int .i64 0, .slice none 0 0, .int .i64 0, .slice none 0 0, .int .i64 0, .slice none 0 0, .int .i64 0, .slice none 0 0, .int .i64 0, .slice none 0 0, .int .i64 0, .slice none 0 0, .int .i64 0, .slice none 0 0, .int .i64 0, .slice none 0 0, .int .i64 0, .slice none 0 0, .int .i64 0, .slice none 0 0]) [(0, 18), (18, 2), (20, 2)] := .of Tryd.underlying28 (by kernel_rfl) (by kernel_rfl)
instance : TU Tryd.prog 29 (.slice 3) := ⟨Tryd.underlying29⟩
instance : T1 Tryd.prog 29 := .of Tryd.underlying29 rfl
instance : TE Tryd.prog 29 1 24 (.slice none 0 0) := .of (by kernel_rfl)
instance : TSl Tryd.prog 29 3 := ⟨Tryd.underlying29⟩
instance : EncOf Tryd.prog 29 encV decV := ⟨trivial⟩
instance : TU Tryd.prog 30 (.slice 66) := ⟨Tryd.underlying30⟩
instance : T1 Tryd.prog 30 := .of Tryd.underlying30 rfl
instance : TE Tryd.prog 30 1 24 (.slice none 0 0) := .of (by kernel_rfl)
instance : TSl Tryd.prog 30 66 := ⟨Tryd.underlying30⟩
instance : EncOf Tryd.prog 30 encV decV := ⟨trivial⟩
instance : TU Tryd.prog 31 (.int .i64) := ⟨Tryd.underlying31⟩
instance : T1 Tryd.prog 31 := .of Tryd.underlying31 rfl
instance : TE Tryd.prog 31 1 8 (.int .i64 0) := .of (by kernel_rfl)
instance : EncOf Tryd.prog 31 encI decI := ⟨trivial⟩
instance : T1 Tryd.prog 33 := .of Tryd.underlying33 rfl
instance : TE Tryd.prog 33 1 8 (.nilFunc) := .of (by kernel_rfl)
instance : T1 Tryd.prog 34 := .of Tryd.underlying34 rfl
instance : TE Tryd.prog 34 1 8 (.nilFunc) := .of (by kernel_rfl)
instance : T1 Tryd.prog 35 := .of Tryd.underlying35 rfl
instance : TE Tryd.prog 35 1 8 (.nilFunc) := .of (by kernel_rfl)
instance : T1 Tryd.prog 36 := .of Tryd.underlying36 rfl
instance : TE Tryd.prog 36 1 8 (.nilFunc) := .of (by kernel_rfl)
instance : T1 Tryd.prog 37 := .of Tryd.underlying37 rfl
instance : TE Tryd.prog 37 1 8 (.nilFunc) := .of (by kernel_rfl)
instance : TU Tryd.prog 38 (.slice 9) := ⟨Tryd.underlying38⟩
instance : T1 Tryd.prog 38 := .of Tryd.underlying38 rfl
instance : TE Tryd.prog 38 1 24 (.slice none 0 0) := .of (by kernel_rfl)
instance : TSl Tryd.prog 38 9 := ⟨Tryd.underlying38⟩
instance : EncOf Tryd.prog 38 encV decV := ⟨trivial⟩
instance : TU Tryd.prog 39 (.slice 53) := ⟨Tryd.underlying39⟩
instance : T1 Tryd.prog 39 := .of Tryd.underlying39 rfl
instance : TE Tryd.prog 39 1 24 (.slice none 0 0) := .of (by kernel_rfl)
instance : TSl Tryd.prog 39 53 := ⟨Tryd.underlying39⟩
instance : EncOf Tryd.prog 39 encV decV := ⟨trivial⟩
instance : TU Tryd.prog 40 (.slice 128) := ⟨Tryd.underlying40⟩
instance : T1 Tryd.prog 40 := .of Tryd.underlying40 rfl
instance : TE Tryd.prog 40 1 24 (.slice none 0 0) := .of (by kernel_rfl)
instance : TSl Tryd.prog 40 128 := ⟨Tryd.underlying40⟩
instance : EncOf Tryd.prog 40 encV decV := ⟨trivial⟩
instance : TU Tryd.prog 41 (.slice 89) := ⟨Tryd.underlying41⟩
instance : T1 Tryd.prog 41 := .of Tryd.underlying41 rfl
instance : TE Tryd.prog 41 1 24 (.slice none 0 0) := .of (by kernel_rfl)
instance : TSl Tryd.prog 41 89 := ⟨Tryd.underlying41⟩
instance : EncOf Tryd.prog 41 encV decV := ⟨trivial⟩
instance : TU Tryd.prog 42 (.slice 112) := ⟨Tryd.underlying42⟩
instance : T1 Tryd.prog 42 := .of Tryd.underlying42 rfl
instance : TE Tryd.prog 42 1 24 (.slice none 0 0) := .of (by kernel_rfl)
instance : TSl Tryd.prog 42 112 := ⟨Tryd.underlying42⟩
instance : EncOf Tryd.prog 42 encV decV := ⟨trivial⟩
instance : TU Tryd.prog 43 (.slice 114) := ⟨Tryd.underlying43⟩
instance : T1 Tryd.prog 43 := .of Tryd.underlying43 rfl
instance : TE Tryd.prog 43 1 24 (.slice none 0 0) := .of (by kernel_rfl)
instance : TSl Tryd.prog 43 114 := ⟨Tryd.underlying43⟩
instance : EncOf Tryd.prog 43 encV decV := ⟨trivial⟩
instance : TN Tryd.prog 44 9 := .of Tryd.underlying44 rfl (by kernel_rfl)
instance : TE Tryd.prog 44 9 216 (.agg #[.slice none 0 0, .slice none 0 0, .slice none 0 0, .slice none 0 0, .slice none 0 0, .slice none 0 0, .slice none 0 0, .slice none 0 0, .slice none 0 0]) := .of (by kernel_rfl)
instance : TF Tryd.prog 44 0 0 := .of (n := 0) Tryd.underlying44 rfl rfl (by kernel_rfl)
instance : TF Tryd.prog 44 1 1 := .of (n := 0) Tryd.underlying44 rfl rfl (by kernel_rfl)
instance : TF Tryd.prog 44 2 2 := .of (n := 0) Tryd.underlying44 rfl rfl (by kernel_rfl)
instance : TF Tryd.prog 44 3 3 := .of (n := 0) Tryd.underlying44 rfl rfl (by kernel_rfl)
instance : TF Tryd.prog 44 4 4 := .of (n := 0) Tryd.underlying44 rfl rfl (by kernel_rfl)
instance : TF Tryd.prog 44 5 5 := .of (n := 0) Tryd.underlying44 rfl rfl (by kernel_rfl)
instance : TF Tryd.prog 44 6 6 := .of (n := 0) Tryd.underlying44 rfl rfl (by kernel_rfl)
instance : TF Tryd.prog 44 7 7 := .of (n := 0) Tryd.underlying44 rfl rfl (by kernel_rfl)
instance : TF Tryd.prog 44 8 8 := .of (n := 0) Tryd.underlying44 rfl rfl (by kernel_rfl)
instance : TP Tryd.prog 44 (.agg #[.slice none 0 0, .slice none 0 0, .slice none 0 0, .slice none 0 0, .slice none 0 0, .slice none 0 0, .slice none 0 0, .slice none 0 0, .slice none 0 0]) [(0, 1), (1, 1), (2, 1), (3, 1), (4, 1), (5, 1), (6, 1), (7, 1), (8, 1)] := .of Tryd.underlying44 (by kernel_rfl) (by kernel_rfl)
instance : TN Tryd.prog 45 9 := .of Tryd.underlying45 rfl (by kernel_rfl)
instance : TE Tryd.prog 45 9 216 (.agg #[.slice none 0 0, .slice none 0 0, .slice none 0 0, .slice none 0 0, .slice none 0 0, .slice none 0 0, .slice none 0 0, .slice none 0 0, .slice none 0 0]) := .of (by kernel_rfl)
instance : TF Tryd.prog 45 0 0 := .of (n := 0) Tryd.underlying45 rfl rfl (by kernel_rfl)
instance : TF Tryd.prog 45 1 1 := .of (n := 0) Tryd.underlying45 rfl rfl (by kernel_rfl)
instance : TF Tryd.prog 45 2 2 := .of (n := 0) Tryd.underlying45 rfl rfl (by kernel_rfl)
instance : TF Tryd.prog 45 3 3 := .of (n := 0) Tryd.underlying45 rfl rfl (by kernel_rfl)
instance : TF Tryd.prog 45 4 4 := .of (n := 0) Tryd.underlying45 rfl rfl (by kernel_rfl)
instance : TF Tryd.prog 45 5 5 := .of (n := 0) Tryd.underlying45 rfl rfl (by kernel_rfl)
instance : TF Tryd.prog 45 6 6 := .of (n := 0) Tryd.underlying45 rfl rfl (by kernel_rfl)
instance : TF Tryd.prog 45 7 7 := .of (n := 0) Tryd.underlying45 rfl rfl (by kernel_rfl)
instance : TF Tryd.prog 45 8 8 := .of (n := 0) Tryd.underlying45 rfl rfl (by kernel_rfl)
instance : TP Tryd.prog 45 (.agg #[.slice none 0 0, .slice none 0 0, .slice none 0 0, .slice none 0 0, .slice none 0 0, .slice none 0 0, .slice none 0 0, .slice none 0 0, .slice none 0 0]) [(0, 1), (1, 1), (2, 1), (3, 1), (4, 1), (5, 1), (6, 1), (7, 1), (8, 1)] := .of Tryd.underlying45 (by kernel_rfl) (by kernel_rfl)
instance : TU Tryd.prog 46 (.slice 29) := ⟨Tryd.underlying46⟩
instance : T1 Tryd.prog 46 := .of Tryd.underlying46 rfl
instance : TE Tryd.prog 46 1 24 (.slice none 0 0) := .of (by kernel_rfl)
instance : TSl Tryd.prog 46 29 := ⟨Tryd.underlying46⟩
instance : EncOf Tryd.prog 46 encV decV := ⟨trivial⟩
instance : TN Tryd.prog 47 2 := .of Tryd.underlying47 rfl (by kernel_rfl)
instance : TE Tryd.prog 47 2 48 (.agg #[.slice none 0 0, .slice none 0 0]) := .of (by kernel_rfl)
instance : TF Tryd.prog 47 0 0 := .of (n := 0) Tryd.underlying47 rfl rfl (by kernel_rfl)
instance : TF Tryd.prog 47 1 1 := .of (n := 0) Tryd.underlying47 rfl rfl (by kernel_rfl)
instance : TP Tryd.prog 47 (.agg #[.slice none 0 0, .slice none 0 0]) [(0, 1), (1, 1)] := .of Tryd.underlying47 (by kernel_rfl) (by kernel_rfl)
instance : TN Tryd.prog 48 2 := .of Tryd.underlying48 rfl (by kernel_rfl)
instance : TE Tryd.prog 48 2 48 (.agg #[.slice none 0 0, .slice none 0 0]) := .of (by kernel_rfl)
instance : TF Tryd.prog 48 0 0 := .of (n := 0) Tryd.underlying48 rfl rfl (by kernel_rfl)
instance : TF Tryd.prog 48 1 1 := .of (n := 0) Tryd.underlying48 rfl rfl (by kernel_rfl)
instance : TP Tryd.prog 48 (.agg #[.slice none 0 0, .slice none 0 0]) [(0, 1), (1, 1)] := .of Tryd.underlying48 (by kernel_rfl) (by kernel_rfl)
instance : T1 Tryd.prog 50 := .of Tryd.underlying50 rfl
instance : TE Tryd.prog 50 1 8 (.nilFunc) := .of (by kernel_rfl)
instance : T1 Tryd.prog 51 := .of Tryd.underlying51 rfl
instance : TE Tryd.prog 51 1 8 (.nilFunc) := .of (by kernel_rfl)
instance : TN Tryd.prog 52 6 := .of Tryd.underlying52 rfl (by kernel_rfl)
instance : TE Tryd.prog 52 6 48 (.agg #[.int .i64 0, .int .i64 0, .int .i64 0, .int .i64 0, .int .i64 0, .int .i64 0]) := .of (by kernel_rfl)
instance : TF Tryd.prog 52 0 0 := .of (n := 0) Tryd.underlying52 rfl rfl (by kernel_rfl)
instance : TF Tryd.prog 52 1 1 := .of (n := 0) Tryd.underlying52 rfl rfl (by kernel_rfl)
instance : TF Tryd.prog 52 2 2 := .of (n := 0) Tryd.underlying52 rfl rfl (by kernel_rfl)
instance : TF Tryd.prog 52 3 3 := .of (n := 0) Tryd.underlying52 rfl rfl (by kernel_rfl)
instance : TF Tryd.prog 52 4 4 := .of (n := 0) Tryd.underlying52 rfl rfl (by kernel_rfl)
instance : TF Tryd.prog 52 5 5 := .of (n := 0) Tryd.underlying52 rfl rfl (by kernel_rfl)
instance : TP Tryd.prog 52 (.agg #[.int .i64 0, .int .i64 0, .int .i64 0, .int .i64 0, .int .i64 0, .int .i64 0]) [(0, 1), (1, 1), (2, 1), (3, 1), (4, 1), (5, 1)] := .of Tryd.underlying52 (by kernel_rfl) (by kernel_rfl)
instance : TN Tryd.prog 53 6 := .of Tryd.underlying53 rfl (by kernel_rfl)
instance : TE Tryd.prog 53 6 48 (.agg #[.int .i64 0, .int .i64 0, .int .i64 0, .int .i64 0, .int .i64 0, .int .i64 0]) := .of (by kernel_rfl)
instance : TF Tryd.prog 53 0 0 := .of (n := 0) Tryd.underlying53 rfl rfl (by kernel_rfl)
instance : TF Tryd.prog 53 1 1 := .of (n := 0) Tryd.underlying53 rfl rfl (by kernel_rfl)
instance : TF Tryd.prog 53 2 2 := .of (n := 0) Tryd.underlying53 rfl rfl (by kernel_rfl)
instance : TF Tryd.prog 53 3 3 := .of (n := 0) Tryd.underlying53 rfl rfl (by kernel_rfl)
instance : TF Tryd.prog 53 4 4 := .of (n := 0) Tryd.underlying53 rfl rfl (by kernel_rfl)
instance : TF Tryd.prog 53 5 5 := .of (n := 0) Tryd.underlying53 rfl rfl (by kernel_rfl)
instance : TP Tryd.prog 53 (.agg #[.int .i64 0, .int .i64 0, .int .i64 0, .int .i64 0, .int .i64 0, .int .i64 0]) [(0, 1), (1, 1), (2, 1), (3, 1), (4, 1), (5, 1)] := .of Tryd.underlying53 (by kernel_rfl) (by kernel_rfl)
instance : EncOf Tryd.prog 53 encEv decEv := ⟨trivial⟩
instance : T1 Tryd.prog 54 := .of Tryd.underlying54 rfl
instance : TE Tryd.prog 54 1 8 (.nilFunc) := .of (by kernel_rfl)
instance : T1 Tryd.prog 55 := .of Tryd.underlying55 rfl
instance : TE Tryd.prog 55 1 8 (.nilFunc) := .of (by kernel_rfl)
instance : TU Tryd.prog 56 (.slice 24) := ⟨Tryd.underlying56⟩
instance : T1 Tryd.prog 56 := .of Tryd.underlying56 rfl
instance : TE Tryd.prog 56 1 24 (.slice none 0 0) := .of (by kernel_rfl)
instance : TSl Tryd.prog 56 24 := ⟨Tryd.underlying56⟩
instance : EncOf Tryd.prog 56 encV decV := ⟨trivial⟩
instance : T1 Tryd.prog 57 := .of Tryd.underlying57 rfl
instance : TE Tryd.prog 57 1 8 (.nilFunc) := .of (by kernel_rfl)
instance : T1 Tryd.prog 58 := .of Tryd.underlying58 rfl
instance : TE Tryd.prog 58 1 8 (.nilFunc) := .of (by kernel_rfl)
instance : T1 Tryd.prog 59 := .of Tryd.underlying59 rfl
instance : TE Tryd.prog 59 1 8 (.nilFunc) := .of (by kernel_rfl)
instance : TN Tryd.prog 60 2 := .of Tryd.underlying60 rfl (by kernel_rfl)
instance : TE Tryd.prog 60 2 16 (.agg #[.int .i64 0, .nilFunc]) := .of (by kernel_rfl)
instance : TF Tryd.prog 60 0 0 := .of (n := 0) Tryd.underlying60 rfl rfl (by kernel_rfl)
instance : TF Tryd.prog 60 1 1 := .of (n := 0) Tryd.underlying60 rfl rfl (by kernel_rfl)
instance : TP Tryd.prog 60 (.agg #[.int .i64 0, .nilFunc]) [(0, 1), (1, 1)] := .of Tryd.underlying60 (by kernel_rfl) (by kernel_rfl)
instance : TN Tryd.prog 61 2 := .of Tryd.underlying61 rfl (by kernel_rfl)
instance : TE Tryd.prog 61 2 16 (.agg #[.int .i64 0, .nilFunc]) := .of (by kernel_rfl)
instance : TF Tryd.prog 61 0 0 := .of (n := 0) Tryd.underlying61 rfl rfl (by kernel_rfl)
instance : TF Tryd.prog 61 1 1 := .of (n := 0) Tryd.underlying61 rfl rfl (by kernel_rfl)
instance : TP Tryd.prog 61 (.agg #[.int .i64 0, .nilFunc]) [(0, 1), (1, 1)] := .of Tryd.underlying61 (by kernel_rfl) (by kernel_rfl)
instance : TU Tryd.prog 62 (.slice 61) := ⟨Tryd.underlying62⟩
instance : T1 Tryd.prog 62 := .of Tryd.underlying62 rfl
instance : TE Tryd.prog 62 1 24 (.slice none 0 0) := .of (by kernel_rfl)
instance : TSl Tryd.prog 62 61 := ⟨Tryd.underlying62⟩
instance : EncOf Tryd.prog 62 encV decV := ⟨trivial⟩
instance : T1 Tryd.prog 63 := .of Tryd.underlying63 rfl
instance : TE Tryd.prog 63 1 8 (.nilFunc) := .of (by kernel_rfl)
instance : T1 Tryd.prog 64 := .of Tryd.underlying64 rfl
instance : TE Tryd.prog 64 1 8 (.nilFunc) := .of (by kernel_rfl)
instance : TN Tryd.prog 65 3 := .of Tryd.underlying65 rfl (by kernel_rfl)
instance : TE Tryd.prog 65 3 24 (.agg #[.int .i64 0, .int .i64 0, .int .i64 0]) := .of (by kernel_rfl)
instance : TF Tryd.prog 65 0 0 := .of (n := 0) Tryd.underlying65 rfl rfl (by kernel_rfl)
instance : TF Tryd.prog 65 1 1 := .of (n := 0) Tryd.underlying65 rfl rfl (by kernel_rfl)
instance : TF Tryd.prog 65 2 2 := .of (n := 0) Tryd.underlying65 rfl rfl (by kernel_rfl)
instance : TP Tryd.prog 65 (.agg #[.int .i64 0, .int .i64 0, .int .i64 0]) [(0, 1), (1, 1), (2, 1)] := .of Tryd.underlying65 (by kernel_rfl) (by kernel_rfl)
instance : TN Tryd.prog 66 3 := .of Tryd.underlying66 rfl (by kernel_rfl)
instance : TE Tryd.prog 66 3 24 (.agg #[.int .i64 0, .int .i64 0, .int .i64 0]) := .of (by kernel_rfl)
instance : TF Tryd.prog 66 0 0 := .of (n := 0) Tryd.underlying66 rfl rfl (by kernel_rfl)
instance : TF Tryd.prog 66 1 1 := .of (n := 0) Tryd.underlying66 rfl rfl (by kernel_rfl)
instance : TF Tryd.prog 66 2 2 := .of (n := 0) Tryd.underlying66 rfl rfl (by kernel_rfl)
instance : TP Tryd.prog 66 (.agg #[.int .i64 0, .int .i64 0, .int .i64 0]) [(0, 1), (1, 1), (2, 1)] := .of Tryd.underlying66 (by kernel_rfl) (by kernel_rfl)
instance : EncOf Tryd.prog 66 encArc decArc := ⟨trivial⟩
instance : T1 Tryd.prog 67 := .of Tryd.underlying67 rfl
instance : TE Tryd.prog 67 1 8 (.nilFunc) := .of (by kernel_rfl)
instance : T1 Tryd.prog 68 := .of Tryd.underlying68 rfl
instance : TE Tryd.prog 68 1 8 (.nilFunc) := .of (by kernel_rfl)
instance : T1 Tryd.prog 69 := .of Tryd.underlying69 rfl
instance : TE Tryd.prog 69 1 8 (.nilFunc) := .of (by kernel_rfl)
instance : T1 Tryd.prog 70 := .of Tryd.underlying70 rfl
instance : TE Tryd.prog 70 1 8 (.nilFunc) := .of (by kernel_rfl)
instance : T1 Tryd.prog 71 := .of Tryd.underlying71 rfl
instance : TE Tryd.prog 71 1 8 (.nilFunc) := .of (by kernel_rfl)
instance : T1 Tryd.prog 73 := .of Tryd.underlying73 rfl
instance : TE Tryd.prog 73 1 8 (.nilFunc) := .of (by kernel_rfl)
instance : T1 Tryd.prog 74 := .of Tryd.underlying74 rfl
instance : TE Tryd.prog 74 1 8 (.nilFunc) := .of (by kernel_rfl)
instance : T1 Tryd.prog 75 := .of Tryd.underlying75 rfl
instance : TE Tryd.prog 75 1 8 (.nilFunc) := .of (by kernel_rfl)
instance : T1 Tryd.prog 76 := .of Tryd.underlying76 rfl
instance : TE Tryd.prog 76 1 8 (.nilFunc) := .of (by kernel_rfl)
instance : TU Tryd.prog 77 (.int .u64) := ⟨Tryd.underlying77⟩
instance : T1 Tryd.prog 77 := .of Tryd.underlying77 rfl
instance : TE Tryd.prog 77 1 8 (.int .u64 0) := .of (by kernel_rfl)
instance : EncOf Tryd.prog 77 encW decW := ⟨trivial⟩
instance : TU Tryd.prog 78 (.int .u64) := ⟨Tryd.underlying78⟩
instance : T1 Tryd.prog 78 := .of Tryd.underlying78 rfl
instance : TE Tryd.prog 78 1 8 (.int .u64 0) := .of (by kernel_rfl)
instance : EncOf Tryd.prog 78 encW decW := ⟨trivial⟩
instance : T1 Tryd.prog 79 := .of Tryd.underlying79 rfl
instance : TE Tryd.prog 79 1 8 (.nilFunc) := .of (by kernel_rfl)
instance : T1 Tryd.prog 80 := .of Tryd.underlying80 rfl
instance : TE Tryd.prog 80 1 8 (.nilFunc) := .of (by kernel_rfl)
instance : T1 Tryd.prog 82 := .of Tryd.underlying82 rfl
instance : TE Tryd.prog 82 1 8 (.nilFunc) := .of (by kernel_rfl)
instance : T1 Tryd.prog 84 := .of Tryd.underlying84 rfl
instance : TE Tryd.prog 84 1 8 (.nilFunc) := .of (by kernel_rfl)
instance : T1 Tryd.prog 85 := .of Tryd.underlying85 rfl
instance : TE Tryd.prog 85 1 8 (.nilFunc) := .of (by kernel_rfl)
instance : T1 Tryd.prog 87 := .of Tryd.underlying87 rfl
instance : TE Tryd.prog 87 1 8 (.nilFunc) := .of (by kernel_rfl)
instance : TN Tryd.prog 88 2 := .of Tryd.underlying88 rfl (by kernel_rfl)
instance : TE Tryd.prog 88 2 16 (.agg #[.int .i64 0, .int .i64 0]) := .of (by kernel_rfl)
instance : TF Tryd.prog 88 0 0 := .of (n := 0) Tryd.underlying88 rfl rfl (by kernel_rfl)
instance : TF Tryd.prog 88 1 1 := .of (n := 0) Tryd.underlying88 rfl rfl (by kernel_rfl)
instance : TP Tryd.prog 88 (.agg #[.int .i64 0, .int .i64 0]) [(0, 1), (1, 1)] := .of Tryd.underlying88 (by kernel_rfl) (by kernel_rfl)
instance : TN Tryd.prog 89 2 := .of Tryd.underlying89 rfl (by kernel_rfl)
instance : TE Tryd.prog 89 2 16 (.agg #[.int .i64 0, .int .i64 0]) := .of (by kernel_rfl)
instance : TF Tryd.prog 89 0 0 := .of (n := 0) Tryd.underlying89 rfl rfl (by kernel_rfl)
instance : TF Tryd.prog 89 1 1 := .of (n := 0) Tryd.underlying89 rfl rfl (by kernel_rfl)
instance : TP Tryd.prog 89 (.agg #[.int .i64 0, .int .i64 0]) [(0, 1), (1, 1)] := .of Tryd.underlying89 (by kernel_rfl) (by kernel_rfl)
instance : EncOf Tryd.prog 89 encPair decPair := ⟨trivial⟩
instance : T1 Tryd.prog 90 := .of Tryd.underlying90 rfl
instance : TE Tryd.prog 90 1 8 (.nilFunc) := .of (by kernel_rfl)
instance : T1 Tryd.prog 91 := .of Tryd.underlying91 rfl
instance : TE Tryd.prog 91 1 8 (.nilFunc) := .of (by kernel_rfl)
instance : T1 Tryd.prog 92 := .of Tryd.underlying92 rfl
instance : TE Tryd.prog 92 1 8 (.nilFunc) := .of (by kernel_rfl)
instance : T1 Tryd.prog 93 := .of Tryd.underlying93 rfl
instance : TE Tryd.prog 93 1 8 (.nilFunc) := .of (by kernel_rfl)
instance : T1 Tryd.prog 94 := .of Tryd.underlying94 rfl
instance : TE Tryd.prog 94 1 8 (.nilFunc) := .of (by kernel_rfl)
instance : T1 Tryd.prog 95 := .of Tryd.underlying95 rfl
instance : TE Tryd.prog 95 1 8 (.nilFunc) := .of (by kernel_rfl)
instance : T1 Tryd.prog 96 := .of Tryd.underlying96 rfl
instance : TE Tryd.prog 96 1 8 (.nilFunc) := .of (by kernel_rfl)
instance : TN Tryd.prog 97 2 := .of Tryd.underlying97 rfl (by kernel_rfl)
instance : TE Tryd.prog 97 2 48 (.agg #[.slice none 0 0, .slice none 0 0]) := .of (by kernel_rfl)
instance : TF Tryd.prog 97 0 0 := .of (n := 0) Tryd.underlying97 rfl rfl (by kernel_rfl)
instance : TF Tryd.prog 97 1 1 := .of (n := 0) Tryd.underlying97 rfl rfl (by kernel_rfl)
instance : TP Tryd.prog 97 (.agg #[.slice none 0 0, .slice none 0 0]) [(0, 1), (1, 1)] := .of Tryd.underlying97 (by kernel_rfl) (by kernel_rfl)
instance : TN Tryd.prog 98 2 := .of Tryd.underlying98 rfl (by kernel_rfl)
instance : TE Tryd.prog 98 2 48 (.agg #[.slice none 0 0, .slice none 0 0]) := .of (by kernel_rfl)
instance : TF Tryd.prog 98 0 0 := .of (n := 0) Tryd.underlying98 rfl rfl (by kernel_rfl)
instance : TF Tryd.prog 98 1 1 := .of (n := 0) Tryd.underlying98 rfl rfl (by kernel_rfl)
instance : TP Tryd.prog 98 (.agg #[.slice none 0 0, .slice none 0 0]) [(0, 1), (1, 1)] := .of Tryd.underlying98 (by kernel_rfl) (by kernel_rfl)
instance : T1 Tryd.prog 99 := .of Tryd.underlying99 rfl
instance : TE Tryd.prog 99 1 8 (.nilFunc) := .of (by kernel_rfl)
instance : T1 Tryd.prog 100 := .of Tryd.underlying100 rfl
instance : TE Tryd.prog 100 1 8 (.nilFunc) := .of (by kernel_rfl)
instance : T1 Tryd.prog 101 := .of Tryd.underlying101 rfl
instance : TE Tryd.prog 101 1 8 (.nilFunc) := .of (by kernel_rfl)
instance : T1 Tryd.prog 102 := .of Tryd.underlying102 rfl
instance : TE Tryd.prog 102 1 8 (.nilFunc) := .of (by kernel_rfl)
instance : T1 Tryd.prog 103 := .of Tryd.underlying103 rfl
instance : TE Tryd.prog 103 1 8 (.nilFunc) := .of (by kernel_rfl)
instance : T1 Tryd.prog 104 := .of Tryd.underlying104 rfl
instance : TE Tryd.prog 104 1 8 (.nilFunc) := .of (by kernel_rfl)
instance : T1 Tryd.prog 105 := .of Tryd.underlying105 rfl
instance : TE Tryd.prog 105 1 8 (.nilFunc) := .of (by kernel_rfl)
instance : T1 Tryd.prog 106 := .of Tryd.underlying106 rfl
instance : TE Tryd.prog 106 1 8 (.nilFunc) := .of (by kernel_rfl)
instance : T1 Tryd.prog 107 := .of Tryd.underlying107 rfl
instance : TE Tryd.prog 107 1 8 (.nilFunc) := .of (by kernel_rfl)
instance : T1 Tryd.prog 108 := .of Tryd.underlying108 rfl
instance : TE Tryd.prog 108 1 8 (.nilFunc) := .of (by kernel_rfl)
instance : T1 Tryd.prog 109 := .of Tryd.underlying109 rfl
instance : TE Tryd.prog 109 1 8 (.nilFunc) := .of (by kernel_rfl)
instance : T1 Tryd.prog 110 := .of Tryd.underlying110 rfl
instance : TE Tryd.prog 110 1 8 (.nilFunc) := .of (by kernel_rfl)
instance : TN Tryd.prog 111 3 := .of Tryd.underlying111 rfl (by kernel_rfl)
instance : TE Tryd.prog 111 3 32 (.agg #[.int .i64 0, .int .i64 0, .string ByteArray.empty]) := .of (by kernel_rfl)
instance : TF Tryd.prog 111 0 0 := .of (n := 0) Tryd.underlying111 rfl rfl (by kernel_rfl)
instance : TF Tryd.prog 111 1 1 := .of (n := 0) Tryd.underlying111 rfl rfl (by kernel_rfl)
instance : TF Tryd.prog 111 2 2 := .of (n := 0) Tryd.underlying111 rfl rfl (by kernel_rfl)
instance : TP Tryd.prog 111 (.agg #[.int .i64 0, .int .i64 0, .string ByteArray.empty]) [(0, 1), (1, 1), (2, 1)] := .of Tryd.underlying111 (by kernel_rfl) (by kernel_rfl)
instance : TN Tryd.prog 112 3 := .of Tryd.underlying112 rfl (by kernel_rfl)
instance : TE Tryd.prog 112 3 32 (.agg #[.int .i64 0, .int .i64 0, .string ByteArray.empty]) := .of (by kernel_rfl)
instance : TF Tryd.prog 112 0 0 := .of (n := 0) Tryd.underlying112 rfl rfl (by kernel_rfl)
instance : TF Tryd.prog 112 1 1 := .of (n := 0) Tryd.underlying112 rfl rfl (by kernel_rfl)
instance : TF Tryd.prog 112 2 2 := .of (n := 0) Tryd.underlying112 rfl rfl (by kernel_rfl)
instance : TP Tryd.prog 112 (.agg #[.int .i64 0, .int .i64 0, .string ByteArray.empty]) [(0, 1), (1, 1), (2, 1)] := .of Tryd.underlying112 (by kernel_rfl) (by kernel_rfl)
instance : EncOf Tryd.prog 112 encThing decThing := ⟨trivial⟩
instance : TN Tryd.prog 113 2 := .of Tryd.underlying113 rfl (by kernel_rfl)
instance : TE Tryd.prog 113 2 16 (.agg #[.int .i64 0, .int .i64 0]) := .of (by kernel_rfl)
instance : TF Tryd.prog 113 0 0 := .of (n := 0) Tryd.underlying113 rfl rfl (by kernel_rfl)
instance : TF Tryd.prog 113 1 1 := .of (n := 0) Tryd.underlying113 rfl rfl (by kernel_rfl)
instance : TP Tryd.prog 113 (.agg #[.int .i64 0, .int .i64 0]) [(0, 1), (1, 1)] := .of Tryd.underlying113 (by kernel_rfl) (by kernel_rfl)
instance : TN Tryd.prog 114 2 := .of Tryd.underlying114 rfl (by kernel_rfl)
instance : TE Tryd.prog 114 2 16 (.agg #[.int .i64 0, .int .i64 0]) := .of (by kernel_rfl)
instance : TF Tryd.prog 114 0 0 := .of (n := 0) Tryd.underlying114 rfl rfl (by kernel_rfl)
instance : TF Tryd.prog 114 1 1 := .of (n := 0) Tryd.underlying114 rfl rfl (by kernel_rfl)
instance : TP Tryd.prog 114 (.agg #[.int .i64 0, .int .i64 0]) [(0, 1), (1, 1)] := .of Tryd.underlying114 (by kernel_rfl) (by kernel_rfl)
instance : EncOf Tryd.prog 114 encEnd decEnd := ⟨trivial⟩
instance : T1 Tryd.prog 115 := .of Tryd.underlying115 rfl
instance : TE Tryd.prog 115 1 8 (.nilFunc) := .of (by kernel_rfl)
instance : T1 Tryd.prog 116 := .of Tryd.underlying116 rfl
instance : TE Tryd.prog 116 1 8 (.nilFunc) := .of (by kernel_rfl)
instance : T1 Tryd.prog 117 := .of Tryd.underlying117 rfl
instance : TE Tryd.prog 117 1 8 (.nilFunc) := .of (by kernel_rfl)
instance : T1 Tryd.prog 118 := .of Tryd.underlying118 rfl
instance : TE Tryd.prog 118 1 8 (.nilFunc) := .of (by kernel_rfl)
instance : EncOf Tryd.prog 118 encV decV := ⟨trivial⟩
instance : T1 Tryd.prog 119 := .of Tryd.underlying119 rfl
instance : TE Tryd.prog 119 1 8 (.nilFunc) := .of (by kernel_rfl)
instance : T1 Tryd.prog 120 := .of Tryd.underlying120 rfl
instance : TE Tryd.prog 120 1 8 (.nilFunc) := .of (by kernel_rfl)
instance : T1 Tryd.prog 121 := .of Tryd.underlying121 rfl
instance : TE Tryd.prog 121 1 8 (.nilFunc) := .of (by kernel_rfl)
instance : T1 Tryd.prog 122 := .of Tryd.underlying122 rfl
instance : TE Tryd.prog 122 1 8 (.nilFunc) := .of (by kernel_rfl)
instance : T1 Tryd.prog 123 := .of Tryd.underlying123 rfl
instance : TE Tryd.prog 123 1 8 (.nilFunc) := .of (by kernel_rfl)
instance : T1 Tryd.prog 124 := .of Tryd.underlying124 rfl
instance : TE Tryd.prog 124 1 8 (.nilFunc) := .of (by kernel_rfl)
instance : T1 Tryd.prog 125 := .of Tryd.underlying125 rfl
instance : TE Tryd.prog 125 1 8 (.nilFunc) := .of (by kernel_rfl)
instance : T1 Tryd.prog 126 := .of Tryd.underlying126 rfl
instance : TE Tryd.prog 126 1 8 (.nilFunc) := .of (by kernel_rfl)
instance : TN Tryd.prog 127 3 := .of Tryd.underlying127 rfl (by kernel_rfl)
instance : TE Tryd.prog 127 3 24 (.agg #[.int .i64 0, .int .i64 0, .int .i64 0]) := .of (by kernel_rfl)
instance : TF Tryd.prog 127 0 0 := .of (n := 0) Tryd.underlying127 rfl rfl (by kernel_rfl)
instance : TF Tryd.prog 127 1 1 := .of (n := 0) Tryd.underlying127 rfl rfl (by kernel_rfl)
instance : TF Tryd.prog 127 2 2 := .of (n := 0) Tryd.underlying127 rfl rfl (by kernel_rfl)
instance : TP Tryd.prog 127 (.agg #[.int .i64 0, .int .i64 0, .int .i64 0]) [(0, 1), (1, 1), (2, 1)] := .of Tryd.underlying127 (by kernel_rfl) (by kernel_rfl)
instance : TN Tryd.prog 128 3 := .of Tryd.underlying128 rfl (by kernel_rfl)
instance : TE Tryd.prog 128 3 24 (.agg #[.int .i64 0, .int .i64 0, .int .i64 0]) := .of (by kernel_rfl)
instance : TF Tryd.prog 128 0 0 := .of (n := 0) Tryd.underlying128 rfl rfl (by kernel_rfl)
instance : TF Tryd.prog 128 1 1 := .of (n := 0) Tryd.underlying128 rfl rfl (by kernel_rfl)
instance : TF Tryd.prog 128 2 2 := .of (n := 0) Tryd.underlying128 rfl rfl (by kernel_rfl)
instance : TP Tryd.prog 128 (.agg #[.int .i64 0, .int .i64 0, .int .i64 0]) [(0, 1), (1, 1), (2, 1)] := .of Tryd.underlying128 (by kernel_rfl) (by kernel_rfl)
instance : EncOf Tryd.prog 128 encBar decBar := ⟨trivial⟩
instance : T1 Tryd.prog 129 := .of Tryd.underlying129 rfl
instance : TE Tryd.prog 129 1 8 (.nilFunc) := .of (by kernel_rfl)
instance : T1 Tryd.prog 131 := .of Tryd.underlying131 rfl
instance : TE Tryd.prog 131 1 8 (.nilFunc) := .of (by kernel_rfl)
instance : T1 Tryd.prog 132 := .of Tryd.underlying132 rfl
instance : TE Tryd.prog 132 1 8 (.nilFunc) := .of (by kernel_rfl)
instance : TN Tryd.prog 133 64 := .of Tryd.underlying133 rfl (by kernel_rfl)
instance : TE Tryd.prog 133 64 64 (.agg #[.int .u8 0, .int .u8 0, .int .u8 0, .int .u8 0, .int .u8 0, .int .u8 0, .int .u8 0, .int .u8 0, .int .u8 0, .int .u8 0, .int .u8 0, .int .u8 0, .int .u8 0, .int .u8 0, .int .u8 0, .int .u8 0, .int .u8 0, .int .u8 0, .int .u8 0, .int .u8 0, .int .u8 0, .int .u8 0, .int .u8 0, .int .u8 0, .int .u8 0, .int .u8 0, .int .u8 0, .int .u8 0, .int .u8 0, .int .u8 0, .int .u8 0, .int .u8 0, .int .u8 0, .int .u8 0, .int .u8 0, .int .u8 0, .int .u8 0, .int .u8 0, .int .u8 0, .int .u8 0, .int .u8 0, .int .u8 0, .int .u8 0, .int .u8 0, .int .u8 0, .int .u8 0, .int .u8 0, .int .u8 0, .int .u8 0, .int .u8 0, .int .u8 0, .int .u8 0, .int .u8 0, .int .u8 0, .int .u8 0, .int .u8 0, .int .u8 0, .int .u8 0, .int .u8 0, .int .u8 0, .int .u8 0, .int .u8 0, .int .u8 0, .int .u8 0]) := .of (by kernel_rfl)
instance : TAr Tryd.prog 133 64 5 := ⟨Tryd.underlying133⟩
instance : T1 Tryd.prog 134 := .of Tryd.underlying134 rfl
instance : TE Tryd.prog 134 1 8 (.nilFunc) := .of (by kernel_rfl)
instance : T1 Tryd.prog 135 := .of Tryd.underlying135 rfl
instance : TE Tryd.prog 135 1 8 (.nilFunc) := .of (by kernel_rfl)
instance : T1 Tryd.prog 136 := .of Tryd.underlying136 rfl
instance : TE Tryd.prog 136 1 8 (.nilFunc) := .of (by kernel_rfl)
instance : T1 Tryd.prog 137 := .of Tryd.underlying137 rfl
instance : TE Tryd.prog 137 1 8 (.nilFunc) := .of (by kernel_rfl)
instance : T1 Tryd.prog 138 := .of Tryd.underlying138 rfl
instance : TE Tryd.prog 138 1 8 (.nilFunc) := .of (by kernel_rfl)
instance : T1 Tryd.prog 139 := .of Tryd.underlying139 rfl
instance : TE Tryd.prog 139 1 8 (.nilFunc) := .of (by kernel_rfl)
instance : TU Tryd.prog 140 (.int .i64) := ⟨Tryd.underlying140⟩
instance : T1 Tryd.prog 140 := .of Tryd.underlying140 rfl
instance : TE Tryd.prog 140 1 8 (.int .i64 0) := .of (by kernel_rfl)
instance : EncOf Tryd.prog 140 encI decI := ⟨trivial⟩
instance : T1 Tryd.prog 142 := .of Tryd.underlying142 rfl
instance : TE Tryd.prog 142 1 8 (.nilFunc) := .of (by kernel_rfl)
instance : T1 Tryd.prog 143 := .of Tryd.underlying143 rfl
instance : TE Tryd.prog 143 1 8 (.nilFunc) := .of (by kernel_rfl)
instance : T1 Tryd.prog 144 := .of Tryd.underlying144 rfl
instance : TE Tryd.prog 144 1 8 (.nilFunc) := .of (by kernel_rfl)
instance : T1 Tryd.prog 145 := .of Tryd.underlying145 rfl
instance : TE Tryd.prog 145 1 8 (.nilFunc) := .of (by kernel_rfl)
instance : T1 Tryd.prog 146 := .of Tryd.underlying146 rfl
instance : TE Tryd.prog 146 1 8 (.nilFunc) := .of (by kernel_rfl)
instance : TU Tryd.prog 147 (.int .u32) := ⟨Tryd.underlying147⟩
instance : T1 Tryd.prog 147 := .of Tryd.underlying147 rfl
instance : TE Tryd.prog 147 1 4 (.int .u32 0) := .of (by kernel_rfl)
instance : TU Tryd.prog 148 (.int .u64) := ⟨Tryd.underlying148⟩
instance : T1 Tryd.prog 148 := .of Tryd.underlying148 rfl
instance : TE Tryd.prog 148 1 8 (.int .u64 0) := .of (by kernel_rfl)
instance : EncOf Tryd.prog 148 encW decW := ⟨trivial⟩
instance : T1 Tryd.prog 149 := .of Tryd.underlying149 rfl
instance : TE Tryd.prog 149 1 8 (.nilFunc) := .of (by kernel_rfl)
instance : T1 Tryd.prog 150 := .of Tryd.underlying150 rfl
instance : TE Tryd.prog 150 1 8 (.nilFunc) := .of (by kernel_rfl)
instance : T1 Tryd.prog 151 := .of Tryd.underlying151 rfl
instance : TE Tryd.prog 151 1 8 (.nilFunc) := .of (by kernel_rfl)
instance : T1 Tryd.prog 152 := .of Tryd.underlying152 rfl
instance : TE Tryd.prog 152 1 8 (.pointer none) := .of (by kernel_rfl)
instance : EncOf Tryd.prog 152 encV decV := ⟨trivial⟩
instance : T1 Tryd.prog 153 := .of Tryd.underlying153 rfl
instance : TE Tryd.prog 153 1 8 (.nilFunc) := .of (by kernel_rfl)
instance : T1 Tryd.prog 154 := .of Tryd.underlying154 rfl
instance : TE Tryd.prog 154 1 8 (.pointer none) := .of (by kernel_rfl)
instance : EncOf Tryd.prog 154 encV decV := ⟨trivial⟩
instance : T1 Tryd.prog 156 := .of Tryd.underlying156 rfl
instance : TE Tryd.prog 156 1 8 (.nilFunc) := .of (by kernel_rfl)
instance : T1 Tryd.prog 157 := .of Tryd.underlying157 rfl
instance : TE Tryd.prog 157 1 8 (.nilFunc) := .of (by kernel_rfl)
instance : TN Tryd.prog 158 4 := .of Tryd.underlying158 rfl (by kernel_rfl)
instance : TE Tryd.prog 158 4 40 (.agg #[.pointer none, .pointer none, .pointer none, .string ByteArray.empty]) := .of (by kernel_rfl)
instance : TF Tryd.prog 158 0 0 := .of (n := 0) Tryd.underlying158 rfl rfl (by kernel_rfl)
instance : TF Tryd.prog 158 1 1 := .of (n := 0) Tryd.underlying158 rfl rfl (by kernel_rfl)
instance : TF Tryd.prog 158 2 2 := .of (n := 0) Tryd.underlying158 rfl rfl (by kernel_rfl)
instance : TF Tryd.prog 158 3 3 := .of (n := 0) Tryd.underlying158 rfl rfl (by kernel_rfl)
instance : TP Tryd.prog 158 (.agg #[.pointer none, .pointer none, .pointer none, .string ByteArray.empty]) [(0, 1), (1, 1), (2, 1), (3, 1)] := .of Tryd.underlying158 (by kernel_rfl) (by kernel_rfl)
instance : TN Tryd.prog 160 0 := .of Tryd.underlying160 rfl (by kernel_rfl)
instance : TE Tryd.prog 160 0 0 (.agg #[]) := .of (by kernel_rfl)
instance : TAr Tryd.prog 160 0 16 := ⟨Tryd.underlying160⟩
instance : TN Tryd.prog 161 0 := .of Tryd.underlying161 rfl (by kernel_rfl)
instance : TE Tryd.prog 161 0 0 (.agg #[]) := .of (by kernel_rfl)
instance : TP Tryd.prog 161 (.agg #[]) [(0, 0)] := .of Tryd.underlying161 (by kernel_rfl) (by kernel_rfl)
instance : T1 Tryd.prog 163 := .of Tryd.underlying163 rfl
instance : TE Tryd.prog 163 1 8 (.nilFunc) := .of (by kernel_rfl)
instance : T1 Tryd.prog 166 := .of Tryd.underlying166 rfl
instance : TE Tryd.prog 166 1 8 (.nilFunc) := .of (by kernel_rfl)
instance : T1 Tryd.prog 167 := .of Tryd.underlying167 rfl
instance : TE Tryd.prog 167 1 8 (.pointer none) := .of (by kernel_rfl)
instance : EncOf Tryd.prog 167 encV decV := ⟨trivial⟩
instance : TN Tryd.prog 170 11 := .of Tryd.underlying170 rfl (by kernel_rfl)
instance : TE Tryd.prog 170 11 48 (.agg #[.int .u64 0, .int .u64 0, .int .u32 0, .int .u8 0, .int .u8 0, .int .u8 0, .int .u8 0, .nilFunc, .pointer none, .int .i32 0, .int .i32 0]) := .of (by kernel_rfl)
instance : TF Tryd.prog 170 0 0 := .of (n := 0) Tryd.underlying170 rfl rfl (by kernel_rfl)
instance : TF Tryd.prog 170 1 1 := .of (n := 0) Tryd.underlying170 rfl rfl (by kernel_rfl)
instance : TF Tryd.prog 170 2 2 := .of (n := 0) Tryd.underlying170 rfl rfl (by kernel_rfl)
instance : TF Tryd.prog 170 3 3 := .of (n := 0) Tryd.underlying170 rfl rfl (by kernel_rfl)
instance : TF Tryd.prog 170 4 4 := .of (n := 0) Tryd.underlying170 rfl rfl (by kernel_rfl)
instance : TF Tryd.prog 170 5 5 := .of (n := 0) Tryd.underlying170 rfl rfl (by kernel_rfl)
instance : TF Tryd.prog 170 6 6 := .of (n := 0) Tryd.underlying170 rfl rfl (by kernel_rfl)
instance : TF Tryd.prog 170 7 7 := .of (n := 0) Tryd.underlying170 rfl rfl (by kernel_rfl)
instance : TF Tryd.prog 170 8 8 := .of (n := 0) Tryd.underlying170 rfl rfl (by kernel_rfl)
instance : TF Tryd.prog 170 9 9 := .of (n := 0) Tryd.underlying170 rfl rfl (by kernel_rfl)
instance : TF Tryd.prog 170 10 10 := .of (n := 0) Tryd.underlying170 rfl rfl (by kernel_rfl)
instance : TP Tryd.prog 170 (.agg #[.int .u64 0, .int .u64 0, .int .u32 0, .int .u8 0, .int .u8 0, .int .u8 0, .int .u8 0, .nilFunc, .pointer none, .int .i32 0, .int .i32 0]) [(0, 1), (1, 1), (2, 1), (3, 1), (4, 1), (5, 1), (6, 1), (7, 1), (8, 1), (9, 1), (10, 1)] := .of Tryd.underlying170 (by kernel_rfl) (by kernel_rfl)
instance : T1 Tryd.prog 172 := .of Tryd.underlying172 rfl
instance : TE Tryd.prog 172 1 8 (.pointer none) := .of (by kernel_rfl)
instance : FN Tryd.prog 3 := ⟨Tryd.f3, Tryd.func3, by kernel_rfl, by kernel_rfl⟩
instance : FN Tryd.prog 4 := ⟨Tryd.f4, Tryd.func4, by kernel_rfl, by kernel_rfl⟩
instance : FN Tryd.prog 5 := ⟨Tryd.f5, Tryd.func5, by kernel_rfl, by kernel_rfl⟩
instance : FN Tryd.prog 6 := ⟨Tryd.f6, Tryd.func6, by kernel_rfl, by kernel_rfl⟩
instance : FN Tryd.prog 7 := ⟨Tryd.f7, Tryd.func7, by kernel_rfl, by kernel_rfl⟩
instance : FN Tryd.prog 8 := ⟨Tryd.f8, Tryd.func8, by kernel_rfl, by kernel_rfl⟩
instance : FN Tryd.prog 9 := ⟨Tryd.f9, Tryd.func9, by kernel_rfl, by kernel_rfl⟩
instance : FN Tryd.prog 10 := ⟨Tryd.f10, Tryd.func10, by kernel_rfl, by kernel_rfl⟩
instance : FN Tryd.prog 11 := ⟨Tryd.f11, Tryd.func11, by kernel_rfl, by kernel_rfl⟩
instance : FN Tryd.prog 12 := ⟨Tryd.f12, Tryd.func12, by kernel_rfl, by kernel_rfl⟩
instance : FN Tryd.prog 13 := ⟨Tryd.f13, Tryd.func13, by kernel_rfl, by kernel_rfl⟩
instance : FN Tryd.prog 14 := ⟨Tryd.f14, Tryd.func14, by kernel_rfl, by kernel_rfl⟩
instance : FN Tryd.prog 15 := ⟨Tryd.f15, Tryd.func15, by kernel_rfl, by kernel_rfl⟩
instance : FN Tryd.prog 16 := ⟨Tryd.f16, Tryd.func16, by kernel_rfl, by kernel_rfl⟩
instance : FN Tryd.prog 17 := ⟨Tryd.f17, Tryd.func17, by kernel_rfl, by kernel_rfl⟩
instance : FN Tryd.prog 18 := ⟨Tryd.f18, Tryd.func18, by kernel_rfl, by kernel_rfl⟩
instance : FN Tryd.prog 19 := ⟨Tryd.f19, Tryd.func19, by kernel_rfl, by kernel_rfl⟩
instance : FN Tryd.prog 20 := ⟨Tryd.f20, Tryd.func20, by kernel_rfl, by kernel_rfl⟩
instance : FN Tryd.prog 21 := ⟨Tryd.f21, Tryd.func21, by kernel_rfl, by kernel_rfl⟩
instance : FN Tryd.prog 22 := ⟨Tryd.f22, Tryd.func22, by kernel_rfl, by kernel_rfl⟩
instance : FN Tryd.prog 23 := ⟨Tryd.f23, Tryd.func23, by kernel_rfl, by kernel_rfl⟩
instance : FN Tryd.prog 24 := ⟨Tryd.f24, Tryd.func24, by kernel_rfl, by kernel_rfl⟩
instance : FN Tryd.prog 25 := ⟨Tryd.f25, Tryd.func25, by kernel_rfl, by kernel_rfl⟩
instance : FN Tryd.prog 26 := ⟨Tryd.f26, Tryd.func26, by kernel_rfl, by kernel_rfl⟩
instance : FN Tryd.prog 27 := ⟨Tryd.f27, Tryd.func27, by kernel_rfl, by kernel_rfl⟩
instance : FN Tryd.prog 28 := ⟨Tryd.f28, Tryd.func28, by kernel_rfl, by kernel_rfl⟩
instance : FN Tryd.prog 29 := ⟨Tryd.f29, Tryd.func29, by kernel_rfl, by kernel_rfl⟩
instance : FN Tryd.prog 30 := ⟨Tryd.f30, Tryd.func30, by kernel_rfl, by kernel_rfl⟩
instance : FN Tryd.prog 31 := ⟨Tryd.f31, Tryd.func31, by kernel_rfl, by kernel_rfl⟩
instance : FN Tryd.prog 32 := ⟨Tryd.f32, Tryd.func32, by kernel_rfl, by kernel_rfl⟩
instance : FN Tryd.prog 33 := ⟨Tryd.f33, Tryd.func33, by kernel_rfl, by kernel_rfl⟩
instance : FN Tryd.prog 34 := ⟨Tryd.f34, Tryd.func34, by kernel_rfl, by kernel_rfl⟩
instance : FN Tryd.prog 35 := ⟨Tryd.f35, Tryd.func35, by kernel_rfl, by kernel_rfl⟩
instance : FN Tryd.prog 36 := ⟨Tryd.f36, Tryd.func36, by kernel_rfl, by kernel_rfl⟩
instance : FN Tryd.prog 37 := ⟨Tryd.f37, Tryd.func37, by kernel_rfl, by kernel_rfl⟩
instance : FN Tryd.prog 38 := ⟨Tryd.f38, Tryd.func38, by kernel_rfl, by kernel_rfl⟩
instance : FN Tryd.prog 39 := ⟨Tryd.f39, Tryd.func39, by kernel_rfl, by kernel_rfl⟩
instance : FN Tryd.prog 40 := ⟨Tryd.f40, Tryd.func40, by kernel_rfl, by kernel_rfl⟩
instance : FN Tryd.prog 41 := ⟨Tryd.f41, Tryd.func41, by kernel_rfl, by kernel_rfl⟩
instance : FN Tryd.prog 42 := ⟨Tryd.f42, Tryd.func42, by kernel_rfl, by kernel_rfl⟩
instance : FN Tryd.prog 43 := ⟨Tryd.f43, Tryd.func43, by kernel_rfl, by kernel_rfl⟩
instance : FN Tryd.prog 44 := ⟨Tryd.f44, Tryd.func44, by kernel_rfl, by kernel_rfl⟩
instance : FN Tryd.prog 45 := ⟨Tryd.f45, Tryd.func45, by kernel_rfl, by kernel_rfl⟩
instance : FN Tryd.prog 46 := ⟨Tryd.f46, Tryd.func46, by kernel_rfl, by kernel_rfl⟩
instance : FN Tryd.prog 47 := ⟨Tryd.f47, Tryd.func47, by kernel_rfl, by kernel_rfl⟩
instance : FN Tryd.prog 48 := ⟨Tryd.f48, Tryd.func48, by kernel_rfl, by kernel_rfl⟩
instance : FN Tryd.prog 49 := ⟨Tryd.f49, Tryd.func49, by kernel_rfl, by kernel_rfl⟩
instance : FN Tryd.prog 50 := ⟨Tryd.f50, Tryd.func50, by kernel_rfl, by kernel_rfl⟩
instance : FN Tryd.prog 51 := ⟨Tryd.f51, Tryd.func51, by kernel_rfl, by kernel_rfl⟩
instance : FN Tryd.prog 52 := ⟨Tryd.f52, Tryd.func52, by kernel_rfl, by kernel_rfl⟩
instance : FN Tryd.prog 53 := ⟨Tryd.f53, Tryd.func53, by kernel_rfl, by kernel_rfl⟩
instance : FN Tryd.prog 54 := ⟨Tryd.f54, Tryd.func54, by kernel_rfl, by kernel_rfl⟩
instance : FN Tryd.prog 55 := ⟨Tryd.f55, Tryd.func55, by kernel_rfl, by kernel_rfl⟩
instance : FN Tryd.prog 56 := ⟨Tryd.f56, Tryd.func56, by kernel_rfl, by kernel_rfl⟩
instance : FN Tryd.prog 57 := ⟨Tryd.f57, Tryd.func57, by kernel_rfl, by kernel_rfl⟩
instance : FN Tryd.prog 58 := ⟨Tryd.f58, Tryd.func58, by kernel_rfl, by kernel_rfl⟩
instance : FN Tryd.prog 59 := ⟨Tryd.f59, Tryd.func59, by kernel_rfl, by kernel_rfl⟩
instance : FN Tryd.prog 60 := ⟨Tryd.f60, Tryd.func60, by kernel_rfl, by kernel_rfl⟩
instance : FN Tryd.prog 61 := ⟨Tryd.f61, Tryd.func61, by kernel_rfl, by kernel_rfl⟩
instance : FN Tryd.prog 62 := ⟨Tryd.f62, Tryd.func62, by kernel_rfl, by kernel_rfl⟩
instance : FN Tryd.prog 63 := ⟨Tryd.f63, Tryd.func63, by kernel_rfl, by kernel_rfl⟩
instance : FN Tryd.prog 64 := ⟨Tryd.f64, Tryd.func64, by kernel_rfl, by kernel_rfl⟩
instance : FN Tryd.prog 65 := ⟨Tryd.f65, Tryd.func65, by kernel_rfl, by kernel_rfl⟩
instance : FN Tryd.prog 66 := ⟨Tryd.f66, Tryd.func66, by kernel_rfl, by kernel_rfl⟩
instance : FN Tryd.prog 67 := ⟨Tryd.f67, Tryd.func67, by kernel_rfl, by kernel_rfl⟩
instance : FN Tryd.prog 68 := ⟨Tryd.f68, Tryd.func68, by kernel_rfl, by kernel_rfl⟩
instance : FN Tryd.prog 69 := ⟨Tryd.f69, Tryd.func69, by kernel_rfl, by kernel_rfl⟩
instance : FN Tryd.prog 70 := ⟨Tryd.f70, Tryd.func70, by kernel_rfl, by kernel_rfl⟩
instance : FN Tryd.prog 71 := ⟨Tryd.f71, Tryd.func71, by kernel_rfl, by kernel_rfl⟩
instance : FN Tryd.prog 72 := ⟨Tryd.f72, Tryd.func72, by kernel_rfl, by kernel_rfl⟩
instance : FN Tryd.prog 73 := ⟨Tryd.f73, Tryd.func73, by kernel_rfl, by kernel_rfl⟩
instance : FN Tryd.prog 74 := ⟨Tryd.f74, Tryd.func74, by kernel_rfl, by kernel_rfl⟩
instance : FN Tryd.prog 75 := ⟨Tryd.f75, Tryd.func75, by kernel_rfl, by kernel_rfl⟩
instance : FN Tryd.prog 76 := ⟨Tryd.f76, Tryd.func76, by kernel_rfl, by kernel_rfl⟩
instance : FN Tryd.prog 77 := ⟨Tryd.f77, Tryd.func77, by kernel_rfl, by kernel_rfl⟩
instance : FN Tryd.prog 78 := ⟨Tryd.f78, Tryd.func78, by kernel_rfl, by kernel_rfl⟩
instance : FN Tryd.prog 79 := ⟨Tryd.f79, Tryd.func79, by kernel_rfl, by kernel_rfl⟩
instance : FN Tryd.prog 80 := ⟨Tryd.f80, Tryd.func80, by kernel_rfl, by kernel_rfl⟩
instance : FN Tryd.prog 81 := ⟨Tryd.f81, Tryd.func81, by kernel_rfl, by kernel_rfl⟩
instance : FN Tryd.prog 82 := ⟨Tryd.f82, Tryd.func82, by kernel_rfl, by kernel_rfl⟩
instance : FN Tryd.prog 83 := ⟨Tryd.f83, Tryd.func83, by kernel_rfl, by kernel_rfl⟩
instance : FN Tryd.prog 84 := ⟨Tryd.f84, Tryd.func84, by kernel_rfl, by kernel_rfl⟩
instance : FN Tryd.prog 85 := ⟨Tryd.f85, Tryd.func85, by kernel_rfl, by kernel_rfl⟩
instance : FN Tryd.prog 86 := ⟨Tryd.f86, Tryd.func86, by kernel_rfl, by kernel_rfl⟩
instance : FN Tryd.prog 87 := ⟨Tryd.f87, Tryd.func87, by kernel_rfl, by kernel_rfl⟩
instance : FN Tryd.prog 88 := ⟨Tryd.f88, Tryd.func88, by kernel_rfl, by kernel_rfl⟩
instance : FN Tryd.prog 89 := ⟨Tryd.f89, Tryd.func89, by kernel_rfl, by kernel_rfl⟩
instance : FN Tryd.prog 90 := ⟨Tryd.f90, Tryd.func90, by kernel_rfl, by kernel_rfl⟩
instance : FN Tryd.prog 91 := ⟨Tryd.f91, Tryd.func91, by kernel_rfl, by kernel_rfl⟩
instance : FN Tryd.prog 92 := ⟨Tryd.f92, Tryd.func92, by kernel_rfl, by kernel_rfl⟩
instance : FN Tryd.prog 93 := ⟨Tryd.f93, Tryd.func93, by kernel_rfl, by kernel_rfl⟩
instance : FN Tryd.prog 94 := ⟨Tryd.f94, Tryd.func94, by kernel_rfl, by kernel_rfl⟩
instance : FN Tryd.prog 95 := ⟨Tryd.f95, Tryd.func95, by kernel_rfl, by kernel_rfl⟩
instance : FN Tryd.prog 96 := ⟨Tryd.f96, Tryd.func96, by kernel_rfl, by kernel_rfl⟩
instance : FN Tryd.prog 97 := ⟨Tryd.f97, Tryd.func97, by kernel_rfl, by kernel_rfl⟩
instance : FN Tryd.prog 98 := ⟨Tryd.f98, Tryd.func98, by kernel_rfl, by kernel_rfl⟩
instance : FN Tryd.prog 99 := ⟨Tryd.f99, Tryd.func99, by kernel_rfl, by kernel_rfl⟩
instance : FN Tryd.prog 100 := ⟨Tryd.f100, Tryd.func100, by kernel_rfl, by kernel_rfl⟩
instance : FN Tryd.prog 101 := ⟨Tryd.f101, Tryd.func101, by kernel_rfl, by kernel_rfl⟩
instance : FN Tryd.prog 102 := ⟨Tryd.f102, Tryd.func102, by kernel_rfl, by kernel_rfl⟩
instance : FN Tryd.prog 103 := ⟨Tryd.f103, Tryd.func103, by kernel_rfl, by kernel_rfl⟩
instance : FN Tryd.prog 104 := ⟨Tryd.f104, Tryd.func104, by kernel_rfl, by kernel_rfl⟩
instance : FN Tryd.prog 106 := ⟨Tryd.f106, Tryd.func106, by kernel_rfl, by kernel_rfl⟩
instance : FN Tryd.prog 107 := ⟨Tryd.f107, Tryd.func107, by kernel_rfl, by kernel_rfl⟩
instance : FN Tryd.prog 108 := ⟨Tryd.f108, Tryd.func108, by kernel_rfl, by kernel_rfl⟩
instance : FN Tryd.prog 109 := ⟨Tryd.f109, Tryd.func109, by kernel_rfl, by kernel_rfl⟩
theorem mixed : Tryd.prog.follows .mixedOrders = true := by kernel_rfl
end Go.Proofs.YtcjabnfgkfiajaaDoor
end

section
/- Engine, extras: where more than one thing may come up next. -/
namespace Go.Eng
open Go Go.RowKit
section
variable {P : Program} {ops : Array Oper} {Q : Exit → Act → World → Prop} {N : Nat} {tm : Tm} {A : World → Prop} {listed : Array Bool} {S : World → Prop} {order : List Nat} {fuel : Nat}

/-- number i comes up next -/
def KS (P : Program) (ops : Array Oper) (Q : Exit → Act → World → Prop) (fuel : Nat) (listed : Array Bool) (S : World → Prop) (i : Nat) : Act → World → Prop :=
  fun a w => wpOp P ops Q i (fun a' w' => (waitsAll .any ops i = true ∧ Region.ready .any ops (listed.setIfInBounds i true) = [] ∧ Q .normal a' w') ∨
      ∃ S', (∀ w, S' w → S w) ∧ S' w' ∧ wpAnyG P .any ops Q fuel (listed.setIfInBounds i true) S' a' w') a w

theorem kg_br2 (i j : Nat) (hr : Region.ready .any ops listed = [i, j] := by kernel_rfl) (h1 : KP N (KS P ops Q fuel listed S i) tm A) (h2 : KP N (KS P ops Q fuel listed S j) tm A) : KP N (KG P ops Q (fuel + 1) listed S order) tm A := by
  unfold KP KG at *
  intro a w hs hw _
  refine ⟨fun h => (by rw [h] at hr; cases hr), fun k hk => ?_⟩
  rw [hr] at hk
  simp only [List.mem_cons, List.not_mem_nil, or_false] at hk
  rcases hk with rfl | rfl
  · exact h1 a w hs hw
  · exact h2 a w hs hw
theorem kg_br3 (i j l : Nat) (hr : Region.ready .any ops listed = [i, j, l] := by kernel_rfl) (h1 : KP N (KS P ops Q fuel listed S i) tm A) (h2 : KP N (KS P ops Q fuel listed S j) tm A) (h3 : KP N (KS P ops Q fuel listed S l) tm A) : KP N (KG P ops Q (fuel + 1) listed S order) tm A := by
  unfold KP KG at *
  intro a w hs hw _
  refine ⟨fun h => (by rw [h] at hr; cases hr), fun k hk => ?_⟩
  rw [hr] at hk
  simp only [List.mem_cons, List.not_mem_nil, or_false] at hk
  rcases hk with rfl | rfl | rfl
  · exact h1 a w hs hw
  · exact h2 a w hs hw
  · exact h3 a w hs hw
theorem kg_br4 (i j l m : Nat) (hr : Region.ready .any ops listed = [i, j, l, m] := by kernel_rfl) (h1 : KP N (KS P ops Q fuel listed S i) tm A) (h2 : KP N (KS P ops Q fuel listed S j) tm A) (h3 : KP N (KS P ops Q fuel listed S l) tm A) (h4 : KP N (KS P ops Q fuel listed S m) tm A) : KP N (KG P ops Q (fuel + 1) listed S order) tm A := by
  unfold KP KG at *
  intro a w hs hw _
  refine ⟨fun h => (by rw [h] at hr; cases hr), fun k hk => ?_⟩
  rw [hr] at hk
  simp only [List.mem_cons, List.not_mem_nil, or_false] at hk
  rcases hk with rfl | rfl | rfl | rfl
  · exact h1 a w hs hw
  · exact h2 a w hs hw
  · exact h3 a w hs hw
  · exact h4 a w hs hw
theorem ks_f {i : Nat} {dst : Option Tmp} {op : Op} {ty : TypeId} {pos : String} {aft : Array Edge} (order : List Nat) (S' : World → Prop) (hi : ops[i]? = some ⟨dst, op, ty, pos, aft, none⟩ := by rfl)
    (hSS : ∀ w, S' w → S w := by first | exact fun _ h => h | exact fun _ h => h.tail | exact fun _ h => h.tailB)
    (h : FX P N op dst Q tm A (fun a' w' => S' w' ∧ KG P ops Q fuel (listed.setIfInBounds i true) S' order a' w')) : KP N (KS P ops Q fuel listed S i) tm A := by
  unfold KP KS
  intro a w hs hw
  unfold wpOp
  simp only [hi, Region.wanted]
  refine .inl (Oper.wp_mono (fun a' w' h' => ?_) ((by unfold FX at h; exact h a w ty pos aft none hs hw)))
  obtain ⟨h1, h2⟩ := h'
  unfold KG at h2
  exact .inr ⟨S', hSS, h1, h2 h1⟩
/-- only number i may come up next -/
theorem kg_br1 (i : Nat) (hr : Region.ready .any ops listed = [i] := by kernel_rfl) (h1 : KP N (KS P ops Q fuel listed S i) tm A) : KP N (KG P ops Q (fuel + 1) listed S order) tm A := by
  unfold KP KG at *
  intro a w hs hw _
  refine ⟨fun h => (by rw [h] at hr; cases hr), fun k hk => ?_⟩
  rw [hr] at hk
  simp only [List.mem_cons, List.not_mem_nil, or_false] at hk
  subst hk
  exact h1 a w hs hw
/-- a guarded one that is not called for -/
theorem gx_no {op : Op} {c : Bool} {u : Value} (hc : c = false) : GX P N op tm A c u := by
  unfold GX
  intro h
  rw [hc] at h; cases h
/-- a guarded one that is called for, where nothing else may come up -/
theorem kg_gyes {i j g : Nat} {want b : Bool} {dst : Option Tmp} {op : Op} {ty : TypeId} {pos : String} {aft : Array Edge} (S' : World → Prop) (hi : ops[i]? = some ⟨dst, op, ty, pos, aft, some (j, want)⟩ := by rfl) (hr : Region.ready .any ops listed = [i] := by kernel_rfl)
    (hj : (ops[j]?).bind (·.dst) = some g := by rfl) (hg : lk tm g = some (true, .bool b) := by rfl) (hb : b = want)
    (hSS : ∀ w, S' w → S w := by first | exact fun _ h => h | exact fun _ h => h.tail | exact fun _ h => h.tailB)
    (h : FX P N op dst Q tm A (fun a' w' => S' w' ∧ KG P ops Q fuel (listed.setIfInBounds i true) S' order a' w')) : KP N (KG P ops Q (fuel + 1) listed S (i :: order)) tm A := by
  unfold KP KG
  intro a w hs hw _
  have hy := yields_bool (ops := ops) hs hj hg
  refine ⟨fun h => (by rw [h] at hr; cases hr), fun k hk => ?_⟩
  rw [hr, List.mem_singleton] at hk
  subst hk
  unfold wpOp
  simp only [hi, Region.wanted, hy, if_true, hb, beq_self_eq_true]
  refine .inl (Oper.wp_mono (fun a' w' h' => ?_) ((by unfold FX at h; exact h a w ty pos aft _ hs hw)))
  obtain ⟨h1, h2⟩ := h'
  unfold KG at h2
  exact .inr ⟨S', hSS, h1, h2 h1⟩
end
/-- the ways meet again, the sequence being entered -/
theorem wc_cutA {P : Program} {N : Nat} {Q Q' : Exit → Act → World → Prop} {tm : Tm} {A : World → Prop} {x y : Code} {σ : Type} (J : σ → Prop) (T : σ → Tm) (I : σ → World → Prop)
    (h : WC P N x (Exit.then (CQ N J T I) Q') tm A) (hy : ∀ s, J s → WC P N y Q (T s) (I s)) : WC P N x (Exit.then (fun a w => y.wp P Q a w) Q') tm A := by
  unfold WC KP at *
  intro a w hs hw
  refine wp_mono (h a w hs hw) fun e a' w' q => ?_
  cases e with
  | normal =>
    have q' : CQ N J T I a' w' := q
    unfold CQ at q'
    obtain ⟨s, hJ, hsim, hI⟩ := q'
    exact hy s hJ a' w' hsim hI
  | _ => exact q
attribute [irreducible] KS
section
variable {P : Program} {N : Nat} {tm : Tm} {A : World → Prop} {c : Bool}
/-- an array in a variable -/
theorem qy_index_abox {t e sz b len bb off n : Nat} {z : Value} {k : IntKind} {x y : Operand} [ht : TAr P t len e] [hE : TE P e sz b z] (hx : EV tm c x (.pointer (some ⟨bb, off, none⟩))) (hy : EV tm c y (.int k (n : Int)))
    (hb : c = true → n < len) : QY P N (.indexAddr t x y) tm A c (.pointer (some ⟨bb, off + n * sz, none⟩)) := by
  unfold QY
  intro hc a w _ _ _ _ _ hsim hw
  simp only [execOp, hy.get hsim hc, hx.get hsim hc]
  refine run_v ?_
  obtain ⟨i, hi, his, _⟩ := hE.h
  subst his
  have h0 : (0 : Int) ≤ (n : Int) ∧ (n : Int) < len := ⟨by omega, by have := hb hc; omega⟩
  show (Instr.indexAt t (.pointer (some ⟨bb, off, none⟩)) (.int k (n : Int))).run P w = _
  rcases Nat.eq_zero_or_pos n with rfl | hn
  · simp [Instr.indexAt, asIntOf, run_underlying ht.h, Instr.sureAddr, hb hc, sizeOf, typeInfo, hi, Addr.add]
  · by_cases hs : i.size = 0
    · simp [Instr.indexAt, asIntOf, run_underlying ht.h, Instr.sureAddr, hb hc, sizeOf, typeInfo, hi, Addr.add, hs]
    · simp [Instr.indexAt, asIntOf, run_underlying ht.h, Instr.sureAddr, hb hc, sizeOf, typeInfo, hi, Addr.add, hs, show ¬ n = 0 from by omega]
/-- '%' of what is not negative, whatever it is written as -/
theorem qy_remI {t t' : TypeId} {x y : Operand} {m n : Int} (a b : Nat) (hx : EV tm true x (.int .i64 m) := by exact ⟨_, rfl, fun _ => rfl⟩) (hy : EV tm true y (.int .i64 n) := by exact ⟨_, rfl, fun _ => rfl⟩) (hm : m = (a : Int)) (hn : n = (b : Int)) (hb : 0 < b) : QY P N (.binOp .rem t x y t') tm A true (.int .i64 ((a % b : Nat) : Int)) := by
  subst hm; subst hn
  exact qy_rem hx hy (fun _ => hb)
theorem qy_val {op : Op} {v v' : Value} (h : QY P N op tm A c v') (e : v' = v) : QY P N op tm A c v := e ▸ h
/-- in whichever of some worlds -/
theorem qy_ex {σ : Type} {A : σ → World → Prop} {op : Op} {v : Value} (h : ∀ s, QY P N op tm (A s) c v) : QY P N op tm (fun w => ∃ s, A s w) c v := by
  unfold QY
  intro hc a w d ty pos aft g hs ⟨s, hw⟩
  have h' := h s
  unfold QY at h'
  exact h' hc a w d ty pos aft g hs hw
/-- 'v[l:]', l an integer -/
theorem qy_subLi {τ : Type} {S : Nat → Prop} {B : World} {bs : List Base} {H : List Ent} {enc : τ → List Value} {sz t e b : Nat} {z v : Value} {l : Int} {xs : List τ} {x y : Operand} [ht : TSl P t e] [hE : TE P e sz b z]
    (hx : EV tm c x v := by first | exact ⟨_, rfl, fun _ => rfl⟩ | exact ⟨_, rfl, fun h => h⟩ | exact ⟨_, rfl, and_l⟩) (hy : EV tm c y (.int .i64 l) := by first | exact ⟨_, rfl, fun _ => rfl⟩ | exact ⟨_, rfl, fun h => h⟩ | exact ⟨_, rfl, and_l⟩) (h : Sl S B enc sz v xs) (h0 : 0 ≤ l) (hb : l.toNat ≤ xs.length) : QY P N (.slice t x (some y) none none) tm (Mem bs H) c (subV sz l.toNat xs.length v) := by
  obtain ⟨m, rfl⟩ : ∃ m : Nat, l = m := ⟨l.toNat, by omega⟩
  exact qy_subL hx hy h (fun _ => by simpa using hb)
end
end Go.Eng
end
