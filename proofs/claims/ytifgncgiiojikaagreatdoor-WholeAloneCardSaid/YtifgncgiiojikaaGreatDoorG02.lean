import Derived.Test.YtifgncgiiojikaaGreatDoorG01
import Derived.Test.YtifgncgiiojikaaGreatDoorProg
import Derived.KernelRfl
set_option linter.unusedSimpArgs false
set_option linter.unusedVariables false
section
/- What the elements of slices are in Lean: codes into cells, and back. -/
namespace Go.Eng
open Go

def toI : Value → Int | .int _ n => n | _ => 0
def toB : Value → Bool | .bool b => b | _ => false
def toT : Value → ByteArray | .string s => s | _ => ByteArray.empty

def encI (n : Int) : List Value := [.int .i64 n]
def decI : List Value → Int | [v] => toI v | _ => 0
def encW (x : BitVec 64) : List Value := [u64 x]
def toW (v : Value) : BitVec 64 := BitVec.ofInt 64 (toI v)
def decW : List Value → BitVec 64 | [v] => toW v | _ => 0
def encB (b : Bool) : List Value := [.bool b]
def decB : List Value → Bool | [v] => toB v | _ => false
def encT (s : ByteArray) : List Value := [.string s]
def decT : List Value → ByteArray | [v] => toT v | _ => ByteArray.empty
def encV (v : Value) : List Value := [v]
def decV : List Value → Value | [v] => v | _ => .nilIface

def encU8 (n : Nat) : List Value := [.int .u8 (n : Int)]
def decU8 : List Value → Nat | [v] => (toI v).toNat | _ => 0

structure Pair where
  A : Int
  B : Int
  deriving DecidableEq, Inhabited
def encPair (p : Pair) : List Value := [.int .i64 p.A, .int .i64 p.B]
def decPair : List Value → Pair | [a, b] => ⟨toI a, toI b⟩ | _ => ⟨0, 0⟩

instance : Enc encI 1 := ⟨fun _ => rfl, by decide⟩
instance : Enc encW 1 := ⟨fun _ => rfl, by decide⟩
instance : Enc encB 1 := ⟨fun _ => rfl, by decide⟩
instance : Enc encT 1 := ⟨fun _ => rfl, by decide⟩
instance : Enc encV 1 := ⟨fun _ => rfl, by decide⟩
instance : Enc encU8 1 := ⟨fun _ => rfl, by decide⟩
instance : Enc encPair 2 := ⟨fun _ => rfl, by decide⟩
instance : EncOne encI (fun _ => True) := ⟨fun _ _ u hu => by simp [encI] at hu; subst hu; rfl⟩
instance : EncOne encW (fun _ => True) := ⟨fun _ _ u hu => by simp [encW] at hu; subst hu; rfl⟩
instance : EncOne encB (fun _ => True) := ⟨fun _ _ u hu => by simp [encB] at hu; subst hu; rfl⟩
instance : EncOne encT (fun _ => True) := ⟨fun _ _ u hu => by simp [encT] at hu; subst hu; rfl⟩
instance : EncOne encV (fun v => v.oneCell' = true) := ⟨fun _ h u hu => by simp [encV] at hu; subst hu; exact h⟩
instance : EncOne encPair (fun _ => True) := ⟨fun _ _ u hu => by simp [encPair] at hu; rcases hu with rfl | rfl <;> rfl⟩

structure Ev where
  thread : Int
  place : Int
  dir : Int
  loc : Int
  value : Int
  reg : Int
  deriving DecidableEq, Inhabited
def encEv (e : Ev) : List Value := [.int .i64 e.thread, .int .i64 e.place, .int .i64 e.dir, .int .i64 e.loc, .int .i64 e.value, .int .i64 e.reg]
def decEv : List Value → Ev | [a, b, c, d, e, f] => ⟨toI a, toI b, toI c, toI d, toI e, toI f⟩ | _ => ⟨0, 0, 0, 0, 0, 0⟩
structure Bar where
  thread : Int
  place : Int
  fence : Int
  deriving DecidableEq, Inhabited
def encBar (e : Bar) : List Value := [.int .i64 e.thread, .int .i64 e.place, .int .i64 e.fence]
def decBar : List Value → Bar | [a, b, c] => ⟨toI a, toI b, toI c⟩ | _ => ⟨0, 0, 0⟩
structure Thing where
  thread : Int
  reg : Int
  loc : ByteArray
  deriving DecidableEq, Inhabited
def encThing (e : Thing) : List Value := [.int .i64 e.thread, .int .i64 e.reg, .string e.loc]
def decThing : List Value → Thing | [a, b, c] => ⟨toI a, toI b, toT c⟩ | _ => ⟨0, 0, ByteArray.empty⟩
structure EndT where
  kind : Int
  n : Int
  deriving DecidableEq, Inhabited
def encEnd (e : EndT) : List Value := [.int .i64 e.kind, .int .i64 e.n]
def decEnd : List Value → EndT | [a, b] => ⟨toI a, toI b⟩ | _ => ⟨0, 0⟩
structure Arc where
  src : Int
  dst : Int
  kind : Int
  deriving DecidableEq, Inhabited
def encArc (e : Arc) : List Value := [.int .i64 e.src, .int .i64 e.dst, .int .i64 e.kind]
def decArc : List Value → Arc | [a, b, c] => ⟨toI a, toI b, toI c⟩ | _ => ⟨0, 0, 0⟩

instance : Enc encEv 6 := ⟨fun _ => rfl, by decide⟩
instance : Enc encBar 3 := ⟨fun _ => rfl, by decide⟩
instance : Enc encThing 3 := ⟨fun _ => rfl, by decide⟩
instance : Enc encEnd 2 := ⟨fun _ => rfl, by decide⟩
instance : Enc encArc 3 := ⟨fun _ => rfl, by decide⟩
instance : EncOne encEv (fun _ => True) := ⟨fun _ _ u hu => by simp [encEv] at hu; rcases hu with rfl | rfl | rfl | rfl | rfl | rfl <;> rfl⟩
instance : EncOne encBar (fun _ => True) := ⟨fun _ _ u hu => by simp [encBar] at hu; rcases hu with rfl | rfl | rfl <;> rfl⟩
instance : EncOne encThing (fun _ => True) := ⟨fun _ _ u hu => by simp [encThing] at hu; rcases hu with rfl | rfl | rfl <;> rfl⟩
instance : EncOne encEnd (fun _ => True) := ⟨fun _ _ u hu => by simp [encEnd] at hu; rcases hu with rfl | rfl <;> rfl⟩
instance : EncOne encArc (fun _ => True) := ⟨fun _ _ u hu => by simp [encArc] at hu; rcases hu with rfl | rfl | rfl <;> rfl⟩

theorem toW_u64 (x : BitVec 64) : toW (u64 x) = x := by simp [toW, toI, u64]

end Go.Eng
end

section
/- The facts on the seat's types and functions that the engine asks for: printed by wip/mkty.py. -/
namespace Go.Proofs.YtifgncgiiojikaaGreatDoor
open Go Go.Eng

instance : T1 Tryz.prog 1 := .of Tryz.underlying1 rfl
instance : TE Tryz.prog 1 1 8 (.nilFunc) := .of (by kernel_rfl)
instance : TU Tryz.prog 2 (.int .i64) := ⟨Tryz.underlying2⟩
instance : T1 Tryz.prog 2 := .of Tryz.underlying2 rfl
instance : TE Tryz.prog 2 1 8 (.int .i64 0) := .of (by kernel_rfl)
instance : EncOf Tryz.prog 2 encI decI := ⟨trivial⟩
instance : TU Tryz.prog 3 (.int .i64) := ⟨Tryz.underlying3⟩
instance : T1 Tryz.prog 3 := .of Tryz.underlying3 rfl
instance : TE Tryz.prog 3 1 8 (.int .i64 0) := .of (by kernel_rfl)
instance : EncOf Tryz.prog 3 encI decI := ⟨trivial⟩
instance : TU Tryz.prog 4 (.bool) := ⟨Tryz.underlying4⟩
instance : T1 Tryz.prog 4 := .of Tryz.underlying4 rfl
instance : TE Tryz.prog 4 1 1 (.bool false) := .of (by kernel_rfl)
instance : EncOf Tryz.prog 4 encB decB := ⟨trivial⟩
instance : TU Tryz.prog 5 (.int .u8) := ⟨Tryz.underlying5⟩
instance : T1 Tryz.prog 5 := .of Tryz.underlying5 rfl
instance : TE Tryz.prog 5 1 1 (.int .u8 0) := .of (by kernel_rfl)
instance : EncOf Tryz.prog 5 encU8 decU8 := ⟨trivial⟩
instance : TN Tryz.prog 7 4 := .of Tryz.underlying7 rfl (by kernel_rfl)
instance : TE Tryz.prog 7 4 24 (.agg #[.int .i64 0, .int .i64 0, .bool false, .int .u8 0]) := .of (by kernel_rfl)
instance : TF Tryz.prog 7 0 0 := .of (n := 0) Tryz.underlying7 rfl rfl (by kernel_rfl)
instance : TF Tryz.prog 7 1 1 := .of (n := 0) Tryz.underlying7 rfl rfl (by kernel_rfl)
instance : TF Tryz.prog 7 2 2 := .of (n := 0) Tryz.underlying7 rfl rfl (by kernel_rfl)
instance : TF Tryz.prog 7 3 3 := .of (n := 0) Tryz.underlying7 rfl rfl (by kernel_rfl)
instance : TP Tryz.prog 7 (.agg #[.int .i64 0, .int .i64 0, .bool false, .int .u8 0]) [(0, 1), (1, 1), (2, 1), (3, 1)] := .of Tryz.underlying7 (by kernel_rfl) (by kernel_rfl)
instance : TU Tryz.prog 9 (.string) := ⟨Tryz.underlying9⟩
instance : T1 Tryz.prog 9 := .of Tryz.underlying9 rfl
instance : TE Tryz.prog 9 1 16 (.string ByteArray.empty) := .of (by kernel_rfl)
instance : EncOf Tryz.prog 9 encT decT := ⟨trivial⟩
instance : TU Tryz.prog 12 (.int .u64) := ⟨Tryz.underlying12⟩
instance : T1 Tryz.prog 12 := .of Tryz.underlying12 rfl
instance : TE Tryz.prog 12 1 8 (.int .u64 0) := .of (by kernel_rfl)
instance : EncOf Tryz.prog 12 encW decW := ⟨trivial⟩
instance : TN Tryz.prog 13 2 := .of Tryz.underlying13 rfl (by kernel_rfl)
instance : TE Tryz.prog 13 2 24 (.agg #[.string ByteArray.empty, .int .u64 0]) := .of (by kernel_rfl)
instance : TF Tryz.prog 13 0 0 := .of (n := 0) Tryz.underlying13 rfl rfl (by kernel_rfl)
instance : TF Tryz.prog 13 1 1 := .of (n := 0) Tryz.underlying13 rfl rfl (by kernel_rfl)
instance : TP Tryz.prog 13 (.agg #[.string ByteArray.empty, .int .u64 0]) [(0, 1), (1, 1)] := .of Tryz.underlying13 (by kernel_rfl) (by kernel_rfl)
instance : T1 Tryz.prog 17 := .of Tryz.underlying17 rfl
instance : TE Tryz.prog 17 1 8 (.pointer none) := .of (by kernel_rfl)
instance : EncOf Tryz.prog 17 encV decV := ⟨trivial⟩
instance : TN Tryz.prog 18 1 := .of Tryz.underlying18 rfl (by kernel_rfl)
instance : TE Tryz.prog 18 1 8 (.agg #[.pointer none]) := .of (by kernel_rfl)
instance : TF Tryz.prog 18 0 0 := .of (n := 0) Tryz.underlying18 rfl rfl (by kernel_rfl)
instance : TP Tryz.prog 18 (.agg #[.pointer none]) [(0, 1)] := .of Tryz.underlying18 (by kernel_rfl) (by kernel_rfl)
instance : T1 Tryz.prog 20 := .of Tryz.underlying20 rfl
instance : TE Tryz.prog 20 1 16 (.nilIface) := .of (by kernel_rfl)
instance : EncOf Tryz.prog 20 encV decV := ⟨trivial⟩
instance : TU Tryz.prog 21 (.int .i32) := ⟨Tryz.underlying21⟩
instance : T1 Tryz.prog 21 := .of Tryz.underlying21 rfl
instance : TE Tryz.prog 21 1 4 (.int .i32 0) := .of (by kernel_rfl)
instance : TU Tryz.prog 22 (.slice 9) := ⟨Tryz.underlying22⟩
instance : T1 Tryz.prog 22 := .of Tryz.underlying22 rfl
instance : TE Tryz.prog 22 1 24 (.slice none 0 0) := .of (by kernel_rfl)
instance : TSl Tryz.prog 22 9 := ⟨Tryz.underlying22⟩
instance : EncOf Tryz.prog 22 encV decV := ⟨trivial⟩
instance : TU Tryz.prog 23 (.slice 3) := ⟨Tryz.underlying23⟩
instance : T1 Tryz.prog 23 := .of Tryz.underlying23 rfl
instance : TE Tryz.prog 23 1 24 (.slice none 0 0) := .of (by kernel_rfl)
instance : TSl Tryz.prog 23 3 := ⟨Tryz.underlying23⟩
instance : EncOf Tryz.prog 23 encV decV := ⟨trivial⟩
instance : TU Tryz.prog 24 (.slice 36) := ⟨Tryz.underlying24⟩
instance : T1 Tryz.prog 24 := .of Tryz.underlying24 rfl
instance : TE Tryz.prog 24 1 24 (.slice none 0 0) := .of (by kernel_rfl)
instance : TSl Tryz.prog 24 36 := ⟨Tryz.underlying24⟩
instance : EncOf Tryz.prog 24 encV decV := ⟨trivial⟩
instance : TU Tryz.prog 25 (.slice 81) := ⟨Tryz.underlying25⟩
instance : T1 Tryz.prog 25 := .of Tryz.underlying25 rfl
instance : TE Tryz.prog 25 1 24 (.slice none 0 0) := .of (by kernel_rfl)
instance : TSl Tryz.prog 25 81 := ⟨Tryz.underlying25⟩
instance : EncOf Tryz.prog 25 encV decV := ⟨trivial⟩
instance : TU Tryz.prog 26 (.slice 83) := ⟨Tryz.underlying26⟩
instance : T1 Tryz.prog 26 := .of Tryz.underlying26 rfl
instance : TE Tryz.prog 26 1 24 (.slice none 0 0) := .of (by kernel_rfl)
instance : TSl Tryz.prog 26 83 := ⟨Tryz.underlying26⟩
instance : EncOf Tryz.prog 26 encV decV := ⟨trivial⟩
instance : TU Tryz.prog 27 (.slice 50) := ⟨Tryz.underlying27⟩
instance : T1 Tryz.prog 27 := .of Tryz.underlying27 rfl
instance : TE Tryz.prog 27 1 24 (.slice none 0 0) := .of (by kernel_rfl)
instance : TSl Tryz.prog 27 50 := ⟨Tryz.underlying27⟩
instance : EncOf Tryz.prog 27 encV decV := ⟨trivial⟩
instance : TU Tryz.prog 28 (.slice 52) := ⟨Tryz.underlying28⟩
instance : T1 Tryz.prog 28 := .of Tryz.underlying28 rfl
instance : TE Tryz.prog 28 1 24 (.slice none 0 0) := .of (by kernel_rfl)
instance : TSl Tryz.prog 28 52 := ⟨Tryz.underlying28⟩
instance : EncOf Tryz.prog 28 encV decV := ⟨trivial⟩
instance : TN Tryz.prog 29 9 := .of Tryz.underlying29 rfl (by kernel_rfl)
instance : TE Tryz.prog 29 9 216 (.agg #[.slice none 0 0, .slice none 0 0, .slice none 0 0, .slice none 0 0, .slice none 0 0, .slice none 0 0, .slice none 0 0, .slice none 0 0, .slice none 0 0]) := .of (by kernel_rfl)
instance : TF Tryz.prog 29 0 0 := .of (n := 0) Tryz.underlying29 rfl rfl (by kernel_rfl)
instance : TF Tryz.prog 29 1 1 := .of (n := 0) Tryz.underlying29 rfl rfl (by kernel_rfl)
instance : TF Tryz.prog 29 2 2 := .of (n := 0) Tryz.underlying29 rfl rfl (by kernel_rfl)
instance : TF Tryz.prog 29 3 3 := .of (n := 0) Tryz.underlying29 rfl rfl (by kernel_rfl)
instance : TF Tryz.prog 29 4 4 := .of (n := 0) Tryz.underlying29 rfl rfl (by kernel_rfl)
instance : TF Tryz.prog 29 5 5 := .of (n := 0) Tryz.underlying29 rfl rfl (by kernel_rfl)
instance : TF Tryz.prog 29 6 6 := .of (n := 0) Tryz.underlying29 rfl rfl (by kernel_rfl)
instance : TF Tryz.prog 29 7 7 := .of (n := 0) Tryz.underlying29 rfl rfl (by kernel_rfl)
instance : TF Tryz.prog 29 8 8 := .of (n := 0) Tryz.underlying29 rfl rfl (by kernel_rfl)
instance : TP Tryz.prog 29 (.agg #[.slice none 0 0, .slice none 0 0, .slice none 0 0, .slice none 0 0, .slice none 0 0, .slice none 0 0, .slice none 0 0, .slice none 0 0, .slice none 0 0]) [(0, 1), (1, 1), (2, 1), (3, 1), (4, 1), (5, 1), (6, 1), (7, 1), (8, 1)] := .of Tryz.underlying29 (by kernel_rfl) (by kernel_rfl)
instance : TN Tryz.prog 30 9 := .of Tryz.underlying30 rfl (by kernel_rfl)
instance : TE Tryz.prog 30 9 216 (.agg #[.slice none 0 0, .slice none 0 0, .slice none 0 0, .slice none 0 0, .slice none 0 0, .slice none 0 0, .slice none 0 0, .slice none 0 0, .slice none 0 0]) := .of (by kernel_rfl)
instance : TF Tryz.prog 30 0 0 := .of (n := 0) Tryz.underlying30 rfl rfl (by kernel_rfl)
instance : TF Tryz.prog 30 1 1 := .of (n := 0) Tryz.underlying30 rfl rfl (by kernel_rfl)
instance : TF Tryz.prog 30 2 2 := .of (n := 0) Tryz.underlying30 rfl rfl (by kernel_rfl)
instance : TF Tryz.prog 30 3 3 := .of (n := 0) Tryz.underlying30 rfl rfl (by kernel_rfl)
instance : TF Tryz.prog 30 4 4 := .of (n := 0) Tryz.underlying30 rfl rfl (by kernel_rfl)
instance : TF Tryz.prog 30 5 5 := .of (n := 0) Tryz.underlying30 rfl rfl (by kernel_rfl)
instance : TF Tryz.prog 30 6 6 := .of (n := 0) Tryz.underlying30 rfl rfl (by kernel_rfl)
instance : TF Tryz.prog 30 7 7 := .of (n := 0) Tryz.underlying30 rfl rfl (by kernel_rfl)
instance : TF Tryz.prog 30 8 8 := .of (n := 0) Tryz.underlying30 rfl rfl (by kernel_rfl)
instance : TP Tryz.prog 30 (.agg #[.slice none 0 0, .slice none 0 0, .slice none 0 0, .slice none 0 0, .slice none 0 0, .slice none 0 0, .slice none 0 0, .slice none 0 0, .slice none 0 0]) [(0, 1), (1, 1), (2, 1), (3, 1), (4, 1), (5, 1), (6, 1), (7, 1), (8, 1)] := .of Tryz.underlying30 (by kernel_rfl) (by kernel_rfl)
instance : TU Tryz.prog 31 (.slice 23) := ⟨Tryz.underlying31⟩
instance : T1 Tryz.prog 31 := .of Tryz.underlying31 rfl
instance : TE Tryz.prog 31 1 24 (.slice none 0 0) := .of (by kernel_rfl)
instance : TSl Tryz.prog 31 23 := ⟨Tryz.underlying31⟩
instance : EncOf Tryz.prog 31 encV decV := ⟨trivial⟩
instance : TN Tryz.prog 32 2 := .of Tryz.underlying32 rfl (by kernel_rfl)
instance : TE Tryz.prog 32 2 48 (.agg #[.slice none 0 0, .slice none 0 0]) := .of (by kernel_rfl)
instance : TF Tryz.prog 32 0 0 := .of (n := 0) Tryz.underlying32 rfl rfl (by kernel_rfl)
instance : TF Tryz.prog 32 1 1 := .of (n := 0) Tryz.underlying32 rfl rfl (by kernel_rfl)
instance : TP Tryz.prog 32 (.agg #[.slice none 0 0, .slice none 0 0]) [(0, 1), (1, 1)] := .of Tryz.underlying32 (by kernel_rfl) (by kernel_rfl)
instance : TN Tryz.prog 33 2 := .of Tryz.underlying33 rfl (by kernel_rfl)
instance : TE Tryz.prog 33 2 48 (.agg #[.slice none 0 0, .slice none 0 0]) := .of (by kernel_rfl)
instance : TF Tryz.prog 33 0 0 := .of (n := 0) Tryz.underlying33 rfl rfl (by kernel_rfl)
instance : TF Tryz.prog 33 1 1 := .of (n := 0) Tryz.underlying33 rfl rfl (by kernel_rfl)
instance : TP Tryz.prog 33 (.agg #[.slice none 0 0, .slice none 0 0]) [(0, 1), (1, 1)] := .of Tryz.underlying33 (by kernel_rfl) (by kernel_rfl)
instance : T1 Tryz.prog 34 := .of Tryz.underlying34 rfl
instance : TE Tryz.prog 34 1 8 (.nilFunc) := .of (by kernel_rfl)
instance : TN Tryz.prog 35 6 := .of Tryz.underlying35 rfl (by kernel_rfl)
instance : TE Tryz.prog 35 6 48 (.agg #[.int .i64 0, .int .i64 0, .int .i64 0, .int .i64 0, .int .i64 0, .int .i64 0]) := .of (by kernel_rfl)
instance : TF Tryz.prog 35 0 0 := .of (n := 0) Tryz.underlying35 rfl rfl (by kernel_rfl)
instance : TF Tryz.prog 35 1 1 := .of (n := 0) Tryz.underlying35 rfl rfl (by kernel_rfl)
instance : TF Tryz.prog 35 2 2 := .of (n := 0) Tryz.underlying35 rfl rfl (by kernel_rfl)
instance : TF Tryz.prog 35 3 3 := .of (n := 0) Tryz.underlying35 rfl rfl (by kernel_rfl)
instance : TF Tryz.prog 35 4 4 := .of (n := 0) Tryz.underlying35 rfl rfl (by kernel_rfl)
instance : TF Tryz.prog 35 5 5 := .of (n := 0) Tryz.underlying35 rfl rfl (by kernel_rfl)
instance : TP Tryz.prog 35 (.agg #[.int .i64 0, .int .i64 0, .int .i64 0, .int .i64 0, .int .i64 0, .int .i64 0]) [(0, 1), (1, 1), (2, 1), (3, 1), (4, 1), (5, 1)] := .of Tryz.underlying35 (by kernel_rfl) (by kernel_rfl)
instance : TN Tryz.prog 36 6 := .of Tryz.underlying36 rfl (by kernel_rfl)
instance : TE Tryz.prog 36 6 48 (.agg #[.int .i64 0, .int .i64 0, .int .i64 0, .int .i64 0, .int .i64 0, .int .i64 0]) := .of (by kernel_rfl)
instance : TF Tryz.prog 36 0 0 := .of (n := 0) Tryz.underlying36 rfl rfl (by kernel_rfl)
instance : TF Tryz.prog 36 1 1 := .of (n := 0) Tryz.underlying36 rfl rfl (by kernel_rfl)
instance : TF Tryz.prog 36 2 2 := .of (n := 0) Tryz.underlying36 rfl rfl (by kernel_rfl)
instance : TF Tryz.prog 36 3 3 := .of (n := 0) Tryz.underlying36 rfl rfl (by kernel_rfl)
instance : TF Tryz.prog 36 4 4 := .of (n := 0) Tryz.underlying36 rfl rfl (by kernel_rfl)
instance : TF Tryz.prog 36 5 5 := .of (n := 0) Tryz.underlying36 rfl rfl (by kernel_rfl)
instance : TP Tryz.prog 36 (.agg #[.int .i64 0, .int .i64 0, .int .i64 0, .int .i64 0, .int .i64 0, .int .i64 0]) [(0, 1), (1, 1), (2, 1), (3, 1), (4, 1), (5, 1)] := .of Tryz.underlying36 (by kernel_rfl) (by kernel_rfl)
instance : EncOf Tryz.prog 36 encEv decEv := ⟨trivial⟩
instance : TU Tryz.prog 37 (.int .i64) := ⟨Tryz.underlying37⟩
instance : T1 Tryz.prog 37 := .of Tryz.underlying37 rfl
instance : TE Tryz.prog 37 1 8 (.int .i64 0) := .of (by kernel_rfl)
instance : EncOf Tryz.prog 37 encI decI := ⟨trivial⟩
instance : T1 Tryz.prog 38 := .of Tryz.underlying38 rfl
instance : TE Tryz.prog 38 1 8 (.nilFunc) := .of (by kernel_rfl)
instance : T1 Tryz.prog 40 := .of Tryz.underlying40 rfl
instance : TE Tryz.prog 40 1 8 (.nilFunc) := .of (by kernel_rfl)
instance : T1 Tryz.prog 41 := .of Tryz.underlying41 rfl
instance : TE Tryz.prog 41 1 8 (.nilFunc) := .of (by kernel_rfl)
instance : T1 Tryz.prog 43 := .of Tryz.underlying43 rfl
instance : TE Tryz.prog 43 1 8 (.nilFunc) := .of (by kernel_rfl)
instance : T1 Tryz.prog 44 := .of Tryz.underlying44 rfl
instance : TE Tryz.prog 44 1 8 (.nilFunc) := .of (by kernel_rfl)
instance : T1 Tryz.prog 45 := .of Tryz.underlying45 rfl
instance : TE Tryz.prog 45 1 8 (.nilFunc) := .of (by kernel_rfl)
instance : T1 Tryz.prog 46 := .of Tryz.underlying46 rfl
instance : TE Tryz.prog 46 1 8 (.nilFunc) := .of (by kernel_rfl)
instance : T1 Tryz.prog 47 := .of Tryz.underlying47 rfl
instance : TE Tryz.prog 47 1 8 (.nilFunc) := .of (by kernel_rfl)
instance : T1 Tryz.prog 48 := .of Tryz.underlying48 rfl
instance : TE Tryz.prog 48 1 8 (.nilFunc) := .of (by kernel_rfl)
instance : TN Tryz.prog 49 3 := .of Tryz.underlying49 rfl (by kernel_rfl)
instance : TE Tryz.prog 49 3 32 (.agg #[.int .i64 0, .int .i64 0, .string ByteArray.empty]) := .of (by kernel_rfl)
instance : TF Tryz.prog 49 0 0 := .of (n := 0) Tryz.underlying49 rfl rfl (by kernel_rfl)
instance : TF Tryz.prog 49 1 1 := .of (n := 0) Tryz.underlying49 rfl rfl (by kernel_rfl)
instance : TF Tryz.prog 49 2 2 := .of (n := 0) Tryz.underlying49 rfl rfl (by kernel_rfl)
instance : TP Tryz.prog 49 (.agg #[.int .i64 0, .int .i64 0, .string ByteArray.empty]) [(0, 1), (1, 1), (2, 1)] := .of Tryz.underlying49 (by kernel_rfl) (by kernel_rfl)
instance : TN Tryz.prog 50 3 := .of Tryz.underlying50 rfl (by kernel_rfl)
instance : TE Tryz.prog 50 3 32 (.agg #[.int .i64 0, .int .i64 0, .string ByteArray.empty]) := .of (by kernel_rfl)
instance : TF Tryz.prog 50 0 0 := .of (n := 0) Tryz.underlying50 rfl rfl (by kernel_rfl)
instance : TF Tryz.prog 50 1 1 := .of (n := 0) Tryz.underlying50 rfl rfl (by kernel_rfl)
instance : TF Tryz.prog 50 2 2 := .of (n := 0) Tryz.underlying50 rfl rfl (by kernel_rfl)
instance : TP Tryz.prog 50 (.agg #[.int .i64 0, .int .i64 0, .string ByteArray.empty]) [(0, 1), (1, 1), (2, 1)] := .of Tryz.underlying50 (by kernel_rfl) (by kernel_rfl)
instance : EncOf Tryz.prog 50 encThing decThing := ⟨trivial⟩
instance : TN Tryz.prog 51 2 := .of Tryz.underlying51 rfl (by kernel_rfl)
instance : TE Tryz.prog 51 2 16 (.agg #[.int .i64 0, .int .i64 0]) := .of (by kernel_rfl)
instance : TF Tryz.prog 51 0 0 := .of (n := 0) Tryz.underlying51 rfl rfl (by kernel_rfl)
instance : TF Tryz.prog 51 1 1 := .of (n := 0) Tryz.underlying51 rfl rfl (by kernel_rfl)
instance : TP Tryz.prog 51 (.agg #[.int .i64 0, .int .i64 0]) [(0, 1), (1, 1)] := .of Tryz.underlying51 (by kernel_rfl) (by kernel_rfl)
instance : TN Tryz.prog 52 2 := .of Tryz.underlying52 rfl (by kernel_rfl)
instance : TE Tryz.prog 52 2 16 (.agg #[.int .i64 0, .int .i64 0]) := .of (by kernel_rfl)
instance : TF Tryz.prog 52 0 0 := .of (n := 0) Tryz.underlying52 rfl rfl (by kernel_rfl)
instance : TF Tryz.prog 52 1 1 := .of (n := 0) Tryz.underlying52 rfl rfl (by kernel_rfl)
instance : TP Tryz.prog 52 (.agg #[.int .i64 0, .int .i64 0]) [(0, 1), (1, 1)] := .of Tryz.underlying52 (by kernel_rfl) (by kernel_rfl)
instance : EncOf Tryz.prog 52 encEnd decEnd := ⟨trivial⟩
instance : T1 Tryz.prog 53 := .of Tryz.underlying53 rfl
instance : TE Tryz.prog 53 1 8 (.nilFunc) := .of (by kernel_rfl)
instance : T1 Tryz.prog 55 := .of Tryz.underlying55 rfl
instance : TE Tryz.prog 55 1 8 (.nilFunc) := .of (by kernel_rfl)
instance : T1 Tryz.prog 56 := .of Tryz.underlying56 rfl
instance : TE Tryz.prog 56 1 8 (.nilFunc) := .of (by kernel_rfl)
instance : T1 Tryz.prog 57 := .of Tryz.underlying57 rfl
instance : TE Tryz.prog 57 1 8 (.nilFunc) := .of (by kernel_rfl)
instance : TU Tryz.prog 58 (.slice 113) := ⟨Tryz.underlying58⟩
instance : T1 Tryz.prog 58 := .of Tryz.underlying58 rfl
instance : TE Tryz.prog 58 1 24 (.slice none 0 0) := .of (by kernel_rfl)
instance : TSl Tryz.prog 58 113 := ⟨Tryz.underlying58⟩
instance : EncOf Tryz.prog 58 encV decV := ⟨trivial⟩
instance : TN Tryz.prog 59 2 := .of Tryz.underlying59 rfl (by kernel_rfl)
instance : TE Tryz.prog 59 2 32 (.agg #[.int .i64 0, .slice none 0 0]) := .of (by kernel_rfl)
instance : TF Tryz.prog 59 0 0 := .of (n := 0) Tryz.underlying59 rfl rfl (by kernel_rfl)
instance : TF Tryz.prog 59 1 1 := .of (n := 0) Tryz.underlying59 rfl rfl (by kernel_rfl)
instance : TP Tryz.prog 59 (.agg #[.int .i64 0, .slice none 0 0]) [(0, 1), (1, 1)] := .of Tryz.underlying59 (by kernel_rfl) (by kernel_rfl)
instance : TN Tryz.prog 60 2 := .of Tryz.underlying60 rfl (by kernel_rfl)
instance : TE Tryz.prog 60 2 32 (.agg #[.int .i64 0, .slice none 0 0]) := .of (by kernel_rfl)
instance : TF Tryz.prog 60 0 0 := .of (n := 0) Tryz.underlying60 rfl rfl (by kernel_rfl)
instance : TF Tryz.prog 60 1 1 := .of (n := 0) Tryz.underlying60 rfl rfl (by kernel_rfl)
instance : TP Tryz.prog 60 (.agg #[.int .i64 0, .slice none 0 0]) [(0, 1), (1, 1)] := .of Tryz.underlying60 (by kernel_rfl) (by kernel_rfl)
instance : TN Tryz.prog 61 18 := .of Tryz.underlying61 rfl (by kernel_rfl)
instance : TE Tryz.prog 61 18 288 (.agg #[.int .i64 0, .slice none 0 0, .int .i64 0, .slice none 0 0, .int .i64 0, .slice none 0 0, .int .i64 0, .slice none 0 0, .int .i64 0, .slice none 0 0, .int .i64 0, .slice none 0 0, .int .i64 0, .slice none 0 0, .int .i64 0, .slice none 0 0, .int .i64 0, .slice none 0 0]) := .of (by kernel_rfl)
instance : TF Tryz.prog 61 0 0 := .of (n := 1) Tryz.underlying61 rfl rfl (by kernel_rfl)
instance : TF Tryz.prog 61 1 2 := .of (n := 1) Tryz.underlying61 rfl rfl (by kernel_rfl)
instance : TF Tryz.prog 61 2 4 := .of (n := 1) Tryz.underlying61 rfl rfl (by kernel_rfl)
instance : TF Tryz.prog 61 3 6 := .of (n := 1) Tryz.underlying61 rfl rfl (by kernel_rfl)
instance : TF Tryz.prog 61 4 8 := .of (n := 1) Tryz.underlying61 rfl rfl (by kernel_rfl)
instance : TF Tryz.prog 61 5 10 := .of (n := 1) Tryz.underlying61 rfl rfl (by kernel_rfl)
instance : TF Tryz.prog 61 6 12 := .of (n := 1) Tryz.underlying61 rfl rfl (by kernel_rfl)
instance : TF Tryz.prog 61 7 14 := .of (n := 1) Tryz.underlying61 rfl rfl (by kernel_rfl)
instance : TF Tryz.prog 61 8 16 := .of (n := 1) Tryz.underlying61 rfl rfl (by kernel_rfl)
instance : TP Tryz.prog 61 (.agg #[.int .i64 0, .slice none 0 0, .int .i64 0, .slice none 0 0, .int .i64 0, .slice none 0 0, .int .i64 0, .slice none 0 0, .int .i64 0, .slice none 0 0, .int .i64 0, .slice none 0 0, .int .i64 0, .slice none 0 0, .int .i64 0, .slice none 0 0, .int .i64 0, .slice none 0 0]) [(0, 2), (2, 2), (4, 2), (6, 2), (8, 2), (10, 2), (12, 2), (14, 2), (16, 2)] := .of Tryz.underlying61 (by kernel_rfl) (by kernel_rfl)
instance : TN Tryz.prog 62 18 := .of Tryz.underlying62 rfl (by kernel_rfl)
instance : TE Tryz.prog 62 18 288 (.agg #[.int .i64 0, .slice none 0 0, .int .i64 0, .slice none 0 0, .int .i64 0, .slice none 0 0, .int .i64 0, .slice none 0 0, .int .i64 0, .slice none 0 0, .int .i64 0, .slice none 0 0, .int .i64 0, .slice none 0 0, .int .i64 0, .slice none 0 0, .int .i64 0, .slice none 0 0]) := .of (by kernel_rfl)
instance : TF Tryz.prog 62 0 0 := .of (n := 1) Tryz.underlying62 rfl rfl (by kernel_rfl)
instance : TF Tryz.prog 62 1 2 := .of (n := 1) Tryz.underlying62 rfl rfl (by kernel_rfl)
instance : TF Tryz.prog 62 2 4 := .of (n := 1) Tryz.underlying62 rfl rfl (by kernel_rfl)
instance : TF Tryz.prog 62 3 6 := .of (n := 1) Tryz.underlying62 rfl rfl (by kernel_rfl)
instance : TF Tryz.prog 62 4 8 := .of (n := 1) Tryz.underlying62 rfl rfl (by kernel_rfl)
instance : TF Tryz.prog 62 5 10 := .of (n := 1) Tryz.underlying62 rfl rfl (by kernel_rfl)
instance : TF Tryz.prog 62 6 12 := .of (n := 1) Tryz.underlying62 rfl rfl (by kernel_rfl)
instance : TF Tryz.prog 62 7 14 := .of (n := 1) Tryz.underlying62 rfl rfl (by kernel_rfl)
instance : TF Tryz.prog 62 8 16 := .of (n := 1) Tryz.underlying62 rfl rfl (by kernel_rfl)
instance : TP Tryz.prog 62 (.agg #[.int .i64 0, .slice none 0 0, .int .i64 0, .slice none 0 0, .int .i64 0, .slice none 0 0, .int .i64 0, .slice none 0 0, .int .i64 0, .slice none 0 0, .int .i64 0, .slice none 0 0, .int .i64 0, .slice none 0 0, .int .i64 0, .slice none 0 0, .int .i64 0, .slice none 0 0]) [(0, 2), (2, 2), (4, 2), (6, 2), (8, 2), (10, 2), (12, 2), (14, 2), (16, 2)] := .of Tryz.underlying62 (by kernel_rfl) (by kernel_rfl)
instance : T1 Tryz.prog 64 := .of Tryz.underlying64 rfl
instance : TE Tryz.prog 64 1 8 (.nilFunc) := .of (by kernel_rfl)
instance : T1 Tryz.prog 65 := .of Tryz.underlying65 rfl
instance : TE Tryz.prog 65 1 8 (.nilFunc) := .of (by kernel_rfl)
instance : TN Tryz.prog 66 29 := .of Tryz.underlying66 rfl (by kernel_rfl)
instance : TE Tryz.prog 66 29 552 (.agg #[.slice none 0 0, .slice none 0 0, .slice none 0 0, .slice none 0 0, .slice none 0 0, .slice none 0 0, .slice none 0 0, .slice none 0 0, .slice none 0 0, .slice none 0 0, .slice none 0 0, .int .i64 0, .slice none 0 0, .int .i64 0, .slice none 0 0, .int .i64 0, .slice none 0 0, .int .i64 0, .slice none 0 0, .int .i64 0, .slice none 0 0, .int .i64 0, .slice none 0 0, .int .i64 0, .slice none 0 0, .int .i64 0, .slice none 0 0, .int .i64 0, .slice none 0 0]) := .of (by kernel_rfl)
instance : TF Tryz.prog 66 0 0 := .of (n := 8) Tryz.underlying66 rfl rfl (by kernel_rfl)
instance : TF Tryz.prog 66 1 9 := .of (n := 1) Tryz.underlying66 rfl rfl (by kernel_rfl)
instance : TF Tryz.prog 66 2 11 := .of (n := 17) Tryz.underlying66 rfl rfl (by kernel_rfl)
instance : TP Tryz.prog 66 (.agg #[.slice none 0 0, .slice none 0 0, .slice none 0 0, .slice none 0 0, .slice none 0 0, .slice none 0 0, .slice none 0 0, .slice none 0 0, .slice none 0 0, .slice none 0 0, .slice none 0 0, .int .i64 0, .slice none 0 0, .int .i64 0, .slice none 0 0, .int .i64 0, .slice none 0 0, .int .i64 0, .slice none 0 0, .int .i64 0, .slice none 0 0, .int .i64 0, .slice none 0 0, .int .i64 0, .slice none 0 0, .int .i64 0, .slice none 0 0, .int .i64 0, .slice none 0 0]) [(0, 9), (9, 2), (11, 18)] := .of Tryz.underlying66 (by kernel_rfl) (by kernel_rfl)
instance : TN Tryz.prog 67 29 := .of Tryz.underlying67 rfl (by kernel_rfl)
instance : TE Tryz.prog 67 29 552 (.agg #[.slice none 0 0, .slice none 0 0, .slice none 0 0, .slice none 0 0, .slice none 0 0, .slice none 0 0, .slice none 0 0, .slice none 0 0, .slice none 0 0, .slice none 0 0, .slice none 0 0, .int .i64 0, .slice none 0 0, .int .i64 0, .slice none 0 0, .int .i64 0, .slice none 0 0, .int .i64 0, .slice none 0 0, .int .i64 0, .slice none 0 0, .int .i64 0, .slice none 0 0, .int .i64 0, .slice none 0 0, .int .i64 0, .slice none 0 0, .int .i64 0, .slice none 0 0]) := .of (by kernel_rfl)
instance : TF Tryz.prog 67 0 0 := .of (n := 8) Tryz.underlying67 rfl rfl (by kernel_rfl)
instance : TF Tryz.prog 67 1 9 := .of (n := 1) Tryz.underlying67 rfl rfl (by kernel_rfl)
instance : TF Tryz.prog 67 2 11 := .of (n := 17) Tryz.underlying67 rfl rfl (by kernel_rfl)
instance : TP Tryz.prog 67 (.agg #[.slice none 0 0, .slice none 0 0, .slice none 0 0, .slice none 0 0, .slice none 0 0, .slice none 0 0, .slice none 0 0, .slice none 0 0, .slice none 0 0, .slice none 0 0, .slice none 0 0, .int .i64 0, .slice none 0 0, .int .i64 0, .slice none 0 0, .int .i64 0, .slice none 0 0, .int .i64 0, .slice none 0 0, .int .i64 0, .slice none 0 0, .int .i64 0, .slice none 0 0, .int .i64 0, .slice none 0 0, .int .i64 0, .slice none 0 0, .int .i64 0, .slice none 0 0]) [(0, 9), (9, 2), (11, 18)] := .of Tryz.underlying67 (by kernel_rfl) (by kernel_rfl)
instance : T1 Tryz.prog 69 := .of Tryz.underlying69 rfl
instance : TE Tryz.prog 69 1 8 (.nilFunc) := .of (by kernel_rfl)
instance : T1 Tryz.prog 70 := .of Tryz.underlying70 rfl
instance : TE Tryz.prog 70 1 8 (.nilFunc) := .of (by kernel_rfl)
instance : T1 Tryz.prog 71 := .of Tryz.underlying71 rfl
instance : TE Tryz.prog 71 1 8 (.pointer none) := .of (by kernel_rfl)
instance : EncOf Tryz.prog 71 encV decV := ⟨trivial⟩
instance : T1 Tryz.prog 73 := .of Tryz.underlying73 rfl
instance : TE Tryz.prog 73 1 8 (.nilFunc) := .of (by kernel_rfl)
instance : T1 Tryz.prog 74 := .of Tryz.underlying74 rfl
instance : TE Tryz.prog 74 1 8 (.nilFunc) := .of (by kernel_rfl)
instance : T1 Tryz.prog 75 := .of Tryz.underlying75 rfl
instance : TE Tryz.prog 75 1 8 (.nilFunc) := .of (by kernel_rfl)
instance : T1 Tryz.prog 76 := .of Tryz.underlying76 rfl
instance : TE Tryz.prog 76 1 8 (.nilFunc) := .of (by kernel_rfl)
instance : T1 Tryz.prog 77 := .of Tryz.underlying77 rfl
instance : TE Tryz.prog 77 1 8 (.nilFunc) := .of (by kernel_rfl)
instance : T1 Tryz.prog 78 := .of Tryz.underlying78 rfl
instance : TE Tryz.prog 78 1 8 (.nilFunc) := .of (by kernel_rfl)
instance : T1 Tryz.prog 79 := .of Tryz.underlying79 rfl
instance : TE Tryz.prog 79 1 8 (.nilFunc) := .of (by kernel_rfl)
instance : TN Tryz.prog 80 3 := .of Tryz.underlying80 rfl (by kernel_rfl)
instance : TE Tryz.prog 80 3 24 (.agg #[.int .i64 0, .int .i64 0, .int .i64 0]) := .of (by kernel_rfl)
instance : TF Tryz.prog 80 0 0 := .of (n := 0) Tryz.underlying80 rfl rfl (by kernel_rfl)
instance : TF Tryz.prog 80 1 1 := .of (n := 0) Tryz.underlying80 rfl rfl (by kernel_rfl)
instance : TF Tryz.prog 80 2 2 := .of (n := 0) Tryz.underlying80 rfl rfl (by kernel_rfl)
instance : TP Tryz.prog 80 (.agg #[.int .i64 0, .int .i64 0, .int .i64 0]) [(0, 1), (1, 1), (2, 1)] := .of Tryz.underlying80 (by kernel_rfl) (by kernel_rfl)
instance : TN Tryz.prog 81 3 := .of Tryz.underlying81 rfl (by kernel_rfl)
instance : TE Tryz.prog 81 3 24 (.agg #[.int .i64 0, .int .i64 0, .int .i64 0]) := .of (by kernel_rfl)
instance : TF Tryz.prog 81 0 0 := .of (n := 0) Tryz.underlying81 rfl rfl (by kernel_rfl)
instance : TF Tryz.prog 81 1 1 := .of (n := 0) Tryz.underlying81 rfl rfl (by kernel_rfl)
instance : TF Tryz.prog 81 2 2 := .of (n := 0) Tryz.underlying81 rfl rfl (by kernel_rfl)
instance : TP Tryz.prog 81 (.agg #[.int .i64 0, .int .i64 0, .int .i64 0]) [(0, 1), (1, 1), (2, 1)] := .of Tryz.underlying81 (by kernel_rfl) (by kernel_rfl)
instance : EncOf Tryz.prog 81 encBar decBar := ⟨trivial⟩
instance : TN Tryz.prog 82 2 := .of Tryz.underlying82 rfl (by kernel_rfl)
instance : TE Tryz.prog 82 2 16 (.agg #[.int .i64 0, .int .i64 0]) := .of (by kernel_rfl)
instance : TF Tryz.prog 82 0 0 := .of (n := 0) Tryz.underlying82 rfl rfl (by kernel_rfl)
instance : TF Tryz.prog 82 1 1 := .of (n := 0) Tryz.underlying82 rfl rfl (by kernel_rfl)
instance : TP Tryz.prog 82 (.agg #[.int .i64 0, .int .i64 0]) [(0, 1), (1, 1)] := .of Tryz.underlying82 (by kernel_rfl) (by kernel_rfl)
instance : TN Tryz.prog 83 2 := .of Tryz.underlying83 rfl (by kernel_rfl)
instance : TE Tryz.prog 83 2 16 (.agg #[.int .i64 0, .int .i64 0]) := .of (by kernel_rfl)
instance : TF Tryz.prog 83 0 0 := .of (n := 0) Tryz.underlying83 rfl rfl (by kernel_rfl)
instance : TF Tryz.prog 83 1 1 := .of (n := 0) Tryz.underlying83 rfl rfl (by kernel_rfl)
instance : TP Tryz.prog 83 (.agg #[.int .i64 0, .int .i64 0]) [(0, 1), (1, 1)] := .of Tryz.underlying83 (by kernel_rfl) (by kernel_rfl)
instance : EncOf Tryz.prog 83 encPair decPair := ⟨trivial⟩
instance : T1 Tryz.prog 84 := .of Tryz.underlying84 rfl
instance : TE Tryz.prog 84 1 8 (.nilFunc) := .of (by kernel_rfl)
instance : T1 Tryz.prog 86 := .of Tryz.underlying86 rfl
instance : TE Tryz.prog 86 1 8 (.nilFunc) := .of (by kernel_rfl)
instance : T1 Tryz.prog 88 := .of Tryz.underlying88 rfl
instance : TE Tryz.prog 88 1 8 (.nilFunc) := .of (by kernel_rfl)
instance : T1 Tryz.prog 89 := .of Tryz.underlying89 rfl
instance : TE Tryz.prog 89 1 8 (.nilFunc) := .of (by kernel_rfl)
instance : T1 Tryz.prog 90 := .of Tryz.underlying90 rfl
instance : TE Tryz.prog 90 1 8 (.nilFunc) := .of (by kernel_rfl)
instance : TU Tryz.prog 91 (.slice 70) := ⟨Tryz.underlying91⟩
instance : T1 Tryz.prog 91 := .of Tryz.underlying91 rfl
instance : TE Tryz.prog 91 1 24 (.slice none 0 0) := .of (by kernel_rfl)
instance : TSl Tryz.prog 91 70 := ⟨Tryz.underlying91⟩
instance : EncOf Tryz.prog 91 encV decV := ⟨trivial⟩
instance : TN Tryz.prog 92 37 := .of Tryz.underlying92 rfl (by kernel_rfl)
instance : TE Tryz.prog 92 37 680 (.agg #[.slice none 0 0, .slice none 0 0, .slice none 0 0, .slice none 0 0, .slice none 0 0, .slice none 0 0, .slice none 0 0, .slice none 0 0, .slice none 0 0, .slice none 0 0, .slice none 0 0, .int .i64 0, .slice none 0 0, .int .i64 0, .slice none 0 0, .int .i64 0, .slice none 0 0, .int .i64 0, .slice none 0 0, .int .i64 0, .slice none 0 0, .int .i64 0, .slice none 0 0, .int .i64 0, .slice none 0 0, .int .i64 0, .slice none 0 0, .int .i64 0, .slice none 0 0, .int .i64 0, .slice none 0 0, .int .i64 0, .slice none 0 0, .int .i64 0, .slice none 0 0, .int .i64 0, .slice none 0 0]) := .of (by kernel_rfl)
instance : TF Tryz.prog 92 0 0 := .of (n := 8) Tryz.underlying92 rfl rfl (by kernel_rfl)
instance : TF Tryz.prog 92 1 9 := .of (n := 1) Tryz.underlying92 rfl rfl (by kernel_rfl)
instance : TF Tryz.prog 92 2 11 := .of (n := 17) Tryz.underlying92 rfl rfl (by kernel_rfl)
instance : TF Tryz.prog 92 3 29 := .of (n := 1) Tryz.underlying92 rfl rfl (by kernel_rfl)
instance : TF Tryz.prog 92 4 31 := .of (n := 1) Tryz.underlying92 rfl rfl (by kernel_rfl)
instance : TF Tryz.prog 92 5 33 := .of (n := 1) Tryz.underlying92 rfl rfl (by kernel_rfl)
instance : TF Tryz.prog 92 6 35 := .of (n := 1) Tryz.underlying92 rfl rfl (by kernel_rfl)
instance : TP Tryz.prog 92 (.agg #[.slice none 0 0, .slice none 0 0, .slice none 0 0, .slice none 0 0, .slice none 0 0, .slice none 0 0, .slice none 0 0, .slice none 0 0, .slice none 0 0, .slice none 0 0, .slice none 0 0, .int .i64 0, .slice none 0 0, .int .i64 0, .slice none 0 0, .int .i64 0, .slice none 0 0, .int .i64 0, .slice none 0 0, .int .i64 0, .slice none 0 0, .int .i64 0, .slice none 0 0, .int .i64 0, .slice none 0 0, .int .i64 0, .slice none 0 0, .int .i64 0, .slice none 0 0, .int .i64 0, .slice none 0 0, .int .i64 0, .slice none 0 0, .int .i64 0, .slice none 0 0, .int .i64 0, .slice none 0 0]) [(0, 9), (9, 2), (11, 18), (29, 2), (31, 2), (33, 2), (35, 2)] := .of Tryz.underlying92 (by kernel_rfl) (by kernel_rfl)
instance : TN Tryz.prog 93 37 := .of Tryz.underlying93 rfl (by kernel_rfl)
instance : TE Tryz.prog 93 37 680 (.agg #[.slice none 0 0, .slice none 0 0, .slice none 0 0, .slice none 0 0, .slice none 0 0, .slice none 0 0, .slice none 0 0, .slice none 0 0, .slice none 0 0, .slice none 0 0, .slice none 0 0, .int .i64 0, .slice none 0 0, .int .i64 0, .slice none 0 0, .int .i64 0, .slice none 0 0, .int .i64 0, .slice none 0 0, .int .i64 0, .slice none 0 0, .int .i64 0, .slice none 0 0, .int .i64 0, .slice none 0 0, .int .i64 0, .slice none 0 0, .int .i64 0, .slice none 0 0, .int .i64 0, .slice none 0 0, .int .i64 0, .slice none 0 0, .int .i64 0, .slice none 0 0, .int .i64 0, .slice none 0 0]) := .of (by kernel_rfl)
instance : TF Tryz.prog 93 0 0 := .of (n := 8) Tryz.underlying93 rfl rfl (by kernel_rfl)
instance : TF Tryz.prog 93 1 9 := .of (n := 1) Tryz.underlying93 rfl rfl (by kernel_rfl)
instance : TF Tryz.prog 93 2 11 := .of (n := 17) Tryz.underlying93 rfl rfl (by kernel_rfl)
instance : TF Tryz.prog 93 3 29 := .of (n := 1) Tryz.underlying93 rfl rfl (by kernel_rfl)
instance : TF Tryz.prog 93 4 31 := .of (n := 1) Tryz.underlying93 rfl rfl (by kernel_rfl)
instance : TF Tryz.prog 93 5 33 := .of (n := 1) Tryz.underlying93 rfl rfl (by kernel_rfl)
instance : TF Tryz.prog 93 6 35 := .of (n := 1) Tryz.underlying93 rfl rfl (by kernel_rfl)
instance : TP Tryz.prog 93 (.agg #[.slice none 0 0, .slice none 0 0, .slice none 0 0, .slice none 0 0, .slice none 0 0, .slice none 0 0, .slice none 0 0, .slice none 0 0, .slice none 0 0, .slice none 0 0, .slice none 0 0, .int .i64 0, .slice none 0 0, .int .i64 0, .slice none 0 0, .int .i64 0, .slice none 0 0, .int .i64 0, .slice none 0 0, .int .i64 0, .slice none 0 0, .int .i64 0, .slice none 0 0, .int .i64 0, .slice none 0 0, .int .i64 0, .slice none 0 0, .int .i64 0, .slice none 0 0, .int .i64 0, .slice none 0 0, .int .i64 0, .slice none 0 0, .int .i64 0, .slice none 0 0, .int .i64 0, .slice none 0 0]) [(0, 9), (9, 2), (11, 18), (29, 2), (31, 2), (33, 2), (35, 2)] := .of Tryz.underlying93 (by kernel_rfl) (by kernel_rfl)
instance : T1 Tryz.prog 94 := .of Tryz.underlying94 rfl
instance : TE Tryz.prog 94 1 8 (.nilFunc) := .of (by kernel_rfl)
instance : T1 Tryz.prog 96 := .of Tryz.underlying96 rfl
instance : TE Tryz.prog 96 1 8 (.nilFunc) := .of (by kernel_rfl)
instance : T1 Tryz.prog 97 := .of Tryz.underlying97 rfl
instance : TE Tryz.prog 97 1 8 (.nilFunc) := .of (by kernel_rfl)
instance : TU Tryz.prog 98 (.slice 60) := ⟨Tryz.underlying98⟩
instance : T1 Tryz.prog 98 := .of Tryz.underlying98 rfl
instance : TE Tryz.prog 98 1 24 (.slice none 0 0) := .of (by kernel_rfl)
instance : TSl Tryz.prog 98 60 := ⟨Tryz.underlying98⟩
instance : EncOf Tryz.prog 98 encV decV := ⟨trivial⟩
instance : T1 Tryz.prog 99 := .of Tryz.underlying99 rfl
instance : TE Tryz.prog 99 1 8 (.nilFunc) := .of (by kernel_rfl)
instance : T1 Tryz.prog 100 := .of Tryz.underlying100 rfl
instance : TE Tryz.prog 100 1 8 (.nilFunc) := .of (by kernel_rfl)
instance : T1 Tryz.prog 102 := .of Tryz.underlying102 rfl
instance : TE Tryz.prog 102 1 8 (.nilFunc) := .of (by kernel_rfl)
instance : TN Tryz.prog 103 2 := .of Tryz.underlying103 rfl (by kernel_rfl)
instance : TE Tryz.prog 103 2 48 (.agg #[.slice none 0 0, .slice none 0 0]) := .of (by kernel_rfl)
instance : TF Tryz.prog 103 0 0 := .of (n := 0) Tryz.underlying103 rfl rfl (by kernel_rfl)
instance : TF Tryz.prog 103 1 1 := .of (n := 0) Tryz.underlying103 rfl rfl (by kernel_rfl)
instance : TP Tryz.prog 103 (.agg #[.slice none 0 0, .slice none 0 0]) [(0, 1), (1, 1)] := .of Tryz.underlying103 (by kernel_rfl) (by kernel_rfl)
instance : TN Tryz.prog 104 2 := .of Tryz.underlying104 rfl (by kernel_rfl)
instance : TE Tryz.prog 104 2 48 (.agg #[.slice none 0 0, .slice none 0 0]) := .of (by kernel_rfl)
instance : TF Tryz.prog 104 0 0 := .of (n := 0) Tryz.underlying104 rfl rfl (by kernel_rfl)
instance : TF Tryz.prog 104 1 1 := .of (n := 0) Tryz.underlying104 rfl rfl (by kernel_rfl)
instance : TP Tryz.prog 104 (.agg #[.slice none 0 0, .slice none 0 0]) [(0, 1), (1, 1)] := .of Tryz.underlying104 (by kernel_rfl) (by kernel_rfl)
instance : T1 Tryz.prog 105 := .of Tryz.underlying105 rfl
instance : TE Tryz.prog 105 1 8 (.nilFunc) := .of (by kernel_rfl)
instance : T1 Tryz.prog 106 := .of Tryz.underlying106 rfl
instance : TE Tryz.prog 106 1 8 (.nilFunc) := .of (by kernel_rfl)
instance : T1 Tryz.prog 108 := .of Tryz.underlying108 rfl
instance : TE Tryz.prog 108 1 8 (.nilFunc) := .of (by kernel_rfl)
instance : T1 Tryz.prog 109 := .of Tryz.underlying109 rfl
instance : TE Tryz.prog 109 1 8 (.nilFunc) := .of (by kernel_rfl)
instance : T1 Tryz.prog 110 := .of Tryz.underlying110 rfl
instance : TE Tryz.prog 110 1 8 (.nilFunc) := .of (by kernel_rfl)
instance : T1 Tryz.prog 111 := .of Tryz.underlying111 rfl
instance : TE Tryz.prog 111 1 8 (.nilFunc) := .of (by kernel_rfl)
instance : T1 Tryz.prog 112 := .of Tryz.underlying112 rfl
instance : TE Tryz.prog 112 1 8 (.nilFunc) := .of (by kernel_rfl)
instance : TU Tryz.prog 113 (.int .u64) := ⟨Tryz.underlying113⟩
instance : T1 Tryz.prog 113 := .of Tryz.underlying113 rfl
instance : TE Tryz.prog 113 1 8 (.int .u64 0) := .of (by kernel_rfl)
instance : EncOf Tryz.prog 113 encW decW := ⟨trivial⟩
instance : T1 Tryz.prog 114 := .of Tryz.underlying114 rfl
instance : TE Tryz.prog 114 1 8 (.nilFunc) := .of (by kernel_rfl)
instance : TU Tryz.prog 115 (.int .u64) := ⟨Tryz.underlying115⟩
instance : T1 Tryz.prog 115 := .of Tryz.underlying115 rfl
instance : TE Tryz.prog 115 1 8 (.int .u64 0) := .of (by kernel_rfl)
instance : EncOf Tryz.prog 115 encW decW := ⟨trivial⟩
instance : T1 Tryz.prog 116 := .of Tryz.underlying116 rfl
instance : TE Tryz.prog 116 1 8 (.nilFunc) := .of (by kernel_rfl)
instance : T1 Tryz.prog 117 := .of Tryz.underlying117 rfl
instance : TE Tryz.prog 117 1 8 (.nilFunc) := .of (by kernel_rfl)
instance : T1 Tryz.prog 118 := .of Tryz.underlying118 rfl
instance : TE Tryz.prog 118 1 8 (.nilFunc) := .of (by kernel_rfl)
instance : T1 Tryz.prog 119 := .of Tryz.underlying119 rfl
instance : TE Tryz.prog 119 1 8 (.nilFunc) := .of (by kernel_rfl)
instance : T1 Tryz.prog 120 := .of Tryz.underlying120 rfl
instance : TE Tryz.prog 120 1 8 (.nilFunc) := .of (by kernel_rfl)
instance : T1 Tryz.prog 121 := .of Tryz.underlying121 rfl
instance : TE Tryz.prog 121 1 8 (.nilFunc) := .of (by kernel_rfl)
instance : T1 Tryz.prog 122 := .of Tryz.underlying122 rfl
instance : TE Tryz.prog 122 1 8 (.nilFunc) := .of (by kernel_rfl)
instance : T1 Tryz.prog 123 := .of Tryz.underlying123 rfl
instance : TE Tryz.prog 123 1 8 (.nilFunc) := .of (by kernel_rfl)
instance : T1 Tryz.prog 124 := .of Tryz.underlying124 rfl
instance : TE Tryz.prog 124 1 8 (.nilFunc) := .of (by kernel_rfl)
instance : EncOf Tryz.prog 124 encV decV := ⟨trivial⟩
instance : T1 Tryz.prog 125 := .of Tryz.underlying125 rfl
instance : TE Tryz.prog 125 1 8 (.nilFunc) := .of (by kernel_rfl)
instance : T1 Tryz.prog 126 := .of Tryz.underlying126 rfl
instance : TE Tryz.prog 126 1 8 (.nilFunc) := .of (by kernel_rfl)
instance : T1 Tryz.prog 127 := .of Tryz.underlying127 rfl
instance : TE Tryz.prog 127 1 8 (.nilFunc) := .of (by kernel_rfl)
instance : T1 Tryz.prog 128 := .of Tryz.underlying128 rfl
instance : TE Tryz.prog 128 1 8 (.nilFunc) := .of (by kernel_rfl)
instance : T1 Tryz.prog 129 := .of Tryz.underlying129 rfl
instance : TE Tryz.prog 129 1 8 (.nilFunc) := .of (by kernel_rfl)
instance : T1 Tryz.prog 130 := .of Tryz.underlying130 rfl
instance : TE Tryz.prog 130 1 8 (.nilFunc) := .of (by kernel_rfl)
instance : T1 Tryz.prog 131 := .of Tryz.underlying131 rfl
instance : TE Tryz.prog 131 1 8 (.nilFunc) := .of (by kernel_rfl)
instance : T1 Tryz.prog 132 := .of Tryz.underlying132 rfl
instance : TE Tryz.prog 132 1 8 (.nilFunc) := .of (by kernel_rfl)
instance : T1 Tryz.prog 133 := .of Tryz.underlying133 rfl
instance : TE Tryz.prog 133 1 8 (.map none) := .of (by kernel_rfl)
instance : EncOf Tryz.prog 133 encV decV := ⟨trivial⟩
instance : T1 Tryz.prog 134 := .of Tryz.underlying134 rfl
instance : TE Tryz.prog 134 1 8 (.nilFunc) := .of (by kernel_rfl)
instance : T1 Tryz.prog 135 := .of Tryz.underlying135 rfl
instance : TE Tryz.prog 135 1 8 (.nilFunc) := .of (by kernel_rfl)
instance : T1 Tryz.prog 136 := .of Tryz.underlying136 rfl
instance : TE Tryz.prog 136 1 8 (.nilFunc) := .of (by kernel_rfl)
instance : T1 Tryz.prog 137 := .of Tryz.underlying137 rfl
instance : TE Tryz.prog 137 1 8 (.nilFunc) := .of (by kernel_rfl)
instance : T1 Tryz.prog 138 := .of Tryz.underlying138 rfl
instance : TE Tryz.prog 138 1 8 (.nilFunc) := .of (by kernel_rfl)
instance : T1 Tryz.prog 139 := .of Tryz.underlying139 rfl
instance : TE Tryz.prog 139 1 8 (.nilFunc) := .of (by kernel_rfl)
instance : T1 Tryz.prog 140 := .of Tryz.underlying140 rfl
instance : TE Tryz.prog 140 1 8 (.nilFunc) := .of (by kernel_rfl)
instance : TN Tryz.prog 141 64 := .of Tryz.underlying141 rfl (by kernel_rfl)
instance : TE Tryz.prog 141 64 64 (.agg #[.int .u8 0, .int .u8 0, .int .u8 0, .int .u8 0, .int .u8 0, .int .u8 0, .int .u8 0, .int .u8 0, .int .u8 0, .int .u8 0, .int .u8 0, .int .u8 0, .int .u8 0, .int .u8 0, .int .u8 0, .int .u8 0, .int .u8 0, .int .u8 0, .int .u8 0, .int .u8 0, .int .u8 0, .int .u8 0, .int .u8 0, .int .u8 0, .int .u8 0, .int .u8 0, .int .u8 0, .int .u8 0, .int .u8 0, .int .u8 0, .int .u8 0, .int .u8 0, .int .u8 0, .int .u8 0, .int .u8 0, .int .u8 0, .int .u8 0, .int .u8 0, .int .u8 0, .int .u8 0, .int .u8 0, .int .u8 0, .int .u8 0, .int .u8 0, .int .u8 0, .int .u8 0, .int .u8 0, .int .u8 0, .int .u8 0, .int .u8 0, .int .u8 0, .int .u8 0, .int .u8 0, .int .u8 0, .int .u8 0, .int .u8 0, .int .u8 0, .int .u8 0, .int .u8 0, .int .u8 0, .int .u8 0, .int .u8 0, .int .u8 0, .int .u8 0]) := .of (by kernel_rfl)
instance : TAr Tryz.prog 141 64 5 := ⟨Tryz.underlying141⟩
instance : T1 Tryz.prog 142 := .of Tryz.underlying142 rfl
instance : TE Tryz.prog 142 1 8 (.nilFunc) := .of (by kernel_rfl)
instance : T1 Tryz.prog 143 := .of Tryz.underlying143 rfl
instance : TE Tryz.prog 143 1 8 (.nilFunc) := .of (by kernel_rfl)
instance : TU Tryz.prog 144 (.int .i64) := ⟨Tryz.underlying144⟩
instance : T1 Tryz.prog 144 := .of Tryz.underlying144 rfl
instance : TE Tryz.prog 144 1 8 (.int .i64 0) := .of (by kernel_rfl)
instance : EncOf Tryz.prog 144 encI decI := ⟨trivial⟩
instance : T1 Tryz.prog 146 := .of Tryz.underlying146 rfl
instance : TE Tryz.prog 146 1 8 (.nilFunc) := .of (by kernel_rfl)
instance : T1 Tryz.prog 147 := .of Tryz.underlying147 rfl
instance : TE Tryz.prog 147 1 8 (.nilFunc) := .of (by kernel_rfl)
instance : T1 Tryz.prog 148 := .of Tryz.underlying148 rfl
instance : TE Tryz.prog 148 1 8 (.nilFunc) := .of (by kernel_rfl)
instance : T1 Tryz.prog 149 := .of Tryz.underlying149 rfl
instance : TE Tryz.prog 149 1 8 (.nilFunc) := .of (by kernel_rfl)
instance : T1 Tryz.prog 150 := .of Tryz.underlying150 rfl
instance : TE Tryz.prog 150 1 8 (.nilFunc) := .of (by kernel_rfl)
instance : TU Tryz.prog 151 (.int .u32) := ⟨Tryz.underlying151⟩
instance : T1 Tryz.prog 151 := .of Tryz.underlying151 rfl
instance : TE Tryz.prog 151 1 4 (.int .u32 0) := .of (by kernel_rfl)
instance : TU Tryz.prog 152 (.int .u64) := ⟨Tryz.underlying152⟩
instance : T1 Tryz.prog 152 := .of Tryz.underlying152 rfl
instance : TE Tryz.prog 152 1 8 (.int .u64 0) := .of (by kernel_rfl)
instance : EncOf Tryz.prog 152 encW decW := ⟨trivial⟩
instance : T1 Tryz.prog 153 := .of Tryz.underlying153 rfl
instance : TE Tryz.prog 153 1 8 (.nilFunc) := .of (by kernel_rfl)
instance : T1 Tryz.prog 154 := .of Tryz.underlying154 rfl
instance : TE Tryz.prog 154 1 8 (.nilFunc) := .of (by kernel_rfl)
instance : T1 Tryz.prog 155 := .of Tryz.underlying155 rfl
instance : TE Tryz.prog 155 1 8 (.nilFunc) := .of (by kernel_rfl)
instance : T1 Tryz.prog 156 := .of Tryz.underlying156 rfl
instance : TE Tryz.prog 156 1 8 (.pointer none) := .of (by kernel_rfl)
instance : EncOf Tryz.prog 156 encV decV := ⟨trivial⟩
instance : T1 Tryz.prog 157 := .of Tryz.underlying157 rfl
instance : TE Tryz.prog 157 1 8 (.nilFunc) := .of (by kernel_rfl)
instance : T1 Tryz.prog 158 := .of Tryz.underlying158 rfl
instance : TE Tryz.prog 158 1 8 (.pointer none) := .of (by kernel_rfl)
instance : EncOf Tryz.prog 158 encV decV := ⟨trivial⟩
instance : T1 Tryz.prog 160 := .of Tryz.underlying160 rfl
instance : TE Tryz.prog 160 1 8 (.nilFunc) := .of (by kernel_rfl)
instance : T1 Tryz.prog 161 := .of Tryz.underlying161 rfl
instance : TE Tryz.prog 161 1 8 (.nilFunc) := .of (by kernel_rfl)
instance : TN Tryz.prog 162 4 := .of Tryz.underlying162 rfl (by kernel_rfl)
instance : TE Tryz.prog 162 4 40 (.agg #[.pointer none, .pointer none, .pointer none, .string ByteArray.empty]) := .of (by kernel_rfl)
instance : TF Tryz.prog 162 0 0 := .of (n := 0) Tryz.underlying162 rfl rfl (by kernel_rfl)
instance : TF Tryz.prog 162 1 1 := .of (n := 0) Tryz.underlying162 rfl rfl (by kernel_rfl)
instance : TF Tryz.prog 162 2 2 := .of (n := 0) Tryz.underlying162 rfl rfl (by kernel_rfl)
instance : TF Tryz.prog 162 3 3 := .of (n := 0) Tryz.underlying162 rfl rfl (by kernel_rfl)
instance : TP Tryz.prog 162 (.agg #[.pointer none, .pointer none, .pointer none, .string ByteArray.empty]) [(0, 1), (1, 1), (2, 1), (3, 1)] := .of Tryz.underlying162 (by kernel_rfl) (by kernel_rfl)
instance : TN Tryz.prog 164 0 := .of Tryz.underlying164 rfl (by kernel_rfl)
instance : TE Tryz.prog 164 0 0 (.agg #[]) := .of (by kernel_rfl)
instance : TAr Tryz.prog 164 0 16 := ⟨Tryz.underlying164⟩
instance : TN Tryz.prog 165 0 := .of Tryz.underlying165 rfl (by kernel_rfl)
instance : TE Tryz.prog 165 0 0 (.agg #[]) := .of (by kernel_rfl)
instance : TP Tryz.prog 165 (.agg #[]) [(0, 0)] := .of Tryz.underlying165 (by kernel_rfl) (by kernel_rfl)
instance : T1 Tryz.prog 167 := .of Tryz.underlying167 rfl
instance : TE Tryz.prog 167 1 8 (.nilFunc) := .of (by kernel_rfl)
instance : T1 Tryz.prog 170 := .of Tryz.underlying170 rfl
instance : TE Tryz.prog 170 1 8 (.nilFunc) := .of (by kernel_rfl)
instance : T1 Tryz.prog 171 := .of Tryz.underlying171 rfl
instance : TE Tryz.prog 171 1 8 (.pointer none) := .of (by kernel_rfl)
instance : EncOf Tryz.prog 171 encV decV := ⟨trivial⟩
instance : TN Tryz.prog 174 11 := .of Tryz.underlying174 rfl (by kernel_rfl)
instance : TE Tryz.prog 174 11 48 (.agg #[.int .u64 0, .int .u64 0, .int .u32 0, .int .u8 0, .int .u8 0, .int .u8 0, .int .u8 0, .nilFunc, .pointer none, .int .i32 0, .int .i32 0]) := .of (by kernel_rfl)
instance : TF Tryz.prog 174 0 0 := .of (n := 0) Tryz.underlying174 rfl rfl (by kernel_rfl)
instance : TF Tryz.prog 174 1 1 := .of (n := 0) Tryz.underlying174 rfl rfl (by kernel_rfl)
instance : TF Tryz.prog 174 2 2 := .of (n := 0) Tryz.underlying174 rfl rfl (by kernel_rfl)
instance : TF Tryz.prog 174 3 3 := .of (n := 0) Tryz.underlying174 rfl rfl (by kernel_rfl)
instance : TF Tryz.prog 174 4 4 := .of (n := 0) Tryz.underlying174 rfl rfl (by kernel_rfl)
instance : TF Tryz.prog 174 5 5 := .of (n := 0) Tryz.underlying174 rfl rfl (by kernel_rfl)
instance : TF Tryz.prog 174 6 6 := .of (n := 0) Tryz.underlying174 rfl rfl (by kernel_rfl)
instance : TF Tryz.prog 174 7 7 := .of (n := 0) Tryz.underlying174 rfl rfl (by kernel_rfl)
instance : TF Tryz.prog 174 8 8 := .of (n := 0) Tryz.underlying174 rfl rfl (by kernel_rfl)
instance : TF Tryz.prog 174 9 9 := .of (n := 0) Tryz.underlying174 rfl rfl (by kernel_rfl)
instance : TF Tryz.prog 174 10 10 := .of (n := 0) Tryz.underlying174 rfl rfl (by kernel_rfl)
instance : TP Tryz.prog 174 (.agg #[.int .u64 0, .int .u64 0, .int .u32 0, .int .u8 0, .int .u8 0, .int .u8 0, .int .u8 0, .nilFunc, .pointer none, .int .i32 0, .int .i32 0]) [(0, 1), (1, 1), (2, 1), (3, 1), (4, 1), (5, 1), (6, 1), (7, 1), (8, 1), (9, 1), (10, 1)] := .of Tryz.underlying174 (by kernel_rfl) (by kernel_rfl)
instance : T1 Tryz.prog 176 := .of Tryz.underlying176 rfl
instance : TE Tryz.prog 176 1 8 (.pointer none) := .of (by kernel_rfl)
instance : FN Tryz.prog 3 := ⟨Tryz.f3, Tryz.func3, by kernel_rfl, by kernel_rfl⟩
instance : FN Tryz.prog 4 := ⟨Tryz.f4, Tryz.func4, by kernel_rfl, by kernel_rfl⟩
instance : FN Tryz.prog 5 := ⟨Tryz.f5, Tryz.func5, by kernel_rfl, by kernel_rfl⟩
instance : FN Tryz.prog 6 := ⟨Tryz.f6, Tryz.func6, by kernel_rfl, by kernel_rfl⟩
instance : FN Tryz.prog 7 := ⟨Tryz.f7, Tryz.func7, by kernel_rfl, by kernel_rfl⟩
instance : FN Tryz.prog 8 := ⟨Tryz.f8, Tryz.func8, by kernel_rfl, by kernel_rfl⟩
instance : FN Tryz.prog 9 := ⟨Tryz.f9, Tryz.func9, by kernel_rfl, by kernel_rfl⟩
instance : FN Tryz.prog 10 := ⟨Tryz.f10, Tryz.func10, by kernel_rfl, by kernel_rfl⟩
instance : FN Tryz.prog 11 := ⟨Tryz.f11, Tryz.func11, by kernel_rfl, by kernel_rfl⟩
instance : FN Tryz.prog 12 := ⟨Tryz.f12, Tryz.func12, by kernel_rfl, by kernel_rfl⟩
instance : FN Tryz.prog 13 := ⟨Tryz.f13, Tryz.func13, by kernel_rfl, by kernel_rfl⟩
instance : FN Tryz.prog 14 := ⟨Tryz.f14, Tryz.func14, by kernel_rfl, by kernel_rfl⟩
instance : FN Tryz.prog 15 := ⟨Tryz.f15, Tryz.func15, by kernel_rfl, by kernel_rfl⟩
instance : FN Tryz.prog 16 := ⟨Tryz.f16, Tryz.func16, by kernel_rfl, by kernel_rfl⟩
instance : FN Tryz.prog 17 := ⟨Tryz.f17, Tryz.func17, by kernel_rfl, by kernel_rfl⟩
instance : FN Tryz.prog 18 := ⟨Tryz.f18, Tryz.func18, by kernel_rfl, by kernel_rfl⟩
instance : FN Tryz.prog 19 := ⟨Tryz.f19, Tryz.func19, by kernel_rfl, by kernel_rfl⟩
instance : FN Tryz.prog 20 := ⟨Tryz.f20, Tryz.func20, by kernel_rfl, by kernel_rfl⟩
instance : FN Tryz.prog 21 := ⟨Tryz.f21, Tryz.func21, by kernel_rfl, by kernel_rfl⟩
instance : FN Tryz.prog 22 := ⟨Tryz.f22, Tryz.func22, by kernel_rfl, by kernel_rfl⟩
instance : FN Tryz.prog 23 := ⟨Tryz.f23, Tryz.func23, by kernel_rfl, by kernel_rfl⟩
instance : FN Tryz.prog 24 := ⟨Tryz.f24, Tryz.func24, by kernel_rfl, by kernel_rfl⟩
instance : FN Tryz.prog 25 := ⟨Tryz.f25, Tryz.func25, by kernel_rfl, by kernel_rfl⟩
instance : FN Tryz.prog 26 := ⟨Tryz.f26, Tryz.func26, by kernel_rfl, by kernel_rfl⟩
instance : FN Tryz.prog 27 := ⟨Tryz.f27, Tryz.func27, by kernel_rfl, by kernel_rfl⟩
instance : FN Tryz.prog 28 := ⟨Tryz.f28, Tryz.func28, by kernel_rfl, by kernel_rfl⟩
instance : FN Tryz.prog 29 := ⟨Tryz.f29, Tryz.func29, by kernel_rfl, by kernel_rfl⟩
instance : FN Tryz.prog 30 := ⟨Tryz.f30, Tryz.func30, by kernel_rfl, by kernel_rfl⟩
instance : FN Tryz.prog 31 := ⟨Tryz.f31, Tryz.func31, by kernel_rfl, by kernel_rfl⟩
instance : FN Tryz.prog 32 := ⟨Tryz.f32, Tryz.func32, by kernel_rfl, by kernel_rfl⟩
instance : FN Tryz.prog 33 := ⟨Tryz.f33, Tryz.func33, by kernel_rfl, by kernel_rfl⟩
instance : FN Tryz.prog 34 := ⟨Tryz.f34, Tryz.func34, by kernel_rfl, by kernel_rfl⟩
instance : FN Tryz.prog 35 := ⟨Tryz.f35, Tryz.func35, by kernel_rfl, by kernel_rfl⟩
instance : FN Tryz.prog 36 := ⟨Tryz.f36, Tryz.func36, by kernel_rfl, by kernel_rfl⟩
instance : FN Tryz.prog 37 := ⟨Tryz.f37, Tryz.func37, by kernel_rfl, by kernel_rfl⟩
instance : FN Tryz.prog 38 := ⟨Tryz.f38, Tryz.func38, by kernel_rfl, by kernel_rfl⟩
instance : FN Tryz.prog 39 := ⟨Tryz.f39, Tryz.func39, by kernel_rfl, by kernel_rfl⟩
instance : FN Tryz.prog 40 := ⟨Tryz.f40, Tryz.func40, by kernel_rfl, by kernel_rfl⟩
instance : FN Tryz.prog 41 := ⟨Tryz.f41, Tryz.func41, by kernel_rfl, by kernel_rfl⟩
instance : FN Tryz.prog 42 := ⟨Tryz.f42, Tryz.func42, by kernel_rfl, by kernel_rfl⟩
instance : FN Tryz.prog 43 := ⟨Tryz.f43, Tryz.func43, by kernel_rfl, by kernel_rfl⟩
instance : FN Tryz.prog 44 := ⟨Tryz.f44, Tryz.func44, by kernel_rfl, by kernel_rfl⟩
instance : FN Tryz.prog 45 := ⟨Tryz.f45, Tryz.func45, by kernel_rfl, by kernel_rfl⟩
instance : FN Tryz.prog 46 := ⟨Tryz.f46, Tryz.func46, by kernel_rfl, by kernel_rfl⟩
instance : FN Tryz.prog 47 := ⟨Tryz.f47, Tryz.func47, by kernel_rfl, by kernel_rfl⟩
instance : FN Tryz.prog 48 := ⟨Tryz.f48, Tryz.func48, by kernel_rfl, by kernel_rfl⟩
instance : FN Tryz.prog 49 := ⟨Tryz.f49, Tryz.func49, by kernel_rfl, by kernel_rfl⟩
instance : FN Tryz.prog 50 := ⟨Tryz.f50, Tryz.func50, by kernel_rfl, by kernel_rfl⟩
instance : FN Tryz.prog 51 := ⟨Tryz.f51, Tryz.func51, by kernel_rfl, by kernel_rfl⟩
instance : FN Tryz.prog 52 := ⟨Tryz.f52, Tryz.func52, by kernel_rfl, by kernel_rfl⟩
instance : FN Tryz.prog 53 := ⟨Tryz.f53, Tryz.func53, by kernel_rfl, by kernel_rfl⟩
instance : FN Tryz.prog 54 := ⟨Tryz.f54, Tryz.func54, by kernel_rfl, by kernel_rfl⟩
instance : FN Tryz.prog 55 := ⟨Tryz.f55, Tryz.func55, by kernel_rfl, by kernel_rfl⟩
instance : FN Tryz.prog 56 := ⟨Tryz.f56, Tryz.func56, by kernel_rfl, by kernel_rfl⟩
instance : FN Tryz.prog 57 := ⟨Tryz.f57, Tryz.func57, by kernel_rfl, by kernel_rfl⟩
instance : FN Tryz.prog 58 := ⟨Tryz.f58, Tryz.func58, by kernel_rfl, by kernel_rfl⟩
instance : FN Tryz.prog 59 := ⟨Tryz.f59, Tryz.func59, by kernel_rfl, by kernel_rfl⟩
instance : FN Tryz.prog 60 := ⟨Tryz.f60, Tryz.func60, by kernel_rfl, by kernel_rfl⟩
instance : FN Tryz.prog 61 := ⟨Tryz.f61, Tryz.func61, by kernel_rfl, by kernel_rfl⟩
instance : FN Tryz.prog 62 := ⟨Tryz.f62, Tryz.func62, by kernel_rfl, by kernel_rfl⟩
instance : FN Tryz.prog 63 := ⟨Tryz.f63, Tryz.func63, by kernel_rfl, by kernel_rfl⟩
instance : FN Tryz.prog 64 := ⟨Tryz.f64, Tryz.func64, by kernel_rfl, by kernel_rfl⟩
instance : FN Tryz.prog 65 := ⟨Tryz.f65, Tryz.func65, by kernel_rfl, by kernel_rfl⟩
instance : FN Tryz.prog 66 := ⟨Tryz.f66, Tryz.func66, by kernel_rfl, by kernel_rfl⟩
instance : FN Tryz.prog 67 := ⟨Tryz.f67, Tryz.func67, by kernel_rfl, by kernel_rfl⟩
instance : FN Tryz.prog 68 := ⟨Tryz.f68, Tryz.func68, by kernel_rfl, by kernel_rfl⟩
instance : FN Tryz.prog 69 := ⟨Tryz.f69, Tryz.func69, by kernel_rfl, by kernel_rfl⟩
instance : FN Tryz.prog 70 := ⟨Tryz.f70, Tryz.func70, by kernel_rfl, by kernel_rfl⟩
instance : FN Tryz.prog 71 := ⟨Tryz.f71, Tryz.func71, by kernel_rfl, by kernel_rfl⟩
instance : FN Tryz.prog 72 := ⟨Tryz.f72, Tryz.func72, by kernel_rfl, by kernel_rfl⟩
instance : FN Tryz.prog 73 := ⟨Tryz.f73, Tryz.func73, by kernel_rfl, by kernel_rfl⟩
instance : FN Tryz.prog 74 := ⟨Tryz.f74, Tryz.func74, by kernel_rfl, by kernel_rfl⟩
instance : FN Tryz.prog 75 := ⟨Tryz.f75, Tryz.func75, by kernel_rfl, by kernel_rfl⟩
instance : FN Tryz.prog 76 := ⟨Tryz.f76, Tryz.func76, by kernel_rfl, by kernel_rfl⟩
instance : FN Tryz.prog 77 := ⟨Tryz.f77, Tryz.func77, by kernel_rfl, by kernel_rfl⟩
instance : FN Tryz.prog 78 := ⟨Tryz.f78, Tryz.func78, by kernel_rfl, by kernel_rfl⟩
instance : FN Tryz.prog 79 := ⟨Tryz.f79, Tryz.func79, by kernel_rfl, by kernel_rfl⟩
instance : FN Tryz.prog 80 := ⟨Tryz.f80, Tryz.func80, by kernel_rfl, by kernel_rfl⟩
instance : FN Tryz.prog 81 := ⟨Tryz.f81, Tryz.func81, by kernel_rfl, by kernel_rfl⟩
instance : FN Tryz.prog 82 := ⟨Tryz.f82, Tryz.func82, by kernel_rfl, by kernel_rfl⟩
instance : FN Tryz.prog 83 := ⟨Tryz.f83, Tryz.func83, by kernel_rfl, by kernel_rfl⟩
instance : FN Tryz.prog 84 := ⟨Tryz.f84, Tryz.func84, by kernel_rfl, by kernel_rfl⟩
instance : FN Tryz.prog 85 := ⟨Tryz.f85, Tryz.func85, by kernel_rfl, by kernel_rfl⟩
instance : FN Tryz.prog 86 := ⟨Tryz.f86, Tryz.func86, by kernel_rfl, by kernel_rfl⟩
instance : FN Tryz.prog 87 := ⟨Tryz.f87, Tryz.func87, by kernel_rfl, by kernel_rfl⟩
instance : FN Tryz.prog 88 := ⟨Tryz.f88, Tryz.func88, by kernel_rfl, by kernel_rfl⟩
instance : FN Tryz.prog 89 := ⟨Tryz.f89, Tryz.func89, by kernel_rfl, by kernel_rfl⟩
instance : FN Tryz.prog 90 := ⟨Tryz.f90, Tryz.func90, by kernel_rfl, by kernel_rfl⟩
instance : FN Tryz.prog 91 := ⟨Tryz.f91, Tryz.func91, by kernel_rfl, by kernel_rfl⟩
instance : FN Tryz.prog 92 := ⟨Tryz.f92, Tryz.func92, by kernel_rfl, by kernel_rfl⟩
instance : FN Tryz.prog 93 := ⟨Tryz.f93, Tryz.func93, by kernel_rfl, by kernel_rfl⟩
instance : FN Tryz.prog 94 := ⟨Tryz.f94, Tryz.func94, by kernel_rfl, by kernel_rfl⟩
instance : FN Tryz.prog 95 := ⟨Tryz.f95, Tryz.func95, by kernel_rfl, by kernel_rfl⟩
instance : FN Tryz.prog 96 := ⟨Tryz.f96, Tryz.func96, by kernel_rfl, by kernel_rfl⟩
instance : FN Tryz.prog 97 := ⟨Tryz.f97, Tryz.func97, by kernel_rfl, by kernel_rfl⟩
instance : FN Tryz.prog 98 := ⟨Tryz.f98, Tryz.func98, by kernel_rfl, by kernel_rfl⟩
instance : FN Tryz.prog 99 := ⟨Tryz.f99, Tryz.func99, by kernel_rfl, by kernel_rfl⟩
instance : FN Tryz.prog 100 := ⟨Tryz.f100, Tryz.func100, by kernel_rfl, by kernel_rfl⟩
instance : FN Tryz.prog 101 := ⟨Tryz.f101, Tryz.func101, by kernel_rfl, by kernel_rfl⟩
instance : FN Tryz.prog 102 := ⟨Tryz.f102, Tryz.func102, by kernel_rfl, by kernel_rfl⟩
instance : FN Tryz.prog 103 := ⟨Tryz.f103, Tryz.func103, by kernel_rfl, by kernel_rfl⟩
instance : FN Tryz.prog 104 := ⟨Tryz.f104, Tryz.func104, by kernel_rfl, by kernel_rfl⟩
instance : FN Tryz.prog 105 := ⟨Tryz.f105, Tryz.func105, by kernel_rfl, by kernel_rfl⟩
instance : FN Tryz.prog 106 := ⟨Tryz.f106, Tryz.func106, by kernel_rfl, by kernel_rfl⟩
instance : FN Tryz.prog 107 := ⟨Tryz.f107, Tryz.func107, by kernel_rfl, by kernel_rfl⟩
instance : FN Tryz.prog 108 := ⟨Tryz.f108, Tryz.func108, by kernel_rfl, by kernel_rfl⟩
instance : FN Tryz.prog 109 := ⟨Tryz.f109, Tryz.func109, by kernel_rfl, by kernel_rfl⟩
instance : FN Tryz.prog 110 := ⟨Tryz.f110, Tryz.func110, by kernel_rfl, by kernel_rfl⟩
instance : FN Tryz.prog 111 := ⟨Tryz.f111, Tryz.func111, by kernel_rfl, by kernel_rfl⟩
instance : FN Tryz.prog 112 := ⟨Tryz.f112, Tryz.func112, by kernel_rfl, by kernel_rfl⟩
instance : FN Tryz.prog 113 := ⟨Tryz.f113, Tryz.func113, by kernel_rfl, by kernel_rfl⟩
instance : FN Tryz.prog 114 := ⟨Tryz.f114, Tryz.func114, by kernel_rfl, by kernel_rfl⟩
instance : FN Tryz.prog 115 := ⟨Tryz.f115, Tryz.func115, by kernel_rfl, by kernel_rfl⟩
instance : FN Tryz.prog 116 := ⟨Tryz.f116, Tryz.func116, by kernel_rfl, by kernel_rfl⟩
instance : FN Tryz.prog 117 := ⟨Tryz.f117, Tryz.func117, by kernel_rfl, by kernel_rfl⟩
instance : FN Tryz.prog 118 := ⟨Tryz.f118, Tryz.func118, by kernel_rfl, by kernel_rfl⟩
instance : FN Tryz.prog 119 := ⟨Tryz.f119, Tryz.func119, by kernel_rfl, by kernel_rfl⟩
instance : FN Tryz.prog 120 := ⟨Tryz.f120, Tryz.func120, by kernel_rfl, by kernel_rfl⟩
instance : FN Tryz.prog 121 := ⟨Tryz.f121, Tryz.func121, by kernel_rfl, by kernel_rfl⟩
instance : FN Tryz.prog 122 := ⟨Tryz.f122, Tryz.func122, by kernel_rfl, by kernel_rfl⟩
instance : FN Tryz.prog 123 := ⟨Tryz.f123, Tryz.func123, by kernel_rfl, by kernel_rfl⟩
instance : FN Tryz.prog 124 := ⟨Tryz.f124, Tryz.func124, by kernel_rfl, by kernel_rfl⟩
instance : FN Tryz.prog 125 := ⟨Tryz.f125, Tryz.func125, by kernel_rfl, by kernel_rfl⟩
instance : FN Tryz.prog 126 := ⟨Tryz.f126, Tryz.func126, by kernel_rfl, by kernel_rfl⟩
instance : FN Tryz.prog 127 := ⟨Tryz.f127, Tryz.func127, by kernel_rfl, by kernel_rfl⟩
instance : FN Tryz.prog 128 := ⟨Tryz.f128, Tryz.func128, by kernel_rfl, by kernel_rfl⟩
instance : FN Tryz.prog 129 := ⟨Tryz.f129, Tryz.func129, by kernel_rfl, by kernel_rfl⟩
instance : FN Tryz.prog 130 := ⟨Tryz.f130, Tryz.func130, by kernel_rfl, by kernel_rfl⟩
instance : FN Tryz.prog 131 := ⟨Tryz.f131, Tryz.func131, by kernel_rfl, by kernel_rfl⟩
instance : FN Tryz.prog 132 := ⟨Tryz.f132, Tryz.func132, by kernel_rfl, by kernel_rfl⟩
instance : FN Tryz.prog 134 := ⟨Tryz.f134, Tryz.func134, by kernel_rfl, by kernel_rfl⟩
instance : FN Tryz.prog 135 := ⟨Tryz.f135, Tryz.func135, by kernel_rfl, by kernel_rfl⟩
instance : FN Tryz.prog 136 := ⟨Tryz.f136, Tryz.func136, by kernel_rfl, by kernel_rfl⟩
instance : FN Tryz.prog 137 := ⟨Tryz.f137, Tryz.func137, by kernel_rfl, by kernel_rfl⟩
theorem mixed : Tryz.prog.follows .mixedOrders = true := by kernel_rfl
end Go.Proofs.YtifgncgiiojikaaGreatDoor
end

section
/- Engine, extras: where more than one thing may come up next. -/
namespace Go.Eng
open Go Go.RowKit
section
variable {P : Program} {ops : Array Oper} {Q : Exit → Act → World → Prop} {N : Nat} {tm : Tm} {A : World → Prop} {listed : Array Bool} {S : World → Prop} {order : List Nat} {fuel : Nat}

/-- number i comes up next -/
def KS (P : Program) (ops : Array Oper) (Q : Exit → Act → World → Prop) (fuel : Nat) (listed : Array Bool) (S : World → Prop) (i : Nat) : Act → World → Prop :=
  fun a w => wpOp P ops Q i (fun a' w' => (waitsAll .any ops i = true ∧ Region.ready .any ops (listed.setIfInBounds i true) = [] ∧ Q .normal a' w') ∨
      ∃ S', (∀ w, S' w → S w) ∧ S' w' ∧ wpAnyG P .any ops Q fuel (listed.setIfInBounds i true) S' a' w') a w

theorem kg_br2 (i j : Nat) (hr : Region.ready .any ops listed = [i, j] := by kernel_rfl) (h1 : KP N (KS P ops Q fuel listed S i) tm A) (h2 : KP N (KS P ops Q fuel listed S j) tm A) : KP N (KG P ops Q (fuel + 1) listed S order) tm A := by
  unfold KP KG at *
  intro a w hs hw _
  refine ⟨fun h => (by rw [h] at hr; cases hr), fun k hk => ?_⟩
  rw [hr] at hk
  simp only [List.mem_cons, List.not_mem_nil, or_false] at hk
  rcases hk with rfl | rfl
  · exact h1 a w hs hw
  · exact h2 a w hs hw
theorem kg_br3 (i j l : Nat) (hr : Region.ready .any ops listed = [i, j, l] := by kernel_rfl) (h1 : KP N (KS P ops Q fuel listed S i) tm A) (h2 : KP N (KS P ops Q fuel listed S j) tm A) (h3 : KP N (KS P ops Q fuel listed S l) tm A) : KP N (KG P ops Q (fuel + 1) listed S order) tm A := by
  unfold KP KG at *
  intro a w hs hw _
  refine ⟨fun h => (by rw [h] at hr; cases hr), fun k hk => ?_⟩
  rw [hr] at hk
  simp only [List.mem_cons, List.not_mem_nil, or_false] at hk
  rcases hk with rfl | rfl | rfl
  · exact h1 a w hs hw
  · exact h2 a w hs hw
  · exact h3 a w hs hw
theorem kg_br4 (i j l m : Nat) (hr : Region.ready .any ops listed = [i, j, l, m] := by kernel_rfl) (h1 : KP N (KS P ops Q fuel listed S i) tm A) (h2 : KP N (KS P ops Q fuel listed S j) tm A) (h3 : KP N (KS P ops Q fuel listed S l) tm A) (h4 : KP N (KS P ops Q fuel listed S m) tm A) : KP N (KG P ops Q (fuel + 1) listed S order) tm A := by
  unfold KP KG at *
  intro a w hs hw _
  refine ⟨fun h => (by rw [h] at hr; cases hr), fun k hk => ?_⟩
  rw [hr] at hk
  simp only [List.mem_cons, List.not_mem_nil, or_false] at hk
  rcases hk with rfl | rfl | rfl | rfl
  · exact h1 a w hs hw
  · exact h2 a w hs hw
  · exact h3 a w hs hw
  · exact h4 a w hs hw
theorem ks_f {i : Nat} {dst : Option Tmp} {op : Op} {ty : TypeId} {pos : String} {aft : Array Edge} (order : List Nat) (S' : World → Prop) (hi : ops[i]? = some ⟨dst, op, ty, pos, aft, none⟩ := by rfl)
    (hSS : ∀ w, S' w → S w := by first | exact fun _ h => h | exact fun _ h => h.tail | exact fun _ h => h.tailB)
    (h : FX P N op dst Q tm A (fun a' w' => S' w' ∧ KG P ops Q fuel (listed.setIfInBounds i true) S' order a' w')) : KP N (KS P ops Q fuel listed S i) tm A := by
  unfold KP KS
  intro a w hs hw
  unfold wpOp
  simp only [hi, Region.wanted]
  refine .inl (Oper.wp_mono (fun a' w' h' => ?_) ((by unfold FX at h; exact h a w ty pos aft none hs hw)))
  obtain ⟨h1, h2⟩ := h'
  unfold KG at h2
  exact .inr ⟨S', hSS, h1, h2 h1⟩
/-- only number i may come up next -/
theorem kg_br1 (i : Nat) (hr : Region.ready .any ops listed = [i] := by kernel_rfl) (h1 : KP N (KS P ops Q fuel listed S i) tm A) : KP N (KG P ops Q (fuel + 1) listed S order) tm A := by
  unfold KP KG at *
  intro a w hs hw _
  refine ⟨fun h => (by rw [h] at hr; cases hr), fun k hk => ?_⟩
  rw [hr] at hk
  simp only [List.mem_cons, List.not_mem_nil, or_false] at hk
  subst hk
  exact h1 a w hs hw
/-- a guarded one that is not called for -/
theorem gx_no {op : Op} {c : Bool} {u : Value} (hc : c = false) : GX P N op tm A c u := by
  unfold GX
  intro h
  rw [hc] at h; cases h
/-- a guarded one that is called for, where nothing else may come up -/
theorem kg_gyes {i j g : Nat} {want b : Bool} {dst : Option Tmp} {op : Op} {ty : TypeId} {pos : String} {aft : Array Edge} (S' : World → Prop) (hi : ops[i]? = some ⟨dst, op, ty, pos, aft, some (j, want)⟩ := by rfl) (hr : Region.ready .any ops listed = [i] := by kernel_rfl)
    (hj : (ops[j]?).bind (·.dst) = some g := by rfl) (hg : lk tm g = some (true, .bool b) := by rfl) (hb : b = want)
    (hSS : ∀ w, S' w → S w := by first | exact fun _ h => h | exact fun _ h => h.tail | exact fun _ h => h.tailB)
    (h : FX P N op dst Q tm A (fun a' w' => S' w' ∧ KG P ops Q fuel (listed.setIfInBounds i true) S' order a' w')) : KP N (KG P ops Q (fuel + 1) listed S (i :: order)) tm A := by
  unfold KP KG
  intro a w hs hw _
  have hy := yields_bool (ops := ops) hs hj hg
  refine ⟨fun h => (by rw [h] at hr; cases hr), fun k hk => ?_⟩
  rw [hr, List.mem_singleton] at hk
  subst hk
  unfold wpOp
  simp only [hi, Region.wanted, hy, if_true, hb, beq_self_eq_true]
  refine .inl (Oper.wp_mono (fun a' w' h' => ?_) ((by unfold FX at h; exact h a w ty pos aft _ hs hw)))
  obtain ⟨h1, h2⟩ := h'
  unfold KG at h2
  exact .inr ⟨S', hSS, h1, h2 h1⟩
end
/-- the ways meet again, the sequence being entered -/
theorem wc_cutA {P : Program} {N : Nat} {Q Q' : Exit → Act → World → Prop} {tm : Tm} {A : World → Prop} {x y : Code} {σ : Type} (J : σ → Prop) (T : σ → Tm) (I : σ → World → Prop)
    (h : WC P N x (Exit.then (CQ N J T I) Q') tm A) (hy : ∀ s, J s → WC P N y Q (T s) (I s)) : WC P N x (Exit.then (fun a w => y.wp P Q a w) Q') tm A := by
  unfold WC KP at *
  intro a w hs hw
  refine wp_mono (h a w hs hw) fun e a' w' q => ?_
  cases e with
  | normal =>
    have q' : CQ N J T I a' w' := q
    unfold CQ at q'
    obtain ⟨s, hJ, hsim, hI⟩ := q'
    exact hy s hJ a' w' hsim hI
  | _ => exact q
attribute [irreducible] KS
section
variable {P : Program} {N : Nat} {tm : Tm} {A : World → Prop} {c : Bool}
/-- an array in a variable -/
theorem qy_index_abox {t e sz b len bb off n : Nat} {z : Value} {k : IntKind} {x y : Operand} [ht : TAr P t len e] [hE : TE P e sz b z] (hx : EV tm c x (.pointer (some ⟨bb, off, none⟩))) (hy : EV tm c y (.int k (n : Int)))
    (hb : c = true → n < len) : QY P N (.indexAddr t x y) tm A c (.pointer (some ⟨bb, off + n * sz, none⟩)) := by
  unfold QY
  intro hc a w _ _ _ _ _ hsim hw
  simp only [execOp, hy.get hsim hc, hx.get hsim hc]
  refine run_v ?_
  obtain ⟨i, hi, his, _⟩ := hE.h
  subst his
  have h0 : (0 : Int) ≤ (n : Int) ∧ (n : Int) < len := ⟨by omega, by have := hb hc; omega⟩
  show (Instr.indexAt t (.pointer (some ⟨bb, off, none⟩)) (.int k (n : Int))).run P w = _
  rcases Nat.eq_zero_or_pos n with rfl | hn
  · simp [Instr.indexAt, asIntOf, run_underlying ht.h, Instr.sureAddr, hb hc, sizeOf, typeInfo, hi, Addr.add]
  · by_cases hs : i.size = 0
    · simp [Instr.indexAt, asIntOf, run_underlying ht.h, Instr.sureAddr, hb hc, sizeOf, typeInfo, hi, Addr.add, hs]
    · simp [Instr.indexAt, asIntOf, run_underlying ht.h, Instr.sureAddr, hb hc, sizeOf, typeInfo, hi, Addr.add, hs, show ¬ n = 0 from by omega]
/-- '%' of what is not negative, whatever it is written as -/
theorem qy_remI {t t' : TypeId} {x y : Operand} {m n : Int} (a b : Nat) (hx : EV tm true x (.int .i64 m) := by exact ⟨_, rfl, fun _ => rfl⟩) (hy : EV tm true y (.int .i64 n) := by exact ⟨_, rfl, fun _ => rfl⟩) (hm : m = (a : Int)) (hn : n = (b : Int)) (hb : 0 < b) : QY P N (.binOp .rem t x y t') tm A true (.int .i64 ((a % b : Nat) : Int)) := by
  subst hm; subst hn
  exact qy_rem hx hy (fun _ => hb)
theorem qy_val {op : Op} {v v' : Value} (h : QY P N op tm A c v') (e : v' = v) : QY P N op tm A c v := e ▸ h
/-- in whichever of some worlds -/
theorem qy_ex {σ : Type} {A : σ → World → Prop} {op : Op} {v : Value} (h : ∀ s, QY P N op tm (A s) c v) : QY P N op tm (fun w => ∃ s, A s w) c v := by
  unfold QY
  intro hc a w d ty pos aft g hs ⟨s, hw⟩
  have h' := h s
  unfold QY at h'
  exact h' hc a w d ty pos aft g hs hw
/-- 'v[l:]', l an integer -/
theorem qy_subLi {τ : Type} {S : Nat → Prop} {B : World} {bs : List Base} {H : List Ent} {enc : τ → List Value} {sz t e b : Nat} {z v : Value} {l : Int} {xs : List τ} {x y : Operand} [ht : TSl P t e] [hE : TE P e sz b z]
    (hx : EV tm c x v := by first | exact ⟨_, rfl, fun _ => rfl⟩ | exact ⟨_, rfl, fun h => h⟩ | exact ⟨_, rfl, and_l⟩) (hy : EV tm c y (.int .i64 l) := by first | exact ⟨_, rfl, fun _ => rfl⟩ | exact ⟨_, rfl, fun h => h⟩ | exact ⟨_, rfl, and_l⟩) (h : Sl S B enc sz v xs) (h0 : 0 ≤ l) (hb : l.toNat ≤ xs.length) : QY P N (.slice t x (some y) none none) tm (Mem bs H) c (subV sz l.toNat xs.length v) := by
  obtain ⟨m, rfl⟩ : ∃ m : Nat, l = m := ⟨l.toNat, by omega⟩
  exact qy_subL hx hy h (fun _ => by simpa using hb)
end
end Go.Eng
end
