import Derived.Test.YtgidhhpjabdnkaaGreatDoorG01
import Derived.Test.YtgidhhpjabdnkaaGreatDoorProg
import Derived.KernelRfl
set_option linter.unusedSimpArgs false
set_option linter.unusedVariables false
section
/- What the elements of slices are in Lean: codes into cells, and back. -/
namespace Go.Eng
open Go

def toI : Value → Int | .int _ n => n | _ => 0
def toB : Value → Bool | .bool b => b | _ => false
def toT : Value → ByteArray | .string s => s | _ => ByteArray.empty

def encI (n : Int) : List Value := [.int .i64 n]
def decI : List Value → Int | [v] => toI v | _ => 0
def encW (x : BitVec 64) : List Value := [u64 x]
def toW (v : Value) : BitVec 64 := BitVec.ofInt 64 (toI v)
def decW : List Value → BitVec 64 | [v] => toW v | _ => 0
def encB (b : Bool) : List Value := [.bool b]
def decB : List Value → Bool | [v] => toB v | _ => false
def encT (s : ByteArray) : List Value := [.string s]
def decT : List Value → ByteArray | [v] => toT v | _ => ByteArray.empty
def encV (v : Value) : List Value := [v]
def decV : List Value → Value | [v] => v | _ => .nilIface

def encU8 (n : Nat) : List Value := [.int .u8 (n : Int)]
def decU8 : List Value → Nat | [v] => (toI v).toNat | _ => 0

structure Pair where
  A : Int
  B : Int
  deriving DecidableEq, Inhabited
def encPair (p : Pair) : List Value := [.int .i64 p.A, .int .i64 p.B]
def decPair : List Value → Pair | [a, b] => ⟨toI a, toI b⟩ | _ => ⟨0, 0⟩

instance : Enc encI 1 := ⟨fun _ => rfl, by decide⟩
instance : Enc encW 1 := ⟨fun _ => rfl, by decide⟩
instance : Enc encB 1 := ⟨fun _ => rfl, by decide⟩
instance : Enc encT 1 := ⟨fun _ => rfl, by decide⟩
instance : Enc encV 1 := ⟨fun _ => rfl, by decide⟩
instance : Enc encU8 1 := ⟨fun _ => rfl, by decide⟩
instance : Enc encPair 2 := ⟨fun _ => rfl, by decide⟩
instance : EncOne encI (fun _ => True) := ⟨fun _ _ u hu => by simp [encI] at hu; subst hu; rfl⟩
instance : EncOne encW (fun _ => True) := ⟨fun _ _ u hu => by simp [encW] at hu; subst hu; rfl⟩
instance : EncOne encB (fun _ => True) := ⟨fun _ _ u hu => by simp [encB] at hu; subst hu; rfl⟩
instance : EncOne encT (fun _ => True) := ⟨fun _ _ u hu => by simp [encT] at hu; subst hu; rfl⟩
instance : EncOne encV (fun v => v.oneCell' = true) := ⟨fun _ h u hu => by simp [encV] at hu; subst hu; exact h⟩
instance : EncOne encPair (fun _ => True) := ⟨fun _ _ u hu => by simp [encPair] at hu; rcases hu with rfl | rfl <;> rfl⟩

structure Ev where
  thread : Int
  place : Int
  dir : Int
  loc : Int
  value : Int
  reg : Int
  deriving DecidableEq, Inhabited
def encEv (e : Ev) : List Value := [.int .i64 e.thread, .int .i64 e.place, .int .i64 e.dir, .int .i64 e.loc, .int .i64 e.value, .int .i64 e.reg]
def decEv : List Value → Ev | [a, b, c, d, e, f] => ⟨toI a, toI b, toI c, toI d, toI e, toI f⟩ | _ => ⟨0, 0, 0, 0, 0, 0⟩
structure Bar where
  thread : Int
  place : Int
  fence : Int
  deriving DecidableEq, Inhabited
def encBar (e : Bar) : List Value := [.int .i64 e.thread, .int .i64 e.place, .int .i64 e.fence]
def decBar : List Value → Bar | [a, b, c] => ⟨toI a, toI b, toI c⟩ | _ => ⟨0, 0, 0⟩
structure Thing where
  thread : Int
  reg : Int
  loc : ByteArray
  deriving DecidableEq, Inhabited
def encThing (e : Thing) : List Value := [.int .i64 e.thread, .int .i64 e.reg, .string e.loc]
def decThing : List Value → Thing | [a, b, c] => ⟨toI a, toI b, toT c⟩ | _ => ⟨0, 0, ByteArray.empty⟩
structure EndT where
  kind : Int
  n : Int
  deriving DecidableEq, Inhabited
def encEnd (e : EndT) : List Value := [.int .i64 e.kind, .int .i64 e.n]
def decEnd : List Value → EndT | [a, b] => ⟨toI a, toI b⟩ | _ => ⟨0, 0⟩
structure Arc where
  src : Int
  dst : Int
  kind : Int
  deriving DecidableEq, Inhabited
def encArc (e : Arc) : List Value := [.int .i64 e.src, .int .i64 e.dst, .int .i64 e.kind]
def decArc : List Value → Arc | [a, b, c] => ⟨toI a, toI b, toI c⟩ | _ => ⟨0, 0, 0⟩

instance : Enc encEv 6 := ⟨fun _ => rfl, by decide⟩
instance : Enc encBar 3 := ⟨fun _ => rfl, by decide⟩
instance : Enc encThing 3 := ⟨fun _ => rfl, by decide⟩
instance : Enc encEnd 2 := ⟨fun _ => rfl, by decide⟩
instance : Enc encArc 3 := ⟨fun _ => rfl, by decide⟩
instance : EncOne encEv (fun _ => True) := ⟨fun _ _ u hu => by simp [encEv] at hu; rcases hu with rfl | rfl | rfl | rfl | rfl | rfl <;> rfl⟩
instance : EncOne encBar (fun _ => True) := ⟨fun _ _ u hu => by simp [encBar] at hu; rcases hu with rfl | rfl | rfl <;> rfl⟩
instance : EncOne encThing (fun _ => True) := ⟨fun _ _ u hu => by simp [encThing] at hu; rcases hu with rfl | rfl | rfl <;> rfl⟩
instance : EncOne encEnd (fun _ => True) := ⟨fun _ _ u hu => by simp [encEnd] at hu; rcases hu with rfl | rfl <;> rfl⟩
instance : EncOne encArc (fun _ => True) := ⟨fun _ _ u hu => by simp [encArc] at hu; rcases hu with rfl | rfl | rfl <;> rfl⟩

theorem toW_u64 (x : BitVec 64) : toW (u64 x) = x := by simp [toW, toI, u64]

end Go.Eng
end

section
/- The facts on the seat's types and functions that the engine asks for: printed by wip/mkty.py. -/
namespace Go.Proofs.YtgidhhpjabdnkaaGreatDoor
open Go Go.Eng

instance : T1 Tryz.prog 1 := .of Tryz.underlying1 rfl
instance : TE Tryz.prog 1 1 8 (.nilFunc) := .of (by kernel_rfl)
instance : TU Tryz.prog 2 (.int .i64) := ⟨Tryz.underlying2⟩
instance : T1 Tryz.prog 2 := .of Tryz.underlying2 rfl
instance : TE Tryz.prog 2 1 8 (.int .i64 0) := .of (by kernel_rfl)
instance : EncOf Tryz.prog 2 encI decI := ⟨trivial⟩
instance : TU Tryz.prog 3 (.int .i64) := ⟨Tryz.underlying3⟩
instance : T1 Tryz.prog 3 := .of Tryz.underlying3 rfl
instance : TE Tryz.prog 3 1 8 (.int .i64 0) := .of (by kernel_rfl)
instance : EncOf Tryz.prog 3 encI decI := ⟨trivial⟩
instance : TU Tryz.prog 4 (.bool) := ⟨Tryz.underlying4⟩
instance : T1 Tryz.prog 4 := .of Tryz.underlying4 rfl
instance : TE Tryz.prog 4 1 1 (.bool false) := .of (by kernel_rfl)
instance : EncOf Tryz.prog 4 encB decB := ⟨trivial⟩
instance : TU Tryz.prog 5 (.int .u8) := ⟨Tryz.underlying5⟩
instance : T1 Tryz.prog 5 := .of Tryz.underlying5 rfl
instance : TE Tryz.prog 5 1 1 (.int .u8 0) := .of (by kernel_rfl)
instance : EncOf Tryz.prog 5 encU8 decU8 := ⟨trivial⟩
instance : TN Tryz.prog 7 4 := .of Tryz.underlying7 rfl (by kernel_rfl)
instance : TE Tryz.prog 7 4 24 (.agg #[.int .i64 0, .int .i64 0, .bool false, .int .u8 0]) := .of (by kernel_rfl)
instance : TF Tryz.prog 7 0 0 := .of (n := 0) Tryz.underlying7 rfl rfl (by kernel_rfl)
instance : TF Tryz.prog 7 1 1 := .of (n := 0) Tryz.underlying7 rfl rfl (by kernel_rfl)
instance : TF Tryz.prog 7 2 2 := .of (n := 0) Tryz.underlying7 rfl rfl (by kernel_rfl)
instance : TF Tryz.prog 7 3 3 := .of (n := 0) Tryz.underlying7 rfl rfl (by kernel_rfl)
instance : TP Tryz.prog 7 (.agg #[.int .i64 0, .int .i64 0, .bool false, .int .u8 0]) [(0, 1), (1, 1), (2, 1), (3, 1)] := .of Tryz.underlying7 (by kernel_rfl) (by kernel_rfl)
instance : TU Tryz.prog 9 (.string) := ⟨Tryz.underlying9⟩
instance : T1 Tryz.prog 9 := .of Tryz.underlying9 rfl
instance : TE Tryz.prog 9 1 16 (.string ByteArray.empty) := .of (by kernel_rfl)
instance : EncOf Tryz.prog 9 encT decT := ⟨trivial⟩
instance : TU Tryz.prog 12 (.int .u64) := ⟨Tryz.underlying12⟩
instance : T1 Tryz.prog 12 := .of Tryz.underlying12 rfl
instance : TE Tryz.prog 12 1 8 (.int .u64 0) := .of (by kernel_rfl)
instance : EncOf Tryz.prog 12 encW decW := ⟨trivial⟩
instance : TN Tryz.prog 13 2 := .of Tryz.underlying13 rfl (by kernel_rfl)
instance : TE Tryz.prog 13 2 24 (.agg #[.string ByteArray.empty, .int .u64 0]) := .of (by kernel_rfl)
instance : TF Tryz.prog 13 0 0 := .of (n := 0) Tryz.underlying13 rfl rfl (by kernel_rfl)
instance : TF Tryz.prog 13 1 1 := .of (n := 0) Tryz.underlying13 rfl rfl (by kernel_rfl)
instance : TP Tryz.prog 13 (.agg #[.string ByteArray.empty, .int .u64 0]) [(0, 1), (1, 1)] := .of Tryz.underlying13 (by kernel_rfl) (by kernel_rfl)
instance : T1 Tryz.prog 17 := .of Tryz.underlying17 rfl
instance : TE Tryz.prog 17 1 8 (.pointer none) := .of (by kernel_rfl)
instance : EncOf Tryz.prog 17 encV decV := ⟨trivial⟩
instance : TN Tryz.prog 18 1 := .of Tryz.underlying18 rfl (by kernel_rfl)
instance : TE Tryz.prog 18 1 8 (.agg #[.pointer none]) := .of (by kernel_rfl)
instance : TF Tryz.prog 18 0 0 := .of (n := 0) Tryz.underlying18 rfl rfl (by kernel_rfl)
instance : TP Tryz.prog 18 (.agg #[.pointer none]) [(0, 1)] := .of Tryz.underlying18 (by kernel_rfl) (by kernel_rfl)
instance : T1 Tryz.prog 20 := .of Tryz.underlying20 rfl
instance : TE Tryz.prog 20 1 16 (.nilIface) := .of (by kernel_rfl)
instance : EncOf Tryz.prog 20 encV decV := ⟨trivial⟩
instance : TU Tryz.prog 21 (.int .i32) := ⟨Tryz.underlying21⟩
instance : T1 Tryz.prog 21 := .of Tryz.underlying21 rfl
instance : TE Tryz.prog 21 1 4 (.int .i32 0) := .of (by kernel_rfl)
instance : TU Tryz.prog 22 (.slice 9) := ⟨Tryz.underlying22⟩
instance : T1 Tryz.prog 22 := .of Tryz.underlying22 rfl
instance : TE Tryz.prog 22 1 24 (.slice none 0 0) := .of (by kernel_rfl)
instance : TSl Tryz.prog 22 9 := ⟨Tryz.underlying22⟩
instance : EncOf Tryz.prog 22 encV decV := ⟨trivial⟩
instance : TU Tryz.prog 23 (.slice 3) := ⟨Tryz.underlying23⟩
instance : T1 Tryz.prog 23 := .of Tryz.underlying23 rfl
instance : TE Tryz.prog 23 1 24 (.slice none 0 0) := .of (by kernel_rfl)
instance : TSl Tryz.prog 23 3 := ⟨Tryz.underlying23⟩
instance : EncOf Tryz.prog 23 encV decV := ⟨trivial⟩
instance : TU Tryz.prog 24 (.slice 76) := ⟨Tryz.underlying24⟩
instance : T1 Tryz.prog 24 := .of Tryz.underlying24 rfl
instance : TE Tryz.prog 24 1 24 (.slice none 0 0) := .of (by kernel_rfl)
instance : TSl Tryz.prog 24 76 := ⟨Tryz.underlying24⟩
instance : EncOf Tryz.prog 24 encV decV := ⟨trivial⟩
instance : TU Tryz.prog 25 (.slice 87) := ⟨Tryz.underlying25⟩
instance : T1 Tryz.prog 25 := .of Tryz.underlying25 rfl
instance : TE Tryz.prog 25 1 24 (.slice none 0 0) := .of (by kernel_rfl)
instance : TSl Tryz.prog 25 87 := ⟨Tryz.underlying25⟩
instance : EncOf Tryz.prog 25 encV decV := ⟨trivial⟩
instance : TU Tryz.prog 26 (.slice 93) := ⟨Tryz.underlying26⟩
instance : T1 Tryz.prog 26 := .of Tryz.underlying26 rfl
instance : TE Tryz.prog 26 1 24 (.slice none 0 0) := .of (by kernel_rfl)
instance : TSl Tryz.prog 26 93 := ⟨Tryz.underlying26⟩
instance : EncOf Tryz.prog 26 encV decV := ⟨trivial⟩
instance : TU Tryz.prog 27 (.slice 124) := ⟨Tryz.underlying27⟩
instance : T1 Tryz.prog 27 := .of Tryz.underlying27 rfl
instance : TE Tryz.prog 27 1 24 (.slice none 0 0) := .of (by kernel_rfl)
instance : TSl Tryz.prog 27 124 := ⟨Tryz.underlying27⟩
instance : EncOf Tryz.prog 27 encV decV := ⟨trivial⟩
instance : TU Tryz.prog 28 (.slice 126) := ⟨Tryz.underlying28⟩
instance : T1 Tryz.prog 28 := .of Tryz.underlying28 rfl
instance : TE Tryz.prog 28 1 24 (.slice none 0 0) := .of (by kernel_rfl)
instance : TSl Tryz.prog 28 126 := ⟨Tryz.underlying28⟩
instance : EncOf Tryz.prog 28 encV decV := ⟨trivial⟩
instance : TN Tryz.prog 29 9 := .of Tryz.underlying29 rfl (by kernel_rfl)
instance : TE Tryz.prog 29 9 216 (.agg #[.slice none 0 0, .slice none 0 0, .slice none 0 0, .slice none 0 0, .slice none 0 0, .slice none 0 0, .slice none 0 0, .slice none 0 0, .slice none 0 0]) := .of (by kernel_rfl)
instance : TF Tryz.prog 29 0 0 := .of (n := 0) Tryz.underlying29 rfl rfl (by kernel_rfl)
instance : TF Tryz.prog 29 1 1 := .of (n := 0) Tryz.underlying29 rfl rfl (by kernel_rfl)
instance : TF Tryz.prog 29 2 2 := .of (n := 0) Tryz.underlying29 rfl rfl (by kernel_rfl)
instance : TF Tryz.prog 29 3 3 := .of (n := 0) Tryz.underlying29 rfl rfl (by kernel_rfl)
instance : TF Tryz.prog 29 4 4 := .of (n := 0) Tryz.underlying29 rfl rfl (by kernel_rfl)
instance : TF Tryz.prog 29 5 5 := .of (n := 0) Tryz.underlying29 rfl rfl (by kernel_rfl)
instance : TF Tryz.prog 29 6 6 := .of (n := 0) Tryz.underlying29 rfl rfl (by kernel_rfl)
instance : TF Tryz.prog 29 7 7 := .of (n := 0) Tryz.underlying29 rfl rfl (by kernel_rfl)
instance : TF Tryz.prog 29 8 8 := .of (n := 0) Tryz.underlying29 rfl rfl (by kernel_rfl)
instance : TP Tryz.prog 29 (.agg #[.slice none 0 0, .slice none 0 0, .slice none 0 0, .slice none 0 0, .slice none 0 0, .slice none 0 0, .slice none 0 0, .slice none 0 0, .slice none 0 0]) [(0, 1), (1, 1), (2, 1), (3, 1), (4, 1), (5, 1), (6, 1), (7, 1), (8, 1)] := .of Tryz.underlying29 (by kernel_rfl) (by kernel_rfl)
instance : TN Tryz.prog 30 9 := .of Tryz.underlying30 rfl (by kernel_rfl)
instance : TE Tryz.prog 30 9 216 (.agg #[.slice none 0 0, .slice none 0 0, .slice none 0 0, .slice none 0 0, .slice none 0 0, .slice none 0 0, .slice none 0 0, .slice none 0 0, .slice none 0 0]) := .of (by kernel_rfl)
instance : TF Tryz.prog 30 0 0 := .of (n := 0) Tryz.underlying30 rfl rfl (by kernel_rfl)
instance : TF Tryz.prog 30 1 1 := .of (n := 0) Tryz.underlying30 rfl rfl (by kernel_rfl)
instance : TF Tryz.prog 30 2 2 := .of (n := 0) Tryz.underlying30 rfl rfl (by kernel_rfl)
instance : TF Tryz.prog 30 3 3 := .of (n := 0) Tryz.underlying30 rfl rfl (by kernel_rfl)
instance : TF Tryz.prog 30 4 4 := .of (n := 0) Tryz.underlying30 rfl rfl (by kernel_rfl)
instance : TF Tryz.prog 30 5 5 := .of (n := 0) Tryz.underlying30 rfl rfl (by kernel_rfl)
instance : TF Tryz.prog 30 6 6 := .of (n := 0) Tryz.underlying30 rfl rfl (by kernel_rfl)
instance : TF Tryz.prog 30 7 7 := .of (n := 0) Tryz.underlying30 rfl rfl (by kernel_rfl)
instance : TF Tryz.prog 30 8 8 := .of (n := 0) Tryz.underlying30 rfl rfl (by kernel_rfl)
instance : TP Tryz.prog 30 (.agg #[.slice none 0 0, .slice none 0 0, .slice none 0 0, .slice none 0 0, .slice none 0 0, .slice none 0 0, .slice none 0 0, .slice none 0 0, .slice none 0 0]) [(0, 1), (1, 1), (2, 1), (3, 1), (4, 1), (5, 1), (6, 1), (7, 1), (8, 1)] := .of Tryz.underlying30 (by kernel_rfl) (by kernel_rfl)
instance : TU Tryz.prog 31 (.slice 23) := ⟨Tryz.underlying31⟩
instance : T1 Tryz.prog 31 := .of Tryz.underlying31 rfl
instance : TE Tryz.prog 31 1 24 (.slice none 0 0) := .of (by kernel_rfl)
instance : TSl Tryz.prog 31 23 := ⟨Tryz.underlying31⟩
instance : EncOf Tryz.prog 31 encV decV := ⟨trivial⟩
instance : TN Tryz.prog 32 2 := .of Tryz.underlying32 rfl (by kernel_rfl)
instance : TE Tryz.prog 32 2 48 (.agg #[.slice none 0 0, .slice none 0 0]) := .of (by kernel_rfl)
instance : TF Tryz.prog 32 0 0 := .of (n := 0) Tryz.underlying32 rfl rfl (by kernel_rfl)
instance : TF Tryz.prog 32 1 1 := .of (n := 0) Tryz.underlying32 rfl rfl (by kernel_rfl)
instance : TP Tryz.prog 32 (.agg #[.slice none 0 0, .slice none 0 0]) [(0, 1), (1, 1)] := .of Tryz.underlying32 (by kernel_rfl) (by kernel_rfl)
instance : TN Tryz.prog 33 2 := .of Tryz.underlying33 rfl (by kernel_rfl)
instance : TE Tryz.prog 33 2 48 (.agg #[.slice none 0 0, .slice none 0 0]) := .of (by kernel_rfl)
instance : TF Tryz.prog 33 0 0 := .of (n := 0) Tryz.underlying33 rfl rfl (by kernel_rfl)
instance : TF Tryz.prog 33 1 1 := .of (n := 0) Tryz.underlying33 rfl rfl (by kernel_rfl)
instance : TP Tryz.prog 33 (.agg #[.slice none 0 0, .slice none 0 0]) [(0, 1), (1, 1)] := .of Tryz.underlying33 (by kernel_rfl) (by kernel_rfl)
instance : TU Tryz.prog 34 (.int .u64) := ⟨Tryz.underlying34⟩
instance : T1 Tryz.prog 34 := .of Tryz.underlying34 rfl
instance : TE Tryz.prog 34 1 8 (.int .u64 0) := .of (by kernel_rfl)
instance : EncOf Tryz.prog 34 encW decW := ⟨trivial⟩
instance : TU Tryz.prog 35 (.int .i64) := ⟨Tryz.underlying35⟩
instance : T1 Tryz.prog 35 := .of Tryz.underlying35 rfl
instance : TE Tryz.prog 35 1 8 (.int .i64 0) := .of (by kernel_rfl)
instance : EncOf Tryz.prog 35 encI decI := ⟨trivial⟩
instance : T1 Tryz.prog 37 := .of Tryz.underlying37 rfl
instance : TE Tryz.prog 37 1 8 (.nilFunc) := .of (by kernel_rfl)
instance : T1 Tryz.prog 38 := .of Tryz.underlying38 rfl
instance : TE Tryz.prog 38 1 8 (.nilFunc) := .of (by kernel_rfl)
instance : T1 Tryz.prog 39 := .of Tryz.underlying39 rfl
instance : TE Tryz.prog 39 1 8 (.nilFunc) := .of (by kernel_rfl)
instance : T1 Tryz.prog 40 := .of Tryz.underlying40 rfl
instance : TE Tryz.prog 40 1 8 (.nilFunc) := .of (by kernel_rfl)
instance : TU Tryz.prog 41 (.slice 34) := ⟨Tryz.underlying41⟩
instance : T1 Tryz.prog 41 := .of Tryz.underlying41 rfl
instance : TE Tryz.prog 41 1 24 (.slice none 0 0) := .of (by kernel_rfl)
instance : TSl Tryz.prog 41 34 := ⟨Tryz.underlying41⟩
instance : EncOf Tryz.prog 41 encV decV := ⟨trivial⟩
instance : TN Tryz.prog 42 2 := .of Tryz.underlying42 rfl (by kernel_rfl)
instance : TE Tryz.prog 42 2 32 (.agg #[.int .i64 0, .slice none 0 0]) := .of (by kernel_rfl)
instance : TF Tryz.prog 42 0 0 := .of (n := 0) Tryz.underlying42 rfl rfl (by kernel_rfl)
instance : TF Tryz.prog 42 1 1 := .of (n := 0) Tryz.underlying42 rfl rfl (by kernel_rfl)
instance : TP Tryz.prog 42 (.agg #[.int .i64 0, .slice none 0 0]) [(0, 1), (1, 1)] := .of Tryz.underlying42 (by kernel_rfl) (by kernel_rfl)
instance : TN Tryz.prog 43 2 := .of Tryz.underlying43 rfl (by kernel_rfl)
instance : TE Tryz.prog 43 2 32 (.agg #[.int .i64 0, .slice none 0 0]) := .of (by kernel_rfl)
instance : TF Tryz.prog 43 0 0 := .of (n := 0) Tryz.underlying43 rfl rfl (by kernel_rfl)
instance : TF Tryz.prog 43 1 1 := .of (n := 0) Tryz.underlying43 rfl rfl (by kernel_rfl)
instance : TP Tryz.prog 43 (.agg #[.int .i64 0, .slice none 0 0]) [(0, 1), (1, 1)] := .of Tryz.underlying43 (by kernel_rfl) (by kernel_rfl)
instance : TN Tryz.prog 44 18 := .of Tryz.underlying44 rfl (by kernel_rfl)
instance : TE Tryz.prog 44 18 288 (.agg #[.int .i64 0, .slice none 0 0, .int .i64 0, .slice none 0 0, .int .i64 0, .slice none 0 0, .int .i64 0, .slice none 0 0, .int .i64 0, .slice none 0 0, .int .i64 0, .slice none 0 0, .int .i64 0, .slice none 0 0, .int .i64 0, .slice none 0 0, .int .i64 0, .slice none 0 0]) := .of (by kernel_rfl)
instance : TF Tryz.prog 44 0 0 := .of (n := 1) Tryz.underlying44 rfl rfl (by kernel_rfl)
instance : TF Tryz.prog 44 1 2 := .of (n := 1) Tryz.underlying44 rfl rfl (by kernel_rfl)
instance : TF Tryz.prog 44 2 4 := .of (n := 1) Tryz.underlying44 rfl rfl (by kernel_rfl)
instance : TF Tryz.prog 44 3 6 := .of (n := 1) Tryz.underlying44 rfl rfl (by kernel_rfl)
instance : TF Tryz.prog 44 4 8 := .of (n := 1) Tryz.underlying44 rfl rfl (by kernel_rfl)
instance : TF Tryz.prog 44 5 10 := .of (n := 1) Tryz.underlying44 rfl rfl (by kernel_rfl)
instance : TF Tryz.prog 44 6 12 := .of (n := 1) Tryz.underlying44 rfl rfl (by kernel_rfl)
instance : TF Tryz.prog 44 7 14 := .of (n := 1) Tryz.underlying44 rfl rfl (by kernel_rfl)
instance : TF Tryz.prog 44 8 16 := .of (n := 1) Tryz.underlying44 rfl rfl (by kernel_rfl)
instance : TP Tryz.prog 44 (.agg #[.int .i64 0, .slice none 0 0, .int .i64 0, .slice none 0 0, .int .i64 0, .slice none 0 0, .int .i64 0, .slice none 0 0, .int .i64 0, .slice none 0 0, .int .i64 0, .slice none 0 0, .int .i64 0, .slice none 0 0, .int .i64 0, .slice none 0 0, .int .i64 0, .slice none 0 0]) [(0, 2), (2, 2), (4, 2), (6, 2), (8, 2), (10, 2), (12, 2), (14, 2), (16, 2)] := .of Tryz.underlying44 (by kernel_rfl) (by kernel_rfl)
instance : TN Tryz.prog 45 18 := .of Tryz.underlying45 rfl (by kernel_rfl)
instance : TE Tryz.prog 45 18 288 (.agg #[.int .i64 0, .slice none 0 0, .int .i64 0, .slice none 0 0, .int .i64 0, .slice none 0 0, .int .i64 0, .slice none 0 0, .int .i64 0, .slice none 0 0, .int .i64 0, .slice none 0 0, .int .i64 0, .slice none 0 0, .int .i64 0, .slice none 0 0, .int .i64 0, .slice none 0 0]) := .of (by kernel_rfl)
instance : TF Tryz.prog 45 0 0 := .of (n := 1) Tryz.underlying45 rfl rfl (by kernel_rfl)
instance : TF Tryz.prog 45 1 2 := .of (n := 1) Tryz.underlying45 rfl rfl (by kernel_rfl)
instance : TF Tryz.prog 45 2 4 := .of (n := 1) Tryz.underlying45 rfl rfl (by kernel_rfl)
instance : TF Tryz.prog 45 3 6 := .of (n := 1) Tryz.underlying45 rfl rfl (by kernel_rfl)
instance : TF Tryz.prog 45 4 8 := .of (n := 1) Tryz.underlying45 rfl rfl (by kernel_rfl)
instance : TF Tryz.prog 45 5 10 := .of (n := 1) Tryz.underlying45 rfl rfl (by kernel_rfl)
instance : TF Tryz.prog 45 6 12 := .of (n := 1) Tryz.underlying45 rfl rfl (by kernel_rfl)
instance : TF Tryz.prog 45 7 14 := .of (n := 1) Tryz.underlying45 rfl rfl (by kernel_rfl)
instance : TF Tryz.prog 45 8 16 := .of (n := 1) Tryz.underlying45 rfl rfl (by kernel_rfl)
instance : TP Tryz.prog 45 (.agg #[.int .i64 0, .slice none 0 0, .int .i64 0, .slice none 0 0, .int .i64 0, .slice none 0 0, .int .i64 0, .slice none 0 0, .int .i64 0, .slice none 0 0, .int .i64 0, .slice none 0 0, .int .i64 0, .slice none 0 0, .int .i64 0, .slice none 0 0, .int .i64 0, .slice none 0 0]) [(0, 2), (2, 2), (4, 2), (6, 2), (8, 2), (10, 2), (12, 2), (14, 2), (16, 2)] := .of Tryz.underlying45 (by kernel_rfl) (by kernel_rfl)
instance : T1 Tryz.prog 47 := .of Tryz.underlying47 rfl
instance : TE Tryz.prog 47 1 8 (.nilFunc) := .of (by kernel_rfl)
instance : T1 Tryz.prog 49 := .of Tryz.underlying49 rfl
instance : TE Tryz.prog 49 1 8 (.nilFunc) := .of (by kernel_rfl)
instance : T1 Tryz.prog 50 := .of Tryz.underlying50 rfl
instance : TE Tryz.prog 50 1 8 (.nilFunc) := .of (by kernel_rfl)
instance : T1 Tryz.prog 51 := .of Tryz.underlying51 rfl
instance : TE Tryz.prog 51 1 8 (.nilFunc) := .of (by kernel_rfl)
instance : T1 Tryz.prog 52 := .of Tryz.underlying52 rfl
instance : TE Tryz.prog 52 1 8 (.nilFunc) := .of (by kernel_rfl)
instance : T1 Tryz.prog 53 := .of Tryz.underlying53 rfl
instance : TE Tryz.prog 53 1 8 (.nilFunc) := .of (by kernel_rfl)
instance : T1 Tryz.prog 54 := .of Tryz.underlying54 rfl
instance : TE Tryz.prog 54 1 8 (.nilFunc) := .of (by kernel_rfl)
instance : T1 Tryz.prog 55 := .of Tryz.underlying55 rfl
instance : TE Tryz.prog 55 1 8 (.nilFunc) := .of (by kernel_rfl)
instance : T1 Tryz.prog 56 := .of Tryz.underlying56 rfl
instance : TE Tryz.prog 56 1 8 (.nilFunc) := .of (by kernel_rfl)
instance : T1 Tryz.prog 57 := .of Tryz.underlying57 rfl
instance : TE Tryz.prog 57 1 8 (.nilFunc) := .of (by kernel_rfl)
instance : T1 Tryz.prog 58 := .of Tryz.underlying58 rfl
instance : TE Tryz.prog 58 1 8 (.nilFunc) := .of (by kernel_rfl)
instance : T1 Tryz.prog 59 := .of Tryz.underlying59 rfl
instance : TE Tryz.prog 59 1 8 (.nilFunc) := .of (by kernel_rfl)
instance : T1 Tryz.prog 60 := .of Tryz.underlying60 rfl
instance : TE Tryz.prog 60 1 8 (.nilFunc) := .of (by kernel_rfl)
instance : T1 Tryz.prog 62 := .of Tryz.underlying62 rfl
instance : TE Tryz.prog 62 1 8 (.nilFunc) := .of (by kernel_rfl)
instance : TU Tryz.prog 63 (.slice 82) := ⟨Tryz.underlying63⟩
instance : T1 Tryz.prog 63 := .of Tryz.underlying63 rfl
instance : TE Tryz.prog 63 1 24 (.slice none 0 0) := .of (by kernel_rfl)
instance : TSl Tryz.prog 63 82 := ⟨Tryz.underlying63⟩
instance : EncOf Tryz.prog 63 encV decV := ⟨trivial⟩
instance : T1 Tryz.prog 65 := .of Tryz.underlying65 rfl
instance : TE Tryz.prog 65 1 8 (.nilFunc) := .of (by kernel_rfl)
instance : T1 Tryz.prog 66 := .of Tryz.underlying66 rfl
instance : TE Tryz.prog 66 1 8 (.nilFunc) := .of (by kernel_rfl)
instance : T1 Tryz.prog 67 := .of Tryz.underlying67 rfl
instance : TE Tryz.prog 67 1 8 (.nilFunc) := .of (by kernel_rfl)
instance : T1 Tryz.prog 68 := .of Tryz.underlying68 rfl
instance : TE Tryz.prog 68 1 8 (.nilFunc) := .of (by kernel_rfl)
instance : T1 Tryz.prog 69 := .of Tryz.underlying69 rfl
instance : TE Tryz.prog 69 1 8 (.nilFunc) := .of (by kernel_rfl)
instance : T1 Tryz.prog 70 := .of Tryz.underlying70 rfl
instance : TE Tryz.prog 70 1 8 (.pointer none) := .of (by kernel_rfl)
instance : EncOf Tryz.prog 70 encV decV := ⟨trivial⟩
instance : T1 Tryz.prog 72 := .of Tryz.underlying72 rfl
instance : TE Tryz.prog 72 1 8 (.nilFunc) := .of (by kernel_rfl)
instance : T1 Tryz.prog 73 := .of Tryz.underlying73 rfl
instance : TE Tryz.prog 73 1 8 (.nilFunc) := .of (by kernel_rfl)
instance : T1 Tryz.prog 74 := .of Tryz.underlying74 rfl
instance : TE Tryz.prog 74 1 8 (.nilFunc) := .of (by kernel_rfl)
instance : TN Tryz.prog 75 6 := .of Tryz.underlying75 rfl (by kernel_rfl)
instance : TE Tryz.prog 75 6 48 (.agg #[.int .i64 0, .int .i64 0, .int .i64 0, .int .i64 0, .int .i64 0, .int .i64 0]) := .of (by kernel_rfl)
instance : TF Tryz.prog 75 0 0 := .of (n := 0) Tryz.underlying75 rfl rfl (by kernel_rfl)
instance : TF Tryz.prog 75 1 1 := .of (n := 0) Tryz.underlying75 rfl rfl (by kernel_rfl)
instance : TF Tryz.prog 75 2 2 := .of (n := 0) Tryz.underlying75 rfl rfl (by kernel_rfl)
instance : TF Tryz.prog 75 3 3 := .of (n := 0) Tryz.underlying75 rfl rfl (by kernel_rfl)
instance : TF Tryz.prog 75 4 4 := .of (n := 0) Tryz.underlying75 rfl rfl (by kernel_rfl)
instance : TF Tryz.prog 75 5 5 := .of (n := 0) Tryz.underlying75 rfl rfl (by kernel_rfl)
instance : TP Tryz.prog 75 (.agg #[.int .i64 0, .int .i64 0, .int .i64 0, .int .i64 0, .int .i64 0, .int .i64 0]) [(0, 1), (1, 1), (2, 1), (3, 1), (4, 1), (5, 1)] := .of Tryz.underlying75 (by kernel_rfl) (by kernel_rfl)
instance : TN Tryz.prog 76 6 := .of Tryz.underlying76 rfl (by kernel_rfl)
instance : TE Tryz.prog 76 6 48 (.agg #[.int .i64 0, .int .i64 0, .int .i64 0, .int .i64 0, .int .i64 0, .int .i64 0]) := .of (by kernel_rfl)
instance : TF Tryz.prog 76 0 0 := .of (n := 0) Tryz.underlying76 rfl rfl (by kernel_rfl)
instance : TF Tryz.prog 76 1 1 := .of (n := 0) Tryz.underlying76 rfl rfl (by kernel_rfl)
instance : TF Tryz.prog 76 2 2 := .of (n := 0) Tryz.underlying76 rfl rfl (by kernel_rfl)
instance : TF Tryz.prog 76 3 3 := .of (n := 0) Tryz.underlying76 rfl rfl (by kernel_rfl)
instance : TF Tryz.prog 76 4 4 := .of (n := 0) Tryz.underlying76 rfl rfl (by kernel_rfl)
instance : TF Tryz.prog 76 5 5 := .of (n := 0) Tryz.underlying76 rfl rfl (by kernel_rfl)
instance : TP Tryz.prog 76 (.agg #[.int .i64 0, .int .i64 0, .int .i64 0, .int .i64 0, .int .i64 0, .int .i64 0]) [(0, 1), (1, 1), (2, 1), (3, 1), (4, 1), (5, 1)] := .of Tryz.underlying76 (by kernel_rfl) (by kernel_rfl)
instance : EncOf Tryz.prog 76 encEv decEv := ⟨trivial⟩
instance : T1 Tryz.prog 77 := .of Tryz.underlying77 rfl
instance : TE Tryz.prog 77 1 8 (.nilFunc) := .of (by kernel_rfl)
instance : T1 Tryz.prog 78 := .of Tryz.underlying78 rfl
instance : TE Tryz.prog 78 1 8 (.nilFunc) := .of (by kernel_rfl)
instance : T1 Tryz.prog 79 := .of Tryz.underlying79 rfl
instance : TE Tryz.prog 79 1 8 (.nilFunc) := .of (by kernel_rfl)
instance : T1 Tryz.prog 80 := .of Tryz.underlying80 rfl
instance : TE Tryz.prog 80 1 8 (.nilFunc) := .of (by kernel_rfl)
instance : TN Tryz.prog 81 3 := .of Tryz.underlying81 rfl (by kernel_rfl)
instance : TE Tryz.prog 81 3 24 (.agg #[.int .i64 0, .int .i64 0, .int .i64 0]) := .of (by kernel_rfl)
instance : TF Tryz.prog 81 0 0 := .of (n := 0) Tryz.underlying81 rfl rfl (by kernel_rfl)
instance : TF Tryz.prog 81 1 1 := .of (n := 0) Tryz.underlying81 rfl rfl (by kernel_rfl)
instance : TF Tryz.prog 81 2 2 := .of (n := 0) Tryz.underlying81 rfl rfl (by kernel_rfl)
instance : TP Tryz.prog 81 (.agg #[.int .i64 0, .int .i64 0, .int .i64 0]) [(0, 1), (1, 1), (2, 1)] := .of Tryz.underlying81 (by kernel_rfl) (by kernel_rfl)
instance : TN Tryz.prog 82 3 := .of Tryz.underlying82 rfl (by kernel_rfl)
instance : TE Tryz.prog 82 3 24 (.agg #[.int .i64 0, .int .i64 0, .int .i64 0]) := .of (by kernel_rfl)
instance : TF Tryz.prog 82 0 0 := .of (n := 0) Tryz.underlying82 rfl rfl (by kernel_rfl)
instance : TF Tryz.prog 82 1 1 := .of (n := 0) Tryz.underlying82 rfl rfl (by kernel_rfl)
instance : TF Tryz.prog 82 2 2 := .of (n := 0) Tryz.underlying82 rfl rfl (by kernel_rfl)
instance : TP Tryz.prog 82 (.agg #[.int .i64 0, .int .i64 0, .int .i64 0]) [(0, 1), (1, 1), (2, 1)] := .of Tryz.underlying82 (by kernel_rfl) (by kernel_rfl)
instance : EncOf Tryz.prog 82 encArc decArc := ⟨trivial⟩
instance : T1 Tryz.prog 83 := .of Tryz.underlying83 rfl
instance : TE Tryz.prog 83 1 8 (.nilFunc) := .of (by kernel_rfl)
instance : T1 Tryz.prog 84 := .of Tryz.underlying84 rfl
instance : TE Tryz.prog 84 1 8 (.nilFunc) := .of (by kernel_rfl)
instance : TU Tryz.prog 85 (.int .u64) := ⟨Tryz.underlying85⟩
instance : T1 Tryz.prog 85 := .of Tryz.underlying85 rfl
instance : TE Tryz.prog 85 1 8 (.int .u64 0) := .of (by kernel_rfl)
instance : EncOf Tryz.prog 85 encW decW := ⟨trivial⟩
instance : TN Tryz.prog 86 3 := .of Tryz.underlying86 rfl (by kernel_rfl)
instance : TE Tryz.prog 86 3 24 (.agg #[.int .i64 0, .int .i64 0, .int .i64 0]) := .of (by kernel_rfl)
instance : TF Tryz.prog 86 0 0 := .of (n := 0) Tryz.underlying86 rfl rfl (by kernel_rfl)
instance : TF Tryz.prog 86 1 1 := .of (n := 0) Tryz.underlying86 rfl rfl (by kernel_rfl)
instance : TF Tryz.prog 86 2 2 := .of (n := 0) Tryz.underlying86 rfl rfl (by kernel_rfl)
instance : TP Tryz.prog 86 (.agg #[.int .i64 0, .int .i64 0, .int .i64 0]) [(0, 1), (1, 1), (2, 1)] := .of Tryz.underlying86 (by kernel_rfl) (by kernel_rfl)
instance : TN Tryz.prog 87 3 := .of Tryz.underlying87 rfl (by kernel_rfl)
instance : TE Tryz.prog 87 3 24 (.agg #[.int .i64 0, .int .i64 0, .int .i64 0]) := .of (by kernel_rfl)
instance : TF Tryz.prog 87 0 0 := .of (n := 0) Tryz.underlying87 rfl rfl (by kernel_rfl)
instance : TF Tryz.prog 87 1 1 := .of (n := 0) Tryz.underlying87 rfl rfl (by kernel_rfl)
instance : TF Tryz.prog 87 2 2 := .of (n := 0) Tryz.underlying87 rfl rfl (by kernel_rfl)
instance : TP Tryz.prog 87 (.agg #[.int .i64 0, .int .i64 0, .int .i64 0]) [(0, 1), (1, 1), (2, 1)] := .of Tryz.underlying87 (by kernel_rfl) (by kernel_rfl)
instance : EncOf Tryz.prog 87 encBar decBar := ⟨trivial⟩
instance : T1 Tryz.prog 88 := .of Tryz.underlying88 rfl
instance : TE Tryz.prog 88 1 8 (.nilFunc) := .of (by kernel_rfl)
instance : T1 Tryz.prog 89 := .of Tryz.underlying89 rfl
instance : TE Tryz.prog 89 1 8 (.nilFunc) := .of (by kernel_rfl)
instance : T1 Tryz.prog 91 := .of Tryz.underlying91 rfl
instance : TE Tryz.prog 91 1 8 (.nilFunc) := .of (by kernel_rfl)
instance : TN Tryz.prog 92 2 := .of Tryz.underlying92 rfl (by kernel_rfl)
instance : TE Tryz.prog 92 2 16 (.agg #[.int .i64 0, .int .i64 0]) := .of (by kernel_rfl)
instance : TF Tryz.prog 92 0 0 := .of (n := 0) Tryz.underlying92 rfl rfl (by kernel_rfl)
instance : TF Tryz.prog 92 1 1 := .of (n := 0) Tryz.underlying92 rfl rfl (by kernel_rfl)
instance : TP Tryz.prog 92 (.agg #[.int .i64 0, .int .i64 0]) [(0, 1), (1, 1)] := .of Tryz.underlying92 (by kernel_rfl) (by kernel_rfl)
instance : TN Tryz.prog 93 2 := .of Tryz.underlying93 rfl (by kernel_rfl)
instance : TE Tryz.prog 93 2 16 (.agg #[.int .i64 0, .int .i64 0]) := .of (by kernel_rfl)
instance : TF Tryz.prog 93 0 0 := .of (n := 0) Tryz.underlying93 rfl rfl (by kernel_rfl)
instance : TF Tryz.prog 93 1 1 := .of (n := 0) Tryz.underlying93 rfl rfl (by kernel_rfl)
instance : TP Tryz.prog 93 (.agg #[.int .i64 0, .int .i64 0]) [(0, 1), (1, 1)] := .of Tryz.underlying93 (by kernel_rfl) (by kernel_rfl)
instance : EncOf Tryz.prog 93 encPair decPair := ⟨trivial⟩
instance : T1 Tryz.prog 94 := .of Tryz.underlying94 rfl
instance : TE Tryz.prog 94 1 8 (.nilFunc) := .of (by kernel_rfl)
instance : T1 Tryz.prog 95 := .of Tryz.underlying95 rfl
instance : TE Tryz.prog 95 1 8 (.nilFunc) := .of (by kernel_rfl)
instance : T1 Tryz.prog 96 := .of Tryz.underlying96 rfl
instance : TE Tryz.prog 96 1 8 (.nilFunc) := .of (by kernel_rfl)
instance : T1 Tryz.prog 97 := .of Tryz.underlying97 rfl
instance : TE Tryz.prog 97 1 8 (.nilFunc) := .of (by kernel_rfl)
instance : T1 Tryz.prog 98 := .of Tryz.underlying98 rfl
instance : TE Tryz.prog 98 1 8 (.nilFunc) := .of (by kernel_rfl)
instance : T1 Tryz.prog 99 := .of Tryz.underlying99 rfl
instance : TE Tryz.prog 99 1 8 (.nilFunc) := .of (by kernel_rfl)
instance : T1 Tryz.prog 100 := .of Tryz.underlying100 rfl
instance : TE Tryz.prog 100 1 8 (.nilFunc) := .of (by kernel_rfl)
instance : T1 Tryz.prog 101 := .of Tryz.underlying101 rfl
instance : TE Tryz.prog 101 1 8 (.nilFunc) := .of (by kernel_rfl)
instance : T1 Tryz.prog 102 := .of Tryz.underlying102 rfl
instance : TE Tryz.prog 102 1 8 (.nilFunc) := .of (by kernel_rfl)
instance : T1 Tryz.prog 103 := .of Tryz.underlying103 rfl
instance : TE Tryz.prog 103 1 8 (.nilFunc) := .of (by kernel_rfl)
instance : T1 Tryz.prog 104 := .of Tryz.underlying104 rfl
instance : TE Tryz.prog 104 1 8 (.nilFunc) := .of (by kernel_rfl)
instance : T1 Tryz.prog 105 := .of Tryz.underlying105 rfl
instance : TE Tryz.prog 105 1 8 (.nilFunc) := .of (by kernel_rfl)
instance : TN Tryz.prog 106 37 := .of Tryz.underlying106 rfl (by kernel_rfl)
instance : TE Tryz.prog 106 37 680 (.agg #[.slice none 0 0, .slice none 0 0, .slice none 0 0, .slice none 0 0, .slice none 0 0, .slice none 0 0, .slice none 0 0, .slice none 0 0, .slice none 0 0, .slice none 0 0, .slice none 0 0, .int .i64 0, .slice none 0 0, .int .i64 0, .slice none 0 0, .int .i64 0, .slice none 0 0, .int .i64 0, .slice none 0 0, .int .i64 0, .slice none 0 0, .int .i64 0, .slice none 0 0, .int .i64 0, .slice none 0 0, .int .i64 0, .slice none 0 0, .int .i64 0, .slice none 0 0, .int .i64 0, .slice none 0 0, .int .i64 0, .slice none 0 0, .int .i64 0, .slice none 0 0, .int .i64 0, .slice none 0 0]) := .of (by kernel_rfl)
instance : TF Tryz.prog 106 0 0 := .of (n := 8) Tryz.underlying106 rfl rfl (by kernel_rfl)
instance : TF Tryz.prog 106 1 9 := .of (n := 1) Tryz.underlying106 rfl rfl (by kernel_rfl)
instance : TF Tryz.prog 106 2 11 := .of (n := 17) Tryz.underlying106 rfl rfl (by kernel_rfl)
instance : TF Tryz.prog 106 3 29 := .of (n := 1) Tryz.underlying106 rfl rfl (by kernel_rfl)
instance : TF Tryz.prog 106 4 31 := .of (n := 1) Tryz.underlying106 rfl rfl (by kernel_rfl)
instance : TF Tryz.prog 106 5 33 := .of (n := 1) Tryz.underlying106 rfl rfl (by kernel_rfl)
instance : TF Tryz.prog 106 6 35 := .of (n := 1) Tryz.underlying106 rfl rfl (by kernel_rfl)
instance : TP Tryz.prog 106 (.agg #[.slice none 0 0, .slice none 0 0, .slice none 0 0, .slice none 0 0, .slice none 0 0, .slice none 0 0, .slice none 0 0, .slice none 0 0, .slice none 0 0, .slice none 0 0, .slice none 0 0, .int .i64 0, .slice none 0 0, .int .i64 0, .slice none 0 0, .int .i64 0, .slice none 0 0, .int .i64 0, .slice none 0 0, .int .i64 0, .slice none 0 0, .int .i64 0, .slice none 0 0, .int .i64 0, .slice none 0 0, .int .i64 0, .slice none 0 0, .int .i64 0, .slice none 0 0, .int .i64 0, .slice none 0 0, .int .i64 0, .slice none 0 0, .int .i64 0, .slice none 0 0, .int .i64 0, .slice none 0 0]) [(0, 9), (9, 2), (11, 18), (29, 2), (31, 2), (33, 2), (35, 2)] := .of Tryz.underlying106 (by kernel_rfl) (by kernel_rfl)
instance : TN Tryz.prog 107 37 := .of Tryz.underlying107 rfl (by kernel_rfl)
instance : TE Tryz.prog 107 37 680 (.agg #[.slice none 0 0, .slice none 0 0, .slice none 0 0, .slice none 0 0, .slice none 0 0, .slice none 0 0, .slice none 0 0, .slice none 0 0, .slice none 0 0, .slice none 0 0, .slice none 0 0, .int .i64 0, .slice none 0 0, .int .i64 0, .slice none 0 0, .int .i64 0, .slice none 0 0, .int .i64 0, .slice none 0 0, .int .i64 0, .slice none 0 0, .int .i64 0, .slice none 0 0, .int .i64 0, .slice none 0 0, .int .i64 0, .slice none 0 0, .int .i64 0, .slice none 0 0, .int .i64 0, .slice none 0 0, .int .i64 0, .slice none 0 0, .int .i64 0, .slice none 0 0, .int .i64 0, .slice none 0 0]) := .of (by kernel_rfl)
instance : TF Tryz.prog 107 0 0 := .of (n := 8) Tryz.underlying107 rfl rfl (by kernel_rfl)
instance : TF Tryz.prog 107 1 9 := .of (n := 1) Tryz.underlying107 rfl rfl (by kernel_rfl)
instance : TF Tryz.prog 107 2 11 := .of (n := 17) Tryz.underlying107 rfl rfl (by kernel_rfl)
instance : TF Tryz.prog 107 3 29 := .of (n := 1) Tryz.underlying107 rfl rfl (by kernel_rfl)
instance : TF Tryz.prog 107 4 31 := .of (n := 1) Tryz.underlying107 rfl rfl (by kernel_rfl)
instance : TF Tryz.prog 107 5 33 := .of (n := 1) Tryz.underlying107 rfl rfl (by kernel_rfl)
instance : TF Tryz.prog 107 6 35 := .of (n := 1) Tryz.underlying107 rfl rfl (by kernel_rfl)
instance : TP Tryz.prog 107 (.agg #[.slice none 0 0, .slice none 0 0, .slice none 0 0, .slice none 0 0, .slice none 0 0, .slice none 0 0, .slice none 0 0, .slice none 0 0, .slice none 0 0, .slice none 0 0, .slice none 0 0, .int .i64 0, .slice none 0 0, .int .i64 0, .slice none 0 0, .int .i64 0, .slice none 0 0, .int .i64 0, .slice none 0 0, .int .i64 0, .slice none 0 0, .int .i64 0, .slice none 0 0, .int .i64 0, .slice none 0 0, .int .i64 0, .slice none 0 0, .int .i64 0, .slice none 0 0, .int .i64 0, .slice none 0 0, .int .i64 0, .slice none 0 0, .int .i64 0, .slice none 0 0, .int .i64 0, .slice none 0 0]) [(0, 9), (9, 2), (11, 18), (29, 2), (31, 2), (33, 2), (35, 2)] := .of Tryz.underlying107 (by kernel_rfl) (by kernel_rfl)
instance : TU Tryz.prog 108 (.slice 4) := ⟨Tryz.underlying108⟩
instance : T1 Tryz.prog 108 := .of Tryz.underlying108 rfl
instance : TE Tryz.prog 108 1 24 (.slice none 0 0) := .of (by kernel_rfl)
instance : TSl Tryz.prog 108 4 := ⟨Tryz.underlying108⟩
instance : EncOf Tryz.prog 108 encV decV := ⟨trivial⟩
instance : T1 Tryz.prog 110 := .of Tryz.underlying110 rfl
instance : TE Tryz.prog 110 1 8 (.nilFunc) := .of (by kernel_rfl)
instance : TN Tryz.prog 111 29 := .of Tryz.underlying111 rfl (by kernel_rfl)
instance : TE Tryz.prog 111 29 552 (.agg #[.slice none 0 0, .slice none 0 0, .slice none 0 0, .slice none 0 0, .slice none 0 0, .slice none 0 0, .slice none 0 0, .slice none 0 0, .slice none 0 0, .slice none 0 0, .slice none 0 0, .int .i64 0, .slice none 0 0, .int .i64 0, .slice none 0 0, .int .i64 0, .slice none 0 0, .int .i64 0, .slice none 0 0, .int .i64 0, .slice none 0 0, .int .i64 0, .slice none 0 0, .int .i64 0, .slice none 0 0, .int .i64 0, .slice none 0 0, .int .i64 0, .slice none 0 0]) := .of (by kernel_rfl)
instance : TF Tryz.prog 111 0 0 := .of (n := 8) Tryz.underlying111 rfl rfl (by kernel_rfl)
instance : TF Tryz.prog 111 1 9 := .of (n := 1) Tryz.underlying111 rfl rfl (by kernel_rfl)
instance : TF Tryz.prog 111 2 11 := .of (n := 17) Tryz.underlying111 rfl rfl (by kernel_rfl)
instance : TP Tryz.prog 111 (.agg #[.slice none 0 0, .slice none 0 0, .slice none 0 0, .slice none 0 0, .slice none 0 0, .slice none 0 0, .slice none 0 0, .slice none 0 0, .slice none 0 0, .slice none 0 0, .slice none 0 0, .int .i64 0, .slice none 0 0, .int .i64 0, .slice none 0 0, .int .i64 0, .slice none 0 0, .int .i64 0, .slice none 0 0, .int .i64 0, .slice none 0 0, .int .i64 0, .slice none 0 0, .int .i64 0, .slice none 0 0, .int .i64 0, .slice none 0 0, .int .i64 0, .slice none 0 0]) [(0, 9), (9, 2), (11, 18)] := .of Tryz.underlying111 (by kernel_rfl) (by kernel_rfl)
instance : TN Tryz.prog 112 29 := .of Tryz.underlying112 rfl (by kernel_rfl)
instance : TE Tryz.prog 112 29 552 (.agg #[.slice none 0 0, .slice none 0 0, .slice none 0 0, .slice none 0 0, .slice none 0 0, .slice none 0 0, .slice none 0 0, .slice none 0 0, .slice none 0 0, .slice none 0 0, .slice none 0 0, .int .i64 0, .slice none 0 0, .int .i64 0, .slice none 0 0, .int .i64 0, .slice none 0 0, .int .i64 0, .slice none 0 0, .int .i64 0, .slice none 0 0, .int .i64 0, .slice none 0 0, .int .i64 0, .slice none 0 0, .int .i64 0, .slice none 0 0, .int .i64 0, .slice none 0 0]) := .of (by kernel_rfl)
instance : TF Tryz.prog 112 0 0 := .of (n := 8) Tryz.underlying112 rfl rfl (by kernel_rfl)
instance : TF Tryz.prog 112 1 9 := .of (n := 1) Tryz.underlying112 rfl rfl (by kernel_rfl)
instance : TF Tryz.prog 112 2 11 := .of (n := 17) Tryz.underlying112 rfl rfl (by kernel_rfl)
instance : TP Tryz.prog 112 (.agg #[.slice none 0 0, .slice none 0 0, .slice none 0 0, .slice none 0 0, .slice none 0 0, .slice none 0 0, .slice none 0 0, .slice none 0 0, .slice none 0 0, .slice none 0 0, .slice none 0 0, .int .i64 0, .slice none 0 0, .int .i64 0, .slice none 0 0, .int .i64 0, .slice none 0 0, .int .i64 0, .slice none 0 0, .int .i64 0, .slice none 0 0, .int .i64 0, .slice none 0 0, .int .i64 0, .slice none 0 0, .int .i64 0, .slice none 0 0, .int .i64 0, .slice none 0 0]) [(0, 9), (9, 2), (11, 18)] := .of Tryz.underlying112 (by kernel_rfl) (by kernel_rfl)
instance : T1 Tryz.prog 114 := .of Tryz.underlying114 rfl
instance : TE Tryz.prog 114 1 8 (.nilFunc) := .of (by kernel_rfl)
instance : T1 Tryz.prog 115 := .of Tryz.underlying115 rfl
instance : TE Tryz.prog 115 1 8 (.nilFunc) := .of (by kernel_rfl)
instance : T1 Tryz.prog 116 := .of Tryz.underlying116 rfl
instance : TE Tryz.prog 116 1 8 (.nilFunc) := .of (by kernel_rfl)
instance : T1 Tryz.prog 118 := .of Tryz.underlying118 rfl
instance : TE Tryz.prog 118 1 8 (.nilFunc) := .of (by kernel_rfl)
instance : TU Tryz.prog 119 (.slice 43) := ⟨Tryz.underlying119⟩
instance : T1 Tryz.prog 119 := .of Tryz.underlying119 rfl
instance : TE Tryz.prog 119 1 24 (.slice none 0 0) := .of (by kernel_rfl)
instance : TSl Tryz.prog 119 43 := ⟨Tryz.underlying119⟩
instance : EncOf Tryz.prog 119 encV decV := ⟨trivial⟩
instance : T1 Tryz.prog 120 := .of Tryz.underlying120 rfl
instance : TE Tryz.prog 120 1 8 (.nilFunc) := .of (by kernel_rfl)
instance : T1 Tryz.prog 121 := .of Tryz.underlying121 rfl
instance : TE Tryz.prog 121 1 8 (.nilFunc) := .of (by kernel_rfl)
instance : T1 Tryz.prog 122 := .of Tryz.underlying122 rfl
instance : TE Tryz.prog 122 1 8 (.nilFunc) := .of (by kernel_rfl)
instance : TN Tryz.prog 123 3 := .of Tryz.underlying123 rfl (by kernel_rfl)
instance : TE Tryz.prog 123 3 32 (.agg #[.int .i64 0, .int .i64 0, .string ByteArray.empty]) := .of (by kernel_rfl)
instance : TF Tryz.prog 123 0 0 := .of (n := 0) Tryz.underlying123 rfl rfl (by kernel_rfl)
instance : TF Tryz.prog 123 1 1 := .of (n := 0) Tryz.underlying123 rfl rfl (by kernel_rfl)
instance : TF Tryz.prog 123 2 2 := .of (n := 0) Tryz.underlying123 rfl rfl (by kernel_rfl)
instance : TP Tryz.prog 123 (.agg #[.int .i64 0, .int .i64 0, .string ByteArray.empty]) [(0, 1), (1, 1), (2, 1)] := .of Tryz.underlying123 (by kernel_rfl) (by kernel_rfl)
instance : TN Tryz.prog 124 3 := .of Tryz.underlying124 rfl (by kernel_rfl)
instance : TE Tryz.prog 124 3 32 (.agg #[.int .i64 0, .int .i64 0, .string ByteArray.empty]) := .of (by kernel_rfl)
instance : TF Tryz.prog 124 0 0 := .of (n := 0) Tryz.underlying124 rfl rfl (by kernel_rfl)
instance : TF Tryz.prog 124 1 1 := .of (n := 0) Tryz.underlying124 rfl rfl (by kernel_rfl)
instance : TF Tryz.prog 124 2 2 := .of (n := 0) Tryz.underlying124 rfl rfl (by kernel_rfl)
instance : TP Tryz.prog 124 (.agg #[.int .i64 0, .int .i64 0, .string ByteArray.empty]) [(0, 1), (1, 1), (2, 1)] := .of Tryz.underlying124 (by kernel_rfl) (by kernel_rfl)
instance : EncOf Tryz.prog 124 encThing decThing := ⟨trivial⟩
instance : TN Tryz.prog 125 2 := .of Tryz.underlying125 rfl (by kernel_rfl)
instance : TE Tryz.prog 125 2 16 (.agg #[.int .i64 0, .int .i64 0]) := .of (by kernel_rfl)
instance : TF Tryz.prog 125 0 0 := .of (n := 0) Tryz.underlying125 rfl rfl (by kernel_rfl)
instance : TF Tryz.prog 125 1 1 := .of (n := 0) Tryz.underlying125 rfl rfl (by kernel_rfl)
instance : TP Tryz.prog 125 (.agg #[.int .i64 0, .int .i64 0]) [(0, 1), (1, 1)] := .of Tryz.underlying125 (by kernel_rfl) (by kernel_rfl)
instance : TN Tryz.prog 126 2 := .of Tryz.underlying126 rfl (by kernel_rfl)
instance : TE Tryz.prog 126 2 16 (.agg #[.int .i64 0, .int .i64 0]) := .of (by kernel_rfl)
instance : TF Tryz.prog 126 0 0 := .of (n := 0) Tryz.underlying126 rfl rfl (by kernel_rfl)
instance : TF Tryz.prog 126 1 1 := .of (n := 0) Tryz.underlying126 rfl rfl (by kernel_rfl)
instance : TP Tryz.prog 126 (.agg #[.int .i64 0, .int .i64 0]) [(0, 1), (1, 1)] := .of Tryz.underlying126 (by kernel_rfl) (by kernel_rfl)
instance : EncOf Tryz.prog 126 encEnd decEnd := ⟨trivial⟩
instance : T1 Tryz.prog 127 := .of Tryz.underlying127 rfl
instance : TE Tryz.prog 127 1 8 (.nilFunc) := .of (by kernel_rfl)
instance : TN Tryz.prog 128 2 := .of Tryz.underlying128 rfl (by kernel_rfl)
instance : TE Tryz.prog 128 2 48 (.agg #[.slice none 0 0, .slice none 0 0]) := .of (by kernel_rfl)
instance : TF Tryz.prog 128 0 0 := .of (n := 0) Tryz.underlying128 rfl rfl (by kernel_rfl)
instance : TF Tryz.prog 128 1 1 := .of (n := 0) Tryz.underlying128 rfl rfl (by kernel_rfl)
instance : TP Tryz.prog 128 (.agg #[.slice none 0 0, .slice none 0 0]) [(0, 1), (1, 1)] := .of Tryz.underlying128 (by kernel_rfl) (by kernel_rfl)
instance : TN Tryz.prog 129 2 := .of Tryz.underlying129 rfl (by kernel_rfl)
instance : TE Tryz.prog 129 2 48 (.agg #[.slice none 0 0, .slice none 0 0]) := .of (by kernel_rfl)
instance : TF Tryz.prog 129 0 0 := .of (n := 0) Tryz.underlying129 rfl rfl (by kernel_rfl)
instance : TF Tryz.prog 129 1 1 := .of (n := 0) Tryz.underlying129 rfl rfl (by kernel_rfl)
instance : TP Tryz.prog 129 (.agg #[.slice none 0 0, .slice none 0 0]) [(0, 1), (1, 1)] := .of Tryz.underlying129 (by kernel_rfl) (by kernel_rfl)
instance : T1 Tryz.prog 130 := .of Tryz.underlying130 rfl
instance : TE Tryz.prog 130 1 8 (.nilFunc) := .of (by kernel_rfl)
instance : T1 Tryz.prog 131 := .of Tryz.underlying131 rfl
instance : TE Tryz.prog 131 1 8 (.nilFunc) := .of (by kernel_rfl)
instance : T1 Tryz.prog 132 := .of Tryz.underlying132 rfl
instance : TE Tryz.prog 132 1 8 (.nilFunc) := .of (by kernel_rfl)
instance : T1 Tryz.prog 133 := .of Tryz.underlying133 rfl
instance : TE Tryz.prog 133 1 8 (.nilFunc) := .of (by kernel_rfl)
instance : T1 Tryz.prog 134 := .of Tryz.underlying134 rfl
instance : TE Tryz.prog 134 1 8 (.nilFunc) := .of (by kernel_rfl)
instance : T1 Tryz.prog 135 := .of Tryz.underlying135 rfl
instance : TE Tryz.prog 135 1 8 (.nilFunc) := .of (by kernel_rfl)
instance : T1 Tryz.prog 136 := .of Tryz.underlying136 rfl
instance : TE Tryz.prog 136 1 8 (.nilFunc) := .of (by kernel_rfl)
instance : T1 Tryz.prog 137 := .of Tryz.underlying137 rfl
instance : TE Tryz.prog 137 1 8 (.nilFunc) := .of (by kernel_rfl)
instance : T1 Tryz.prog 138 := .of Tryz.underlying138 rfl
instance : TE Tryz.prog 138 1 8 (.nilFunc) := .of (by kernel_rfl)
instance : T1 Tryz.prog 139 := .of Tryz.underlying139 rfl
instance : TE Tryz.prog 139 1 8 (.map none) := .of (by kernel_rfl)
instance : EncOf Tryz.prog 139 encV decV := ⟨trivial⟩
instance : T1 Tryz.prog 140 := .of Tryz.underlying140 rfl
instance : TE Tryz.prog 140 1 8 (.nilFunc) := .of (by kernel_rfl)
instance : T1 Tryz.prog 141 := .of Tryz.underlying141 rfl
instance : TE Tryz.prog 141 1 8 (.nilFunc) := .of (by kernel_rfl)
instance : T1 Tryz.prog 142 := .of Tryz.underlying142 rfl
instance : TE Tryz.prog 142 1 8 (.nilFunc) := .of (by kernel_rfl)
instance : T1 Tryz.prog 143 := .of Tryz.underlying143 rfl
instance : TE Tryz.prog 143 1 8 (.nilFunc) := .of (by kernel_rfl)
instance : T1 Tryz.prog 144 := .of Tryz.underlying144 rfl
instance : TE Tryz.prog 144 1 8 (.nilFunc) := .of (by kernel_rfl)
instance : T1 Tryz.prog 145 := .of Tryz.underlying145 rfl
instance : TE Tryz.prog 145 1 8 (.nilFunc) := .of (by kernel_rfl)
instance : TN Tryz.prog 146 2 := .of Tryz.underlying146 rfl (by kernel_rfl)
instance : TE Tryz.prog 146 2 16 (.agg #[.int .i64 0, .nilFunc]) := .of (by kernel_rfl)
instance : TF Tryz.prog 146 0 0 := .of (n := 0) Tryz.underlying146 rfl rfl (by kernel_rfl)
instance : TF Tryz.prog 146 1 1 := .of (n := 0) Tryz.underlying146 rfl rfl (by kernel_rfl)
instance : TP Tryz.prog 146 (.agg #[.int .i64 0, .nilFunc]) [(0, 1), (1, 1)] := .of Tryz.underlying146 (by kernel_rfl) (by kernel_rfl)
instance : TN Tryz.prog 147 2 := .of Tryz.underlying147 rfl (by kernel_rfl)
instance : TE Tryz.prog 147 2 16 (.agg #[.int .i64 0, .nilFunc]) := .of (by kernel_rfl)
instance : TF Tryz.prog 147 0 0 := .of (n := 0) Tryz.underlying147 rfl rfl (by kernel_rfl)
instance : TF Tryz.prog 147 1 1 := .of (n := 0) Tryz.underlying147 rfl rfl (by kernel_rfl)
instance : TP Tryz.prog 147 (.agg #[.int .i64 0, .nilFunc]) [(0, 1), (1, 1)] := .of Tryz.underlying147 (by kernel_rfl) (by kernel_rfl)
instance : TU Tryz.prog 148 (.slice 147) := ⟨Tryz.underlying148⟩
instance : T1 Tryz.prog 148 := .of Tryz.underlying148 rfl
instance : TE Tryz.prog 148 1 24 (.slice none 0 0) := .of (by kernel_rfl)
instance : TSl Tryz.prog 148 147 := ⟨Tryz.underlying148⟩
instance : EncOf Tryz.prog 148 encV decV := ⟨trivial⟩
instance : T1 Tryz.prog 149 := .of Tryz.underlying149 rfl
instance : TE Tryz.prog 149 1 8 (.nilFunc) := .of (by kernel_rfl)
instance : T1 Tryz.prog 150 := .of Tryz.underlying150 rfl
instance : TE Tryz.prog 150 1 8 (.nilFunc) := .of (by kernel_rfl)
instance : TU Tryz.prog 151 (.slice 39) := ⟨Tryz.underlying151⟩
instance : T1 Tryz.prog 151 := .of Tryz.underlying151 rfl
instance : TE Tryz.prog 151 1 24 (.slice none 0 0) := .of (by kernel_rfl)
instance : TSl Tryz.prog 151 39 := ⟨Tryz.underlying151⟩
instance : EncOf Tryz.prog 151 encV decV := ⟨trivial⟩
instance : T1 Tryz.prog 152 := .of Tryz.underlying152 rfl
instance : TE Tryz.prog 152 1 8 (.nilFunc) := .of (by kernel_rfl)
instance : T1 Tryz.prog 153 := .of Tryz.underlying153 rfl
instance : TE Tryz.prog 153 1 8 (.nilFunc) := .of (by kernel_rfl)
instance : T1 Tryz.prog 154 := .of Tryz.underlying154 rfl
instance : TE Tryz.prog 154 1 8 (.nilFunc) := .of (by kernel_rfl)
instance : T1 Tryz.prog 155 := .of Tryz.underlying155 rfl
instance : TE Tryz.prog 155 1 8 (.nilFunc) := .of (by kernel_rfl)
instance : T1 Tryz.prog 156 := .of Tryz.underlying156 rfl
instance : TE Tryz.prog 156 1 8 (.nilFunc) := .of (by kernel_rfl)
instance : T1 Tryz.prog 157 := .of Tryz.underlying157 rfl
instance : TE Tryz.prog 157 1 8 (.nilFunc) := .of (by kernel_rfl)
instance : T1 Tryz.prog 158 := .of Tryz.underlying158 rfl
instance : TE Tryz.prog 158 1 8 (.nilFunc) := .of (by kernel_rfl)
instance : T1 Tryz.prog 159 := .of Tryz.underlying159 rfl
instance : TE Tryz.prog 159 1 8 (.nilFunc) := .of (by kernel_rfl)
instance : T1 Tryz.prog 160 := .of Tryz.underlying160 rfl
instance : TE Tryz.prog 160 1 8 (.nilFunc) := .of (by kernel_rfl)
instance : T1 Tryz.prog 161 := .of Tryz.underlying161 rfl
instance : TE Tryz.prog 161 1 8 (.nilFunc) := .of (by kernel_rfl)
instance : T1 Tryz.prog 162 := .of Tryz.underlying162 rfl
instance : TE Tryz.prog 162 1 8 (.nilFunc) := .of (by kernel_rfl)
instance : EncOf Tryz.prog 162 encV decV := ⟨trivial⟩
instance : T1 Tryz.prog 163 := .of Tryz.underlying163 rfl
instance : TE Tryz.prog 163 1 8 (.nilFunc) := .of (by kernel_rfl)
instance : T1 Tryz.prog 164 := .of Tryz.underlying164 rfl
instance : TE Tryz.prog 164 1 8 (.nilFunc) := .of (by kernel_rfl)
instance : T1 Tryz.prog 165 := .of Tryz.underlying165 rfl
instance : TE Tryz.prog 165 1 8 (.nilFunc) := .of (by kernel_rfl)
instance : T1 Tryz.prog 166 := .of Tryz.underlying166 rfl
instance : TE Tryz.prog 166 1 8 (.nilFunc) := .of (by kernel_rfl)
instance : T1 Tryz.prog 168 := .of Tryz.underlying168 rfl
instance : TE Tryz.prog 168 1 8 (.nilFunc) := .of (by kernel_rfl)
instance : T1 Tryz.prog 169 := .of Tryz.underlying169 rfl
instance : TE Tryz.prog 169 1 8 (.nilFunc) := .of (by kernel_rfl)
instance : TN Tryz.prog 170 64 := .of Tryz.underlying170 rfl (by kernel_rfl)
instance : TE Tryz.prog 170 64 64 (.agg #[.int .u8 0, .int .u8 0, .int .u8 0, .int .u8 0, .int .u8 0, .int .u8 0, .int .u8 0, .int .u8 0, .int .u8 0, .int .u8 0, .int .u8 0, .int .u8 0, .int .u8 0, .int .u8 0, .int .u8 0, .int .u8 0, .int .u8 0, .int .u8 0, .int .u8 0, .int .u8 0, .int .u8 0, .int .u8 0, .int .u8 0, .int .u8 0, .int .u8 0, .int .u8 0, .int .u8 0, .int .u8 0, .int .u8 0, .int .u8 0, .int .u8 0, .int .u8 0, .int .u8 0, .int .u8 0, .int .u8 0, .int .u8 0, .int .u8 0, .int .u8 0, .int .u8 0, .int .u8 0, .int .u8 0, .int .u8 0, .int .u8 0, .int .u8 0, .int .u8 0, .int .u8 0, .int .u8 0, .int .u8 0, .int .u8 0, .int .u8 0, .int .u8 0, .int .u8 0, .int .u8 0, .int .u8 0, .int .u8 0, .int .u8 0, .int .u8 0, .int .u8 0, .int .u8 0, .int .u8 0, .int .u8 0, .int .u8 0, .int .u8 0, .int .u8 0]) := .of (by kernel_rfl)
instance : TAr Tryz.prog 170 64 5 := ⟨Tryz.underlying170⟩
instance : T1 Tryz.prog 171 := .of Tryz.underlying171 rfl
instance : TE Tryz.prog 171 1 8 (.nilFunc) := .of (by kernel_rfl)
instance : T1 Tryz.prog 172 := .of Tryz.underlying172 rfl
instance : TE Tryz.prog 172 1 8 (.nilFunc) := .of (by kernel_rfl)
instance : T1 Tryz.prog 173 := .of Tryz.underlying173 rfl
instance : TE Tryz.prog 173 1 8 (.nilFunc) := .of (by kernel_rfl)
instance : T1 Tryz.prog 174 := .of Tryz.underlying174 rfl
instance : TE Tryz.prog 174 1 8 (.nilFunc) := .of (by kernel_rfl)
instance : T1 Tryz.prog 175 := .of Tryz.underlying175 rfl
instance : TE Tryz.prog 175 1 8 (.nilFunc) := .of (by kernel_rfl)
instance : TU Tryz.prog 176 (.int .i64) := ⟨Tryz.underlying176⟩
instance : T1 Tryz.prog 176 := .of Tryz.underlying176 rfl
instance : TE Tryz.prog 176 1 8 (.int .i64 0) := .of (by kernel_rfl)
instance : EncOf Tryz.prog 176 encI decI := ⟨trivial⟩
instance : T1 Tryz.prog 178 := .of Tryz.underlying178 rfl
instance : TE Tryz.prog 178 1 8 (.nilFunc) := .of (by kernel_rfl)
instance : T1 Tryz.prog 179 := .of Tryz.underlying179 rfl
instance : TE Tryz.prog 179 1 8 (.nilFunc) := .of (by kernel_rfl)
instance : T1 Tryz.prog 180 := .of Tryz.underlying180 rfl
instance : TE Tryz.prog 180 1 8 (.nilFunc) := .of (by kernel_rfl)
instance : T1 Tryz.prog 181 := .of Tryz.underlying181 rfl
instance : TE Tryz.prog 181 1 8 (.nilFunc) := .of (by kernel_rfl)
instance : T1 Tryz.prog 182 := .of Tryz.underlying182 rfl
instance : TE Tryz.prog 182 1 8 (.nilFunc) := .of (by kernel_rfl)
instance : TU Tryz.prog 183 (.int .u32) := ⟨Tryz.underlying183⟩
instance : T1 Tryz.prog 183 := .of Tryz.underlying183 rfl
instance : TE Tryz.prog 183 1 4 (.int .u32 0) := .of (by kernel_rfl)
instance : TU Tryz.prog 184 (.int .u64) := ⟨Tryz.underlying184⟩
instance : T1 Tryz.prog 184 := .of Tryz.underlying184 rfl
instance : TE Tryz.prog 184 1 8 (.int .u64 0) := .of (by kernel_rfl)
instance : EncOf Tryz.prog 184 encW decW := ⟨trivial⟩
instance : T1 Tryz.prog 185 := .of Tryz.underlying185 rfl
instance : TE Tryz.prog 185 1 8 (.nilFunc) := .of (by kernel_rfl)
instance : T1 Tryz.prog 186 := .of Tryz.underlying186 rfl
instance : TE Tryz.prog 186 1 8 (.nilFunc) := .of (by kernel_rfl)
instance : T1 Tryz.prog 187 := .of Tryz.underlying187 rfl
instance : TE Tryz.prog 187 1 8 (.nilFunc) := .of (by kernel_rfl)
instance : T1 Tryz.prog 188 := .of Tryz.underlying188 rfl
instance : TE Tryz.prog 188 1 8 (.pointer none) := .of (by kernel_rfl)
instance : EncOf Tryz.prog 188 encV decV := ⟨trivial⟩
instance : T1 Tryz.prog 189 := .of Tryz.underlying189 rfl
instance : TE Tryz.prog 189 1 8 (.nilFunc) := .of (by kernel_rfl)
instance : T1 Tryz.prog 190 := .of Tryz.underlying190 rfl
instance : TE Tryz.prog 190 1 8 (.pointer none) := .of (by kernel_rfl)
instance : EncOf Tryz.prog 190 encV decV := ⟨trivial⟩
instance : T1 Tryz.prog 192 := .of Tryz.underlying192 rfl
instance : TE Tryz.prog 192 1 8 (.nilFunc) := .of (by kernel_rfl)
instance : T1 Tryz.prog 193 := .of Tryz.underlying193 rfl
instance : TE Tryz.prog 193 1 8 (.nilFunc) := .of (by kernel_rfl)
instance : TN Tryz.prog 194 4 := .of Tryz.underlying194 rfl (by kernel_rfl)
instance : TE Tryz.prog 194 4 40 (.agg #[.pointer none, .pointer none, .pointer none, .string ByteArray.empty]) := .of (by kernel_rfl)
instance : TF Tryz.prog 194 0 0 := .of (n := 0) Tryz.underlying194 rfl rfl (by kernel_rfl)
instance : TF Tryz.prog 194 1 1 := .of (n := 0) Tryz.underlying194 rfl rfl (by kernel_rfl)
instance : TF Tryz.prog 194 2 2 := .of (n := 0) Tryz.underlying194 rfl rfl (by kernel_rfl)
instance : TF Tryz.prog 194 3 3 := .of (n := 0) Tryz.underlying194 rfl rfl (by kernel_rfl)
instance : TP Tryz.prog 194 (.agg #[.pointer none, .pointer none, .pointer none, .string ByteArray.empty]) [(0, 1), (1, 1), (2, 1), (3, 1)] := .of Tryz.underlying194 (by kernel_rfl) (by kernel_rfl)
instance : TN Tryz.prog 196 0 := .of Tryz.underlying196 rfl (by kernel_rfl)
instance : TE Tryz.prog 196 0 0 (.agg #[]) := .of (by kernel_rfl)
instance : TAr Tryz.prog 196 0 16 := ⟨Tryz.underlying196⟩
instance : TN Tryz.prog 197 0 := .of Tryz.underlying197 rfl (by kernel_rfl)
instance : TE Tryz.prog 197 0 0 (.agg #[]) := .of (by kernel_rfl)
instance : TP Tryz.prog 197 (.agg #[]) [(0, 0)] := .of Tryz.underlying197 (by kernel_rfl) (by kernel_rfl)
instance : T1 Tryz.prog 199 := .of Tryz.underlying199 rfl
instance : TE Tryz.prog 199 1 8 (.nilFunc) := .of (by kernel_rfl)
instance : T1 Tryz.prog 202 := .of Tryz.underlying202 rfl
instance : TE Tryz.prog 202 1 8 (.nilFunc) := .of (by kernel_rfl)
instance : T1 Tryz.prog 203 := .of Tryz.underlying203 rfl
instance : TE Tryz.prog 203 1 8 (.pointer none) := .of (by kernel_rfl)
instance : EncOf Tryz.prog 203 encV decV := ⟨trivial⟩
instance : TN Tryz.prog 206 11 := .of Tryz.underlying206 rfl (by kernel_rfl)
instance : TE Tryz.prog 206 11 48 (.agg #[.int .u64 0, .int .u64 0, .int .u32 0, .int .u8 0, .int .u8 0, .int .u8 0, .int .u8 0, .nilFunc, .pointer none, .int .i32 0, .int .i32 0]) := .of (by kernel_rfl)
instance : TF Tryz.prog 206 0 0 := .of (n := 0) Tryz.underlying206 rfl rfl (by kernel_rfl)
instance : TF Tryz.prog 206 1 1 := .of (n := 0) Tryz.underlying206 rfl rfl (by kernel_rfl)
instance : TF Tryz.prog 206 2 2 := .of (n := 0) Tryz.underlying206 rfl rfl (by kernel_rfl)
instance : TF Tryz.prog 206 3 3 := .of (n := 0) Tryz.underlying206 rfl rfl (by kernel_rfl)
instance : TF Tryz.prog 206 4 4 := .of (n := 0) Tryz.underlying206 rfl rfl (by kernel_rfl)
instance : TF Tryz.prog 206 5 5 := .of (n := 0) Tryz.underlying206 rfl rfl (by kernel_rfl)
instance : TF Tryz.prog 206 6 6 := .of (n := 0) Tryz.underlying206 rfl rfl (by kernel_rfl)
instance : TF Tryz.prog 206 7 7 := .of (n := 0) Tryz.underlying206 rfl rfl (by kernel_rfl)
instance : TF Tryz.prog 206 8 8 := .of (n := 0) Tryz.underlying206 rfl rfl (by kernel_rfl)
instance : TF Tryz.prog 206 9 9 := .of (n := 0) Tryz.underlying206 rfl rfl (by kernel_rfl)
instance : TF Tryz.prog 206 10 10 := .of (n := 0) Tryz.underlying206 rfl rfl (by kernel_rfl)
instance : TP Tryz.prog 206 (.agg #[.int .u64 0, .int .u64 0, .int .u32 0, .int .u8 0, .int .u8 0, .int .u8 0, .int .u8 0, .nilFunc, .pointer none, .int .i32 0, .int .i32 0]) [(0, 1), (1, 1), (2, 1), (3, 1), (4, 1), (5, 1), (6, 1), (7, 1), (8, 1), (9, 1), (10, 1)] := .of Tryz.underlying206 (by kernel_rfl) (by kernel_rfl)
instance : T1 Tryz.prog 208 := .of Tryz.underlying208 rfl
instance : TE Tryz.prog 208 1 8 (.pointer none) := .of (by kernel_rfl)
instance : FN Tryz.prog 3 := ⟨Tryz.f3, Tryz.func3, by kernel_rfl, by kernel_rfl⟩
instance : FN Tryz.prog 4 := ⟨Tryz.f4, Tryz.func4, by kernel_rfl, by kernel_rfl⟩
instance : FN Tryz.prog 5 := ⟨Tryz.f5, Tryz.func5, by kernel_rfl, by kernel_rfl⟩
instance : FN Tryz.prog 6 := ⟨Tryz.f6, Tryz.func6, by kernel_rfl, by kernel_rfl⟩
instance : FN Tryz.prog 7 := ⟨Tryz.f7, Tryz.func7, by kernel_rfl, by kernel_rfl⟩
instance : FN Tryz.prog 8 := ⟨Tryz.f8, Tryz.func8, by kernel_rfl, by kernel_rfl⟩
instance : FN Tryz.prog 9 := ⟨Tryz.f9, Tryz.func9, by kernel_rfl, by kernel_rfl⟩
instance : FN Tryz.prog 10 := ⟨Tryz.f10, Tryz.func10, by kernel_rfl, by kernel_rfl⟩
instance : FN Tryz.prog 11 := ⟨Tryz.f11, Tryz.func11, by kernel_rfl, by kernel_rfl⟩
instance : FN Tryz.prog 12 := ⟨Tryz.f12, Tryz.func12, by kernel_rfl, by kernel_rfl⟩
instance : FN Tryz.prog 13 := ⟨Tryz.f13, Tryz.func13, by kernel_rfl, by kernel_rfl⟩
instance : FN Tryz.prog 14 := ⟨Tryz.f14, Tryz.func14, by kernel_rfl, by kernel_rfl⟩
instance : FN Tryz.prog 15 := ⟨Tryz.f15, Tryz.func15, by kernel_rfl, by kernel_rfl⟩
instance : FN Tryz.prog 16 := ⟨Tryz.f16, Tryz.func16, by kernel_rfl, by kernel_rfl⟩
instance : FN Tryz.prog 17 := ⟨Tryz.f17, Tryz.func17, by kernel_rfl, by kernel_rfl⟩
instance : FN Tryz.prog 18 := ⟨Tryz.f18, Tryz.func18, by kernel_rfl, by kernel_rfl⟩
instance : FN Tryz.prog 19 := ⟨Tryz.f19, Tryz.func19, by kernel_rfl, by kernel_rfl⟩
instance : FN Tryz.prog 20 := ⟨Tryz.f20, Tryz.func20, by kernel_rfl, by kernel_rfl⟩
instance : FN Tryz.prog 21 := ⟨Tryz.f21, Tryz.func21, by kernel_rfl, by kernel_rfl⟩
instance : FN Tryz.prog 22 := ⟨Tryz.f22, Tryz.func22, by kernel_rfl, by kernel_rfl⟩
instance : FN Tryz.prog 23 := ⟨Tryz.f23, Tryz.func23, by kernel_rfl, by kernel_rfl⟩
instance : FN Tryz.prog 24 := ⟨Tryz.f24, Tryz.func24, by kernel_rfl, by kernel_rfl⟩
instance : FN Tryz.prog 25 := ⟨Tryz.f25, Tryz.func25, by kernel_rfl, by kernel_rfl⟩
instance : FN Tryz.prog 26 := ⟨Tryz.f26, Tryz.func26, by kernel_rfl, by kernel_rfl⟩
instance : FN Tryz.prog 27 := ⟨Tryz.f27, Tryz.func27, by kernel_rfl, by kernel_rfl⟩
instance : FN Tryz.prog 28 := ⟨Tryz.f28, Tryz.func28, by kernel_rfl, by kernel_rfl⟩
instance : FN Tryz.prog 29 := ⟨Tryz.f29, Tryz.func29, by kernel_rfl, by kernel_rfl⟩
instance : FN Tryz.prog 30 := ⟨Tryz.f30, Tryz.func30, by kernel_rfl, by kernel_rfl⟩
instance : FN Tryz.prog 31 := ⟨Tryz.f31, Tryz.func31, by kernel_rfl, by kernel_rfl⟩
instance : FN Tryz.prog 32 := ⟨Tryz.f32, Tryz.func32, by kernel_rfl, by kernel_rfl⟩
instance : FN Tryz.prog 33 := ⟨Tryz.f33, Tryz.func33, by kernel_rfl, by kernel_rfl⟩
instance : FN Tryz.prog 34 := ⟨Tryz.f34, Tryz.func34, by kernel_rfl, by kernel_rfl⟩
instance : FN Tryz.prog 35 := ⟨Tryz.f35, Tryz.func35, by kernel_rfl, by kernel_rfl⟩
instance : FN Tryz.prog 36 := ⟨Tryz.f36, Tryz.func36, by kernel_rfl, by kernel_rfl⟩
instance : FN Tryz.prog 37 := ⟨Tryz.f37, Tryz.func37, by kernel_rfl, by kernel_rfl⟩
instance : FN Tryz.prog 38 := ⟨Tryz.f38, Tryz.func38, by kernel_rfl, by kernel_rfl⟩
instance : FN Tryz.prog 39 := ⟨Tryz.f39, Tryz.func39, by kernel_rfl, by kernel_rfl⟩
instance : FN Tryz.prog 40 := ⟨Tryz.f40, Tryz.func40, by kernel_rfl, by kernel_rfl⟩
instance : FN Tryz.prog 41 := ⟨Tryz.f41, Tryz.func41, by kernel_rfl, by kernel_rfl⟩
instance : FN Tryz.prog 42 := ⟨Tryz.f42, Tryz.func42, by kernel_rfl, by kernel_rfl⟩
instance : FN Tryz.prog 43 := ⟨Tryz.f43, Tryz.func43, by kernel_rfl, by kernel_rfl⟩
instance : FN Tryz.prog 44 := ⟨Tryz.f44, Tryz.func44, by kernel_rfl, by kernel_rfl⟩
instance : FN Tryz.prog 45 := ⟨Tryz.f45, Tryz.func45, by kernel_rfl, by kernel_rfl⟩
instance : FN Tryz.prog 46 := ⟨Tryz.f46, Tryz.func46, by kernel_rfl, by kernel_rfl⟩
instance : FN Tryz.prog 47 := ⟨Tryz.f47, Tryz.func47, by kernel_rfl, by kernel_rfl⟩
instance : FN Tryz.prog 48 := ⟨Tryz.f48, Tryz.func48, by kernel_rfl, by kernel_rfl⟩
instance : FN Tryz.prog 49 := ⟨Tryz.f49, Tryz.func49, by kernel_rfl, by kernel_rfl⟩
instance : FN Tryz.prog 50 := ⟨Tryz.f50, Tryz.func50, by kernel_rfl, by kernel_rfl⟩
instance : FN Tryz.prog 51 := ⟨Tryz.f51, Tryz.func51, by kernel_rfl, by kernel_rfl⟩
instance : FN Tryz.prog 52 := ⟨Tryz.f52, Tryz.func52, by kernel_rfl, by kernel_rfl⟩
instance : FN Tryz.prog 53 := ⟨Tryz.f53, Tryz.func53, by kernel_rfl, by kernel_rfl⟩
instance : FN Tryz.prog 54 := ⟨Tryz.f54, Tryz.func54, by kernel_rfl, by kernel_rfl⟩
instance : FN Tryz.prog 55 := ⟨Tryz.f55, Tryz.func55, by kernel_rfl, by kernel_rfl⟩
instance : FN Tryz.prog 56 := ⟨Tryz.f56, Tryz.func56, by kernel_rfl, by kernel_rfl⟩
instance : FN Tryz.prog 57 := ⟨Tryz.f57, Tryz.func57, by kernel_rfl, by kernel_rfl⟩
instance : FN Tryz.prog 58 := ⟨Tryz.f58, Tryz.func58, by kernel_rfl, by kernel_rfl⟩
instance : FN Tryz.prog 59 := ⟨Tryz.f59, Tryz.func59, by kernel_rfl, by kernel_rfl⟩
instance : FN Tryz.prog 60 := ⟨Tryz.f60, Tryz.func60, by kernel_rfl, by kernel_rfl⟩
instance : FN Tryz.prog 61 := ⟨Tryz.f61, Tryz.func61, by kernel_rfl, by kernel_rfl⟩
instance : FN Tryz.prog 62 := ⟨Tryz.f62, Tryz.func62, by kernel_rfl, by kernel_rfl⟩
instance : FN Tryz.prog 63 := ⟨Tryz.f63, Tryz.func63, by kernel_rfl, by kernel_rfl⟩
instance : FN Tryz.prog 64 := ⟨Tryz.f64, Tryz.func64, by kernel_rfl, by kernel_rfl⟩
instance : FN Tryz.prog 65 := ⟨Tryz.f65, Tryz.func65, by kernel_rfl, by kernel_rfl⟩
instance : FN Tryz.prog 66 := ⟨Tryz.f66, Tryz.func66, by kernel_rfl, by kernel_rfl⟩
instance : FN Tryz.prog 67 := ⟨Tryz.f67, Tryz.func67, by kernel_rfl, by kernel_rfl⟩
instance : FN Tryz.prog 68 := ⟨Tryz.f68, Tryz.func68, by kernel_rfl, by kernel_rfl⟩
instance : FN Tryz.prog 69 := ⟨Tryz.f69, Tryz.func69, by kernel_rfl, by kernel_rfl⟩
instance : FN Tryz.prog 70 := ⟨Tryz.f70, Tryz.func70, by kernel_rfl, by kernel_rfl⟩
instance : FN Tryz.prog 71 := ⟨Tryz.f71, Tryz.func71, by kernel_rfl, by kernel_rfl⟩
instance : FN Tryz.prog 72 := ⟨Tryz.f72, Tryz.func72, by kernel_rfl, by kernel_rfl⟩
instance : FN Tryz.prog 73 := ⟨Tryz.f73, Tryz.func73, by kernel_rfl, by kernel_rfl⟩
instance : FN Tryz.prog 74 := ⟨Tryz.f74, Tryz.func74, by kernel_rfl, by kernel_rfl⟩
instance : FN Tryz.prog 75 := ⟨Tryz.f75, Tryz.func75, by kernel_rfl, by kernel_rfl⟩
instance : FN Tryz.prog 76 := ⟨Tryz.f76, Tryz.func76, by kernel_rfl, by kernel_rfl⟩
instance : FN Tryz.prog 77 := ⟨Tryz.f77, Tryz.func77, by kernel_rfl, by kernel_rfl⟩
instance : FN Tryz.prog 78 := ⟨Tryz.f78, Tryz.func78, by kernel_rfl, by kernel_rfl⟩
instance : FN Tryz.prog 79 := ⟨Tryz.f79, Tryz.func79, by kernel_rfl, by kernel_rfl⟩
instance : FN Tryz.prog 80 := ⟨Tryz.f80, Tryz.func80, by kernel_rfl, by kernel_rfl⟩
instance : FN Tryz.prog 81 := ⟨Tryz.f81, Tryz.func81, by kernel_rfl, by kernel_rfl⟩
instance : FN Tryz.prog 82 := ⟨Tryz.f82, Tryz.func82, by kernel_rfl, by kernel_rfl⟩
instance : FN Tryz.prog 83 := ⟨Tryz.f83, Tryz.func83, by kernel_rfl, by kernel_rfl⟩
instance : FN Tryz.prog 84 := ⟨Tryz.f84, Tryz.func84, by kernel_rfl, by kernel_rfl⟩
instance : FN Tryz.prog 85 := ⟨Tryz.f85, Tryz.func85, by kernel_rfl, by kernel_rfl⟩
instance : FN Tryz.prog 86 := ⟨Tryz.f86, Tryz.func86, by kernel_rfl, by kernel_rfl⟩
instance : FN Tryz.prog 87 := ⟨Tryz.f87, Tryz.func87, by kernel_rfl, by kernel_rfl⟩
instance : FN Tryz.prog 88 := ⟨Tryz.f88, Tryz.func88, by kernel_rfl, by kernel_rfl⟩
instance : FN Tryz.prog 89 := ⟨Tryz.f89, Tryz.func89, by kernel_rfl, by kernel_rfl⟩
instance : FN Tryz.prog 90 := ⟨Tryz.f90, Tryz.func90, by kernel_rfl, by kernel_rfl⟩
instance : FN Tryz.prog 91 := ⟨Tryz.f91, Tryz.func91, by kernel_rfl, by kernel_rfl⟩
instance : FN Tryz.prog 92 := ⟨Tryz.f92, Tryz.func92, by kernel_rfl, by kernel_rfl⟩
instance : FN Tryz.prog 93 := ⟨Tryz.f93, Tryz.func93, by kernel_rfl, by kernel_rfl⟩
instance : FN Tryz.prog 94 := ⟨Tryz.f94, Tryz.func94, by kernel_rfl, by kernel_rfl⟩
instance : FN Tryz.prog 95 := ⟨Tryz.f95, Tryz.func95, by kernel_rfl, by kernel_rfl⟩
instance : FN Tryz.prog 96 := ⟨Tryz.f96, Tryz.func96, by kernel_rfl, by kernel_rfl⟩
instance : FN Tryz.prog 97 := ⟨Tryz.f97, Tryz.func97, by kernel_rfl, by kernel_rfl⟩
instance : FN Tryz.prog 98 := ⟨Tryz.f98, Tryz.func98, by kernel_rfl, by kernel_rfl⟩
instance : FN Tryz.prog 99 := ⟨Tryz.f99, Tryz.func99, by kernel_rfl, by kernel_rfl⟩
instance : FN Tryz.prog 100 := ⟨Tryz.f100, Tryz.func100, by kernel_rfl, by kernel_rfl⟩
instance : FN Tryz.prog 101 := ⟨Tryz.f101, Tryz.func101, by kernel_rfl, by kernel_rfl⟩
instance : FN Tryz.prog 102 := ⟨Tryz.f102, Tryz.func102, by kernel_rfl, by kernel_rfl⟩
instance : FN Tryz.prog 103 := ⟨Tryz.f103, Tryz.func103, by kernel_rfl, by kernel_rfl⟩
instance : FN Tryz.prog 104 := ⟨Tryz.f104, Tryz.func104, by kernel_rfl, by kernel_rfl⟩
instance : FN Tryz.prog 105 := ⟨Tryz.f105, Tryz.func105, by kernel_rfl, by kernel_rfl⟩
instance : FN Tryz.prog 106 := ⟨Tryz.f106, Tryz.func106, by kernel_rfl, by kernel_rfl⟩
instance : FN Tryz.prog 107 := ⟨Tryz.f107, Tryz.func107, by kernel_rfl, by kernel_rfl⟩
instance : FN Tryz.prog 108 := ⟨Tryz.f108, Tryz.func108, by kernel_rfl, by kernel_rfl⟩
instance : FN Tryz.prog 109 := ⟨Tryz.f109, Tryz.func109, by kernel_rfl, by kernel_rfl⟩
instance : FN Tryz.prog 110 := ⟨Tryz.f110, Tryz.func110, by kernel_rfl, by kernel_rfl⟩
instance : FN Tryz.prog 111 := ⟨Tryz.f111, Tryz.func111, by kernel_rfl, by kernel_rfl⟩
instance : FN Tryz.prog 112 := ⟨Tryz.f112, Tryz.func112, by kernel_rfl, by kernel_rfl⟩
instance : FN Tryz.prog 113 := ⟨Tryz.f113, Tryz.func113, by kernel_rfl, by kernel_rfl⟩
instance : FN Tryz.prog 114 := ⟨Tryz.f114, Tryz.func114, by kernel_rfl, by kernel_rfl⟩
instance : FN Tryz.prog 115 := ⟨Tryz.f115, Tryz.func115, by kernel_rfl, by kernel_rfl⟩
instance : FN Tryz.prog 116 := ⟨Tryz.f116, Tryz.func116, by kernel_rfl, by kernel_rfl⟩
instance : FN Tryz.prog 117 := ⟨Tryz.f117, Tryz.func117, by kernel_rfl, by kernel_rfl⟩
instance : FN Tryz.prog 118 := ⟨Tryz.f118, Tryz.func118, by kernel_rfl, by kernel_rfl⟩
instance : FN Tryz.prog 119 := ⟨Tryz.f119, Tryz.func119, by kernel_rfl, by kernel_rfl⟩
instance : FN Tryz.prog 120 := ⟨Tryz.f120, Tryz.func120, by kernel_rfl, by kernel_rfl⟩
instance : FN Tryz.prog 121 := ⟨Tryz.f121, Tryz.func121, by kernel_rfl, by kernel_rfl⟩
instance : FN Tryz.prog 122 := ⟨Tryz.f122, Tryz.func122, by kernel_rfl, by kernel_rfl⟩
instance : FN Tryz.prog 123 := ⟨Tryz.f123, Tryz.func123, by kernel_rfl, by kernel_rfl⟩
instance : FN Tryz.prog 124 := ⟨Tryz.f124, Tryz.func124, by kernel_rfl, by kernel_rfl⟩
instance : FN Tryz.prog 125 := ⟨Tryz.f125, Tryz.func125, by kernel_rfl, by kernel_rfl⟩
instance : FN Tryz.prog 126 := ⟨Tryz.f126, Tryz.func126, by kernel_rfl, by kernel_rfl⟩
instance : FN Tryz.prog 127 := ⟨Tryz.f127, Tryz.func127, by kernel_rfl, by kernel_rfl⟩
instance : FN Tryz.prog 128 := ⟨Tryz.f128, Tryz.func128, by kernel_rfl, by kernel_rfl⟩
instance : FN Tryz.prog 129 := ⟨Tryz.f129, Tryz.func129, by kernel_rfl, by kernel_rfl⟩
instance : FN Tryz.prog 130 := ⟨Tryz.f130, Tryz.func130, by kernel_rfl, by kernel_rfl⟩
instance : FN Tryz.prog 131 := ⟨Tryz.f131, Tryz.func131, by kernel_rfl, by kernel_rfl⟩
instance : FN Tryz.prog 132 := ⟨Tryz.f132, Tryz.func132, by kernel_rfl, by kernel_rfl⟩
instance : FN Tryz.prog 133 := ⟨Tryz.f133, Tryz.func133, by kernel_rfl, by kernel_rfl⟩
instance : FN Tryz.prog 134 := ⟨Tryz.f134, Tryz.func134, by kernel_rfl, by kernel_rfl⟩
instance : FN Tryz.prog 135 := ⟨Tryz.f135, Tryz.func135, by kernel_rfl, by kernel_rfl⟩
instance : FN Tryz.prog 136 := ⟨Tryz.f136, Tryz.func136, by kernel_rfl, by kernel_rfl⟩
instance : FN Tryz.prog 137 := ⟨Tryz.f137, Tryz.func137, by kernel_rfl, by kernel_rfl⟩
instance : FN Tryz.prog 138 := ⟨Tryz.f138, Tryz.func138, by kernel_rfl, by kernel_rfl⟩
instance : FN Tryz.prog 139 := ⟨Tryz.f139, Tryz.func139, by kernel_rfl, by kernel_rfl⟩
instance : FN Tryz.prog 140 := ⟨Tryz.f140, Tryz.func140, by kernel_rfl, by kernel_rfl⟩
instance : FN Tryz.prog 141 := ⟨Tryz.f141, Tryz.func141, by kernel_rfl, by kernel_rfl⟩
instance : FN Tryz.prog 142 := ⟨Tryz.f142, Tryz.func142, by kernel_rfl, by kernel_rfl⟩
instance : FN Tryz.prog 143 := ⟨Tryz.f143, Tryz.func143, by kernel_rfl, by kernel_rfl⟩
instance : FN Tryz.prog 144 := ⟨Tryz.f144, Tryz.func144, by kernel_rfl, by kernel_rfl⟩
instance : FN Tryz.prog 145 := ⟨Tryz.f145, Tryz.func145, by kernel_rfl, by kernel_rfl⟩
instance : FN Tryz.prog 146 := ⟨Tryz.f146, Tryz.func146, by kernel_rfl, by kernel_rfl⟩
instance : FN Tryz.prog 147 := ⟨Tryz.f147, Tryz.func147, by kernel_rfl, by kernel_rfl⟩
instance : FN Tryz.prog 148 := ⟨Tryz.f148, Tryz.func148, by kernel_rfl, by kernel_rfl⟩
instance : FN Tryz.prog 149 := ⟨Tryz.f149, Tryz.func149, by kernel_rfl, by kernel_rfl⟩
instance : FN Tryz.prog 150 := ⟨Tryz.f150, Tryz.func150, by kernel_rfl, by kernel_rfl⟩
instance : FN Tryz.prog 151 := ⟨Tryz.f151, Tryz.func151, by kernel_rfl, by kernel_rfl⟩
instance : FN Tryz.prog 152 := ⟨Tryz.f152, Tryz.func152, by kernel_rfl, by kernel_rfl⟩
instance : FN Tryz.prog 153 := ⟨Tryz.f153, Tryz.func153, by kernel_rfl, by kernel_rfl⟩
instance : FN Tryz.prog 154 := ⟨Tryz.f154, Tryz.func154, by kernel_rfl, by kernel_rfl⟩
instance : FN Tryz.prog 155 := ⟨Tryz.f155, Tryz.func155, by kernel_rfl, by kernel_rfl⟩
instance : FN Tryz.prog 156 := ⟨Tryz.f156, Tryz.func156, by kernel_rfl, by kernel_rfl⟩
instance : FN Tryz.prog 157 := ⟨Tryz.f157, Tryz.func157, by kernel_rfl, by kernel_rfl⟩
instance : FN Tryz.prog 158 := ⟨Tryz.f158, Tryz.func158, by kernel_rfl, by kernel_rfl⟩
instance : FN Tryz.prog 159 := ⟨Tryz.f159, Tryz.func159, by kernel_rfl, by kernel_rfl⟩
instance : FN Tryz.prog 160 := ⟨Tryz.f160, Tryz.func160, by kernel_rfl, by kernel_rfl⟩
instance : FN Tryz.prog 161 := ⟨Tryz.f161, Tryz.func161, by kernel_rfl, by kernel_rfl⟩
instance : FN Tryz.prog 162 := ⟨Tryz.f162, Tryz.func162, by kernel_rfl, by kernel_rfl⟩
instance : FN Tryz.prog 163 := ⟨Tryz.f163, Tryz.func163, by kernel_rfl, by kernel_rfl⟩
instance : FN Tryz.prog 164 := ⟨Tryz.f164, Tryz.func164, by kernel_rfl, by kernel_rfl⟩
instance : FN Tryz.prog 165 := ⟨Tryz.f165, Tryz.func165, by kernel_rfl, by kernel_rfl⟩
instance : FN Tryz.prog 166 := ⟨Tryz.f166, Tryz.func166, by kernel_rfl, by kernel_rfl⟩
instance : FN Tryz.prog 167 := ⟨Tryz.f167, Tryz.func167, by kernel_rfl, by kernel_rfl⟩
instance : FN Tryz.prog 168 := ⟨Tryz.f168, Tryz.func168, by kernel_rfl, by kernel_rfl⟩
instance : FN Tryz.prog 169 := ⟨Tryz.f169, Tryz.func169, by kernel_rfl, by kernel_rfl⟩
instance : FN Tryz.prog 170 := ⟨Tryz.f170, Tryz.func170, by kernel_rfl, by kernel_rfl⟩
instance : FN Tryz.prog 171 := ⟨Tryz.f171, Tryz.func171, by kernel_rfl, by kernel_rfl⟩
instance : FN Tryz.prog 172 := ⟨Tryz.f172, Tryz.func172, by kernel_rfl, by kernel_rfl⟩
instance : FN Tryz.prog 174 := ⟨Tryz.f174, Tryz.func174, by kernel_rfl, by kernel_rfl⟩
instance : FN Tryz.prog 175 := ⟨Tryz.f175, Tryz.func175, by kernel_rfl, by kernel_rfl⟩
instance : FN Tryz.prog 176 := ⟨Tryz.f176, Tryz.func176, by kernel_rfl, by kernel_rfl⟩
instance : FN Tryz.prog 177 := ⟨Tryz.f177, Tryz.func177, by kernel_rfl, by kernel_rfl⟩
theorem mixed : Tryz.prog.follows .mixedOrders = true := by kernel_rfl
end Go.Proofs.YtgidhhpjabdnkaaGreatDoor
end

section
/- Engine, extras: where more than one thing may come up next. -/
namespace Go.Eng
open Go Go.RowKit
section
variable {P : Program} {ops : Array Oper} {Q : Exit → Act → World → Prop} {N : Nat} {tm : Tm} {A : World → Prop} {listed : Array Bool} {S : World → Prop} {order : List Nat} {fuel : Nat}

/-- number i comes up next -/
def KS (P : Program) (ops : Array Oper) (Q : Exit → Act → World → Prop) (fuel : Nat) (listed : Array Bool) (S : World → Prop) (i : Nat) : Act → World → Prop :=
  fun a w => wpOp P ops Q i (fun a' w' => (waitsAll .any ops i = true ∧ Region.ready .any ops (listed.setIfInBounds i true) = [] ∧ Q .normal a' w') ∨
      ∃ S', (∀ w, S' w → S w) ∧ S' w' ∧ wpAnyG P .any ops Q fuel (listed.setIfInBounds i true) S' a' w') a w

theorem kg_br2 (i j : Nat) (hr : Region.ready .any ops listed = [i, j] := by kernel_rfl) (h1 : KP N (KS P ops Q fuel listed S i) tm A) (h2 : KP N (KS P ops Q fuel listed S j) tm A) : KP N (KG P ops Q (fuel + 1) listed S order) tm A := by
  unfold KP KG at *
  intro a w hs hw _
  refine ⟨fun h => (by rw [h] at hr; cases hr), fun k hk => ?_⟩
  rw [hr] at hk
  simp only [List.mem_cons, List.not_mem_nil, or_false] at hk
  rcases hk with rfl | rfl
  · exact h1 a w hs hw
  · exact h2 a w hs hw
theorem kg_br3 (i j l : Nat) (hr : Region.ready .any ops listed = [i, j, l] := by kernel_rfl) (h1 : KP N (KS P ops Q fuel listed S i) tm A) (h2 : KP N (KS P ops Q fuel listed S j) tm A) (h3 : KP N (KS P ops Q fuel listed S l) tm A) : KP N (KG P ops Q (fuel + 1) listed S order) tm A := by
  unfold KP KG at *
  intro a w hs hw _
  refine ⟨fun h => (by rw [h] at hr; cases hr), fun k hk => ?_⟩
  rw [hr] at hk
  simp only [List.mem_cons, List.not_mem_nil, or_false] at hk
  rcases hk with rfl | rfl | rfl
  · exact h1 a w hs hw
  · exact h2 a w hs hw
  · exact h3 a w hs hw
theorem kg_br4 (i j l m : Nat) (hr : Region.ready .any ops listed = [i, j, l, m] := by kernel_rfl) (h1 : KP N (KS P ops Q fuel listed S i) tm A) (h2 : KP N (KS P ops Q fuel listed S j) tm A) (h3 : KP N (KS P ops Q fuel listed S l) tm A) (h4 : KP N (KS P ops Q fuel listed S m) tm A) : KP N (KG P ops Q (fuel + 1) listed S order) tm A := by
  unfold KP KG at *
  intro a w hs hw _
  refine ⟨fun h => (by rw [h] at hr; cases hr), fun k hk => ?_⟩
  rw [hr] at hk
  simp only [List.mem_cons, List.not_mem_nil, or_false] at hk
  rcases hk with rfl | rfl | rfl | rfl
  · exact h1 a w hs hw
  · exact h2 a w hs hw
  · exact h3 a w hs hw
  · exact h4 a w hs hw
theorem ks_f {i : Nat} {dst : Option Tmp} {op : Op} {ty : TypeId} {pos : String} {aft : Array Edge} (order : List Nat) (S' : World → Prop) (hi : ops[i]? = some ⟨dst, op, ty, pos, aft, none⟩ := by rfl)
    (hSS : ∀ w, S' w → S w := by first | exact fun _ h => h | exact fun _ h => h.tail | exact fun _ h => h.tailB)
    (h : FX P N op dst Q tm A (fun a' w' => S' w' ∧ KG P ops Q fuel (listed.setIfInBounds i true) S' order a' w')) : KP N (KS P ops Q fuel listed S i) tm A := by
  unfold KP KS
  intro a w hs hw
  unfold wpOp
  simp only [hi, Region.wanted]
  refine .inl (Oper.wp_mono (fun a' w' h' => ?_) ((by unfold FX at h; exact h a w ty pos aft none hs hw)))
  obtain ⟨h1, h2⟩ := h'
  unfold KG at h2
  exact .inr ⟨S', hSS, h1, h2 h1⟩
/-- only number i may come up next -/
theorem kg_br1 (i : Nat) (hr : Region.ready .any ops listed = [i] := by kernel_rfl) (h1 : KP N (KS P ops Q fuel listed S i) tm A) : KP N (KG P ops Q (fuel + 1) listed S order) tm A := by
  unfold KP KG at *
  intro a w hs hw _
  refine ⟨fun h => (by rw [h] at hr; cases hr), fun k hk => ?_⟩
  rw [hr] at hk
  simp only [List.mem_cons, List.not_mem_nil, or_false] at hk
  subst hk
  exact h1 a w hs hw
/-- a guarded one that is not called for -/
theorem gx_no {op : Op} {c : Bool} {u : Value} (hc : c = false) : GX P N op tm A c u := by
  unfold GX
  intro h
  rw [hc] at h; cases h
/-- a guarded one that is called for, where nothing else may come up -/
theorem kg_gyes {i j g : Nat} {want b : Bool} {dst : Option Tmp} {op : Op} {ty : TypeId} {pos : String} {aft : Array Edge} (S' : World → Prop) (hi : ops[i]? = some ⟨dst, op, ty, pos, aft, some (j, want)⟩ := by rfl) (hr : Region.ready .any ops listed = [i] := by kernel_rfl)
    (hj : (ops[j]?).bind (·.dst) = some g := by rfl) (hg : lk tm g = some (true, .bool b) := by rfl) (hb : b = want)
    (hSS : ∀ w, S' w → S w := by first | exact fun _ h => h | exact fun _ h => h.tail | exact fun _ h => h.tailB)
    (h : FX P N op dst Q tm A (fun a' w' => S' w' ∧ KG P ops Q fuel (listed.setIfInBounds i true) S' order a' w')) : KP N (KG P ops Q (fuel + 1) listed S (i :: order)) tm A := by
  unfold KP KG
  intro a w hs hw _
  have hy := yields_bool (ops := ops) hs hj hg
  refine ⟨fun h => (by rw [h] at hr; cases hr), fun k hk => ?_⟩
  rw [hr, List.mem_singleton] at hk
  subst hk
  unfold wpOp
  simp only [hi, Region.wanted, hy, if_true, hb, beq_self_eq_true]
  refine .inl (Oper.wp_mono (fun a' w' h' => ?_) ((by unfold FX at h; exact h a w ty pos aft _ hs hw)))
  obtain ⟨h1, h2⟩ := h'
  unfold KG at h2
  exact .inr ⟨S', hSS, h1, h2 h1⟩
end
/-- the ways meet again, the sequence being entered -/
theorem wc_cutA {P : Program} {N : Nat} {Q Q' : Exit → Act → World → Prop} {tm : Tm} {A : World → Prop} {x y : Code} {σ : Type} (J : σ → Prop) (T : σ → Tm) (I : σ → World → Prop)
    (h : WC P N x (Exit.then (CQ N J T I) Q') tm A) (hy : ∀ s, J s → WC P N y Q (T s) (I s)) : WC P N x (Exit.then (fun a w => y.wp P Q a w) Q') tm A := by
  unfold WC KP at *
  intro a w hs hw
  refine wp_mono (h a w hs hw) fun e a' w' q => ?_
  cases e with
  | normal =>
    have q' : CQ N J T I a' w' := q
    unfold CQ at q'
    obtain ⟨s, hJ, hsim, hI⟩ := q'
    exact hy s hJ a' w' hsim hI
  | _ => exact q
attribute [irreducible] KS
section
variable {P : Program} {N : Nat} {tm : Tm} {A : World → Prop} {c : Bool}
/-- an array in a variable -/
theorem qy_index_abox {t e sz b len bb off n : Nat} {z : Value} {k : IntKind} {x y : Operand} [ht : TAr P t len e] [hE : TE P e sz b z] (hx : EV tm c x (.pointer (some ⟨bb, off, none⟩))) (hy : EV tm c y (.int k (n : Int)))
    (hb : c = true → n < len) : QY P N (.indexAddr t x y) tm A c (.pointer (some ⟨bb, off + n * sz, none⟩)) := by
  unfold QY
  intro hc a w _ _ _ _ _ hsim hw
  simp only [execOp, hy.get hsim hc, hx.get hsim hc]
  refine run_v ?_
  obtain ⟨i, hi, his, _⟩ := hE.h
  subst his
  have h0 : (0 : Int) ≤ (n : Int) ∧ (n : Int) < len := ⟨by omega, by have := hb hc; omega⟩
  show (Instr.indexAt t (.pointer (some ⟨bb, off, none⟩)) (.int k (n : Int))).run P w = _
  rcases Nat.eq_zero_or_pos n with rfl | hn
  · simp [Instr.indexAt, asIntOf, run_underlying ht.h, Instr.sureAddr, hb hc, sizeOf, typeInfo, hi, Addr.add]
  · by_cases hs : i.size = 0
    · simp [Instr.indexAt, asIntOf, run_underlying ht.h, Instr.sureAddr, hb hc, sizeOf, typeInfo, hi, Addr.add, hs]
    · simp [Instr.indexAt, asIntOf, run_underlying ht.h, Instr.sureAddr, hb hc, sizeOf, typeInfo, hi, Addr.add, hs, show ¬ n = 0 from by omega]
/-- '%' of what is not negative, whatever it is written as -/
theorem qy_remI {t t' : TypeId} {x y : Operand} {m n : Int} (a b : Nat) (hx : EV tm true x (.int .i64 m) := by exact ⟨_, rfl, fun _ => rfl⟩) (hy : EV tm true y (.int .i64 n) := by exact ⟨_, rfl, fun _ => rfl⟩) (hm : m = (a : Int)) (hn : n = (b : Int)) (hb : 0 < b) : QY P N (.binOp .rem t x y t') tm A true (.int .i64 ((a % b : Nat) : Int)) := by
  subst hm; subst hn
  exact qy_rem hx hy (fun _ => hb)
theorem qy_val {op : Op} {v v' : Value} (h : QY P N op tm A c v') (e : v' = v) : QY P N op tm A c v := e ▸ h
/-- in whichever of some worlds -/
theorem qy_ex {σ : Type} {A : σ → World → Prop} {op : Op} {v : Value} (h : ∀ s, QY P N op tm (A s) c v) : QY P N op tm (fun w => ∃ s, A s w) c v := by
  unfold QY
  intro hc a w d ty pos aft g hs ⟨s, hw⟩
  have h' := h s
  unfold QY at h'
  exact h' hc a w d ty pos aft g hs hw
/-- 'v[l:]', l an integer -/
theorem qy_subLi {τ : Type} {S : Nat → Prop} {B : World} {bs : List Base} {H : List Ent} {enc : τ → List Value} {sz t e b : Nat} {z v : Value} {l : Int} {xs : List τ} {x y : Operand} [ht : TSl P t e] [hE : TE P e sz b z]
    (hx : EV tm c x v := by first | exact ⟨_, rfl, fun _ => rfl⟩ | exact ⟨_, rfl, fun h => h⟩ | exact ⟨_, rfl, and_l⟩) (hy : EV tm c y (.int .i64 l) := by first | exact ⟨_, rfl, fun _ => rfl⟩ | exact ⟨_, rfl, fun h => h⟩ | exact ⟨_, rfl, and_l⟩) (h : Sl S B enc sz v xs) (h0 : 0 ≤ l) (hb : l.toNat ≤ xs.length) : QY P N (.slice t x (some y) none none) tm (Mem bs H) c (subV sz l.toNat xs.length v) := by
  obtain ⟨m, rfl⟩ : ∃ m : Nat, l = m := ⟨l.toNat, by omega⟩
  exact qy_subL hx hy h (fun _ => by simpa using hb)
end
end Go.Eng
end
