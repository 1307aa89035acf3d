import Derived.Test.YtdpcdbepeemflaaG01
import Derived.Test.YtdpcdbepeemflaaProg
import Derived.KernelRfl
set_option linter.unusedSimpArgs false
set_option linter.unusedVariables false
section
/- What the elements of slices are in Lean: codes into cells, and back. -/
namespace Go.Eng
open Go

def toI : Value → Int | .int _ n => n | _ => 0
def toB : Value → Bool | .bool b => b | _ => false
def toT : Value → ByteArray | .string s => s | _ => ByteArray.empty

def encI (n : Int) : List Value := [.int .i64 n]
def decI : List Value → Int | [v] => toI v | _ => 0
def encW (x : BitVec 64) : List Value := [u64 x]
def toW (v : Value) : BitVec 64 := BitVec.ofInt 64 (toI v)
def decW : List Value → BitVec 64 | [v] => toW v | _ => 0
def encB (b : Bool) : List Value := [.bool b]
def decB : List Value → Bool | [v] => toB v | _ => false
def encT (s : ByteArray) : List Value := [.string s]
def decT : List Value → ByteArray | [v] => toT v | _ => ByteArray.empty
def encV (v : Value) : List Value := [v]
def decV : List Value → Value | [v] => v | _ => .nilIface

def encU8 (n : Nat) : List Value := [.int .u8 (n : Int)]
def decU8 : List Value → Nat | [v] => (toI v).toNat | _ => 0

structure Pair where
  A : Int
  B : Int
  deriving DecidableEq, Inhabited
def encPair (p : Pair) : List Value := [.int .i64 p.A, .int .i64 p.B]
def decPair : List Value → Pair | [a, b] => ⟨toI a, toI b⟩ | _ => ⟨0, 0⟩

instance : Enc encI 1 := ⟨fun _ => rfl, by decide⟩
instance : Enc encW 1 := ⟨fun _ => rfl, by decide⟩
instance : Enc encB 1 := ⟨fun _ => rfl, by decide⟩
instance : Enc encT 1 := ⟨fun _ => rfl, by decide⟩
instance : Enc encV 1 := ⟨fun _ => rfl, by decide⟩
instance : Enc encU8 1 := ⟨fun _ => rfl, by decide⟩
instance : Enc encPair 2 := ⟨fun _ => rfl, by decide⟩
instance : EncOne encI (fun _ => True) := ⟨fun _ _ u hu => by simp [encI] at hu; subst hu; rfl⟩
instance : EncOne encW (fun _ => True) := ⟨fun _ _ u hu => by simp [encW] at hu; subst hu; rfl⟩
instance : EncOne encB (fun _ => True) := ⟨fun _ _ u hu => by simp [encB] at hu; subst hu; rfl⟩
instance : EncOne encT (fun _ => True) := ⟨fun _ _ u hu => by simp [encT] at hu; subst hu; rfl⟩
instance : EncOne encV (fun v => v.oneCell' = true) := ⟨fun _ h u hu => by simp [encV] at hu; subst hu; exact h⟩
instance : EncOne encPair (fun _ => True) := ⟨fun _ _ u hu => by simp [encPair] at hu; rcases hu with rfl | rfl <;> rfl⟩

structure Ev where
  thread : Int
  place : Int
  dir : Int
  loc : Int
  value : Int
  reg : Int
  deriving DecidableEq, Inhabited
def encEv (e : Ev) : List Value := [.int .i64 e.thread, .int .i64 e.place, .int .i64 e.dir, .int .i64 e.loc, .int .i64 e.value, .int .i64 e.reg]
def decEv : List Value → Ev | [a, b, c, d, e, f] => ⟨toI a, toI b, toI c, toI d, toI e, toI f⟩ | _ => ⟨0, 0, 0, 0, 0, 0⟩
structure Bar where
  thread : Int
  place : Int
  fence : Int
  deriving DecidableEq, Inhabited
def encBar (e : Bar) : List Value := [.int .i64 e.thread, .int .i64 e.place, .int .i64 e.fence]
def decBar : List Value → Bar | [a, b, c] => ⟨toI a, toI b, toI c⟩ | _ => ⟨0, 0, 0⟩
structure Thing where
  thread : Int
  reg : Int
  loc : ByteArray
  deriving DecidableEq, Inhabited
def encThing (e : Thing) : List Value := [.int .i64 e.thread, .int .i64 e.reg, .string e.loc]
def decThing : List Value → Thing | [a, b, c] => ⟨toI a, toI b, toT c⟩ | _ => ⟨0, 0, ByteArray.empty⟩
structure EndT where
  kind : Int
  n : Int
  deriving DecidableEq, Inhabited
def encEnd (e : EndT) : List Value := [.int .i64 e.kind, .int .i64 e.n]
def decEnd : List Value → EndT | [a, b] => ⟨toI a, toI b⟩ | _ => ⟨0, 0⟩
structure Arc where
  src : Int
  dst : Int
  kind : Int
  deriving DecidableEq, Inhabited
def encArc (e : Arc) : List Value := [.int .i64 e.src, .int .i64 e.dst, .int .i64 e.kind]
def decArc : List Value → Arc | [a, b, c] => ⟨toI a, toI b, toI c⟩ | _ => ⟨0, 0, 0⟩

instance : Enc encEv 6 := ⟨fun _ => rfl, by decide⟩
instance : Enc encBar 3 := ⟨fun _ => rfl, by decide⟩
instance : Enc encThing 3 := ⟨fun _ => rfl, by decide⟩
instance : Enc encEnd 2 := ⟨fun _ => rfl, by decide⟩
instance : Enc encArc 3 := ⟨fun _ => rfl, by decide⟩
instance : EncOne encEv (fun _ => True) := ⟨fun _ _ u hu => by simp [encEv] at hu; rcases hu with rfl | rfl | rfl | rfl | rfl | rfl <;> rfl⟩
instance : EncOne encBar (fun _ => True) := ⟨fun _ _ u hu => by simp [encBar] at hu; rcases hu with rfl | rfl | rfl <;> rfl⟩
instance : EncOne encThing (fun _ => True) := ⟨fun _ _ u hu => by simp [encThing] at hu; rcases hu with rfl | rfl | rfl <;> rfl⟩
instance : EncOne encEnd (fun _ => True) := ⟨fun _ _ u hu => by simp [encEnd] at hu; rcases hu with rfl | rfl <;> rfl⟩
instance : EncOne encArc (fun _ => True) := ⟨fun _ _ u hu => by simp [encArc] at hu; rcases hu with rfl | rfl | rfl <;> rfl⟩

theorem toW_u64 (x : BitVec 64) : toW (u64 x) = x := by simp [toW, toI, u64]

end Go.Eng
end

section
/- The facts on the seat's types and functions that the engine asks for: printed by wip/mkty.py. -/
namespace Go.Proofs.Ytdpcdbepeemflaa
open Go Go.Eng

instance : T1 Try.prog 1 := .of Try.underlying1 rfl
instance : TE Try.prog 1 1 8 (.nilFunc) := .of (by kernel_rfl)
instance : TU Try.prog 2 (.int .i64) := ⟨Try.underlying2⟩
instance : T1 Try.prog 2 := .of Try.underlying2 rfl
instance : TE Try.prog 2 1 8 (.int .i64 0) := .of (by kernel_rfl)
instance : EncOf Try.prog 2 encI decI := ⟨trivial⟩
instance : TU Try.prog 3 (.int .i64) := ⟨Try.underlying3⟩
instance : T1 Try.prog 3 := .of Try.underlying3 rfl
instance : TE Try.prog 3 1 8 (.int .i64 0) := .of (by kernel_rfl)
instance : EncOf Try.prog 3 encI decI := ⟨trivial⟩
instance : TU Try.prog 4 (.bool) := ⟨Try.underlying4⟩
instance : T1 Try.prog 4 := .of Try.underlying4 rfl
instance : TE Try.prog 4 1 1 (.bool false) := .of (by kernel_rfl)
instance : EncOf Try.prog 4 encB decB := ⟨trivial⟩
instance : TU Try.prog 5 (.int .u8) := ⟨Try.underlying5⟩
instance : T1 Try.prog 5 := .of Try.underlying5 rfl
instance : TE Try.prog 5 1 1 (.int .u8 0) := .of (by kernel_rfl)
instance : EncOf Try.prog 5 encU8 decU8 := ⟨trivial⟩
instance : TN Try.prog 7 4 := .of Try.underlying7 rfl (by kernel_rfl)
instance : TE Try.prog 7 4 24 (.agg #[.int .i64 0, .int .i64 0, .bool false, .int .u8 0]) := .of (by kernel_rfl)
instance : TF Try.prog 7 0 0 := .of (n := 0) Try.underlying7 rfl rfl (by kernel_rfl)
instance : TF Try.prog 7 1 1 := .of (n := 0) Try.underlying7 rfl rfl (by kernel_rfl)
instance : TF Try.prog 7 2 2 := .of (n := 0) Try.underlying7 rfl rfl (by kernel_rfl)
instance : TF Try.prog 7 3 3 := .of (n := 0) Try.underlying7 rfl rfl (by kernel_rfl)
instance : TP Try.prog 7 (.agg #[.int .i64 0, .int .i64 0, .bool false, .int .u8 0]) [(0, 1), (1, 1), (2, 1), (3, 1)] := .of Try.underlying7 (by kernel_rfl) (by kernel_rfl)
instance : TU Try.prog 9 (.string) := ⟨Try.underlying9⟩
instance : T1 Try.prog 9 := .of Try.underlying9 rfl
instance : TE Try.prog 9 1 16 (.string ByteArray.empty) := .of (by kernel_rfl)
instance : EncOf Try.prog 9 encT decT := ⟨trivial⟩
instance : TU Try.prog 12 (.int .u64) := ⟨Try.underlying12⟩
instance : T1 Try.prog 12 := .of Try.underlying12 rfl
instance : TE Try.prog 12 1 8 (.int .u64 0) := .of (by kernel_rfl)
instance : EncOf Try.prog 12 encW decW := ⟨trivial⟩
instance : TN Try.prog 13 2 := .of Try.underlying13 rfl (by kernel_rfl)
instance : TE Try.prog 13 2 24 (.agg #[.string ByteArray.empty, .int .u64 0]) := .of (by kernel_rfl)
instance : TF Try.prog 13 0 0 := .of (n := 0) Try.underlying13 rfl rfl (by kernel_rfl)
instance : TF Try.prog 13 1 1 := .of (n := 0) Try.underlying13 rfl rfl (by kernel_rfl)
instance : TP Try.prog 13 (.agg #[.string ByteArray.empty, .int .u64 0]) [(0, 1), (1, 1)] := .of Try.underlying13 (by kernel_rfl) (by kernel_rfl)
instance : T1 Try.prog 17 := .of Try.underlying17 rfl
instance : TE Try.prog 17 1 8 (.pointer none) := .of (by kernel_rfl)
instance : EncOf Try.prog 17 encV decV := ⟨trivial⟩
instance : TN Try.prog 18 1 := .of Try.underlying18 rfl (by kernel_rfl)
instance : TE Try.prog 18 1 8 (.agg #[.pointer none]) := .of (by kernel_rfl)
instance : TF Try.prog 18 0 0 := .of (n := 0) Try.underlying18 rfl rfl (by kernel_rfl)
instance : TP Try.prog 18 (.agg #[.pointer none]) [(0, 1)] := .of Try.underlying18 (by kernel_rfl) (by kernel_rfl)
instance : T1 Try.prog 20 := .of Try.underlying20 rfl
instance : TE Try.prog 20 1 16 (.nilIface) := .of (by kernel_rfl)
instance : EncOf Try.prog 20 encV decV := ⟨trivial⟩
instance : TU Try.prog 21 (.int .i32) := ⟨Try.underlying21⟩
instance : T1 Try.prog 21 := .of Try.underlying21 rfl
instance : TE Try.prog 21 1 4 (.int .i32 0) := .of (by kernel_rfl)
instance : TU Try.prog 22 (.slice 9) := ⟨Try.underlying22⟩
instance : T1 Try.prog 22 := .of Try.underlying22 rfl
instance : TE Try.prog 22 1 24 (.slice none 0 0) := .of (by kernel_rfl)
instance : TSl Try.prog 22 9 := ⟨Try.underlying22⟩
instance : EncOf Try.prog 22 encV decV := ⟨trivial⟩
instance : TU Try.prog 23 (.slice 3) := ⟨Try.underlying23⟩
instance : T1 Try.prog 23 := .of Try.underlying23 rfl
instance : TE Try.prog 23 1 24 (.slice none 0 0) := .of (by kernel_rfl)
instance : TSl Try.prog 23 3 := ⟨Try.underlying23⟩
instance : EncOf Try.prog 23 encV decV := ⟨trivial⟩
instance : TU Try.prog 24 (.slice 45) := ⟨Try.underlying24⟩
instance : T1 Try.prog 24 := .of Try.underlying24 rfl
instance : TE Try.prog 24 1 24 (.slice none 0 0) := .of (by kernel_rfl)
instance : TSl Try.prog 24 45 := ⟨Try.underlying24⟩
instance : EncOf Try.prog 24 encV decV := ⟨trivial⟩
instance : TU Try.prog 25 (.slice 98) := ⟨Try.underlying25⟩
instance : T1 Try.prog 25 := .of Try.underlying25 rfl
instance : TE Try.prog 25 1 24 (.slice none 0 0) := .of (by kernel_rfl)
instance : TSl Try.prog 25 98 := ⟨Try.underlying25⟩
instance : EncOf Try.prog 25 encV decV := ⟨trivial⟩
instance : TU Try.prog 26 (.slice 100) := ⟨Try.underlying26⟩
instance : T1 Try.prog 26 := .of Try.underlying26 rfl
instance : TE Try.prog 26 1 24 (.slice none 0 0) := .of (by kernel_rfl)
instance : TSl Try.prog 26 100 := ⟨Try.underlying26⟩
instance : EncOf Try.prog 26 encV decV := ⟨trivial⟩
instance : TU Try.prog 27 (.slice 83) := ⟨Try.underlying27⟩
instance : T1 Try.prog 27 := .of Try.underlying27 rfl
instance : TE Try.prog 27 1 24 (.slice none 0 0) := .of (by kernel_rfl)
instance : TSl Try.prog 27 83 := ⟨Try.underlying27⟩
instance : EncOf Try.prog 27 encV decV := ⟨trivial⟩
instance : TU Try.prog 28 (.slice 52) := ⟨Try.underlying28⟩
instance : T1 Try.prog 28 := .of Try.underlying28 rfl
instance : TE Try.prog 28 1 24 (.slice none 0 0) := .of (by kernel_rfl)
instance : TSl Try.prog 28 52 := ⟨Try.underlying28⟩
instance : EncOf Try.prog 28 encV decV := ⟨trivial⟩
instance : TN Try.prog 29 9 := .of Try.underlying29 rfl (by kernel_rfl)
instance : TE Try.prog 29 9 216 (.agg #[.slice none 0 0, .slice none 0 0, .slice none 0 0, .slice none 0 0, .slice none 0 0, .slice none 0 0, .slice none 0 0, .slice none 0 0, .slice none 0 0]) := .of (by kernel_rfl)
instance : TF Try.prog 29 0 0 := .of (n := 0) Try.underlying29 rfl rfl (by kernel_rfl)
instance : TF Try.prog 29 1 1 := .of (n := 0) Try.underlying29 rfl rfl (by kernel_rfl)
instance : TF Try.prog 29 2 2 := .of (n := 0) Try.underlying29 rfl rfl (by kernel_rfl)
instance : TF Try.prog 29 3 3 := .of (n := 0) Try.underlying29 rfl rfl (by kernel_rfl)
instance : TF Try.prog 29 4 4 := .of (n := 0) Try.underlying29 rfl rfl (by kernel_rfl)
instance : TF Try.prog 29 5 5 := .of (n := 0) Try.underlying29 rfl rfl (by kernel_rfl)
instance : TF Try.prog 29 6 6 := .of (n := 0) Try.underlying29 rfl rfl (by kernel_rfl)
instance : TF Try.prog 29 7 7 := .of (n := 0) Try.underlying29 rfl rfl (by kernel_rfl)
instance : TF Try.prog 29 8 8 := .of (n := 0) Try.underlying29 rfl rfl (by kernel_rfl)
instance : TP Try.prog 29 (.agg #[.slice none 0 0, .slice none 0 0, .slice none 0 0, .slice none 0 0, .slice none 0 0, .slice none 0 0, .slice none 0 0, .slice none 0 0, .slice none 0 0]) [(0, 1), (1, 1), (2, 1), (3, 1), (4, 1), (5, 1), (6, 1), (7, 1), (8, 1)] := .of Try.underlying29 (by kernel_rfl) (by kernel_rfl)
instance : TN Try.prog 30 9 := .of Try.underlying30 rfl (by kernel_rfl)
instance : TE Try.prog 30 9 216 (.agg #[.slice none 0 0, .slice none 0 0, .slice none 0 0, .slice none 0 0, .slice none 0 0, .slice none 0 0, .slice none 0 0, .slice none 0 0, .slice none 0 0]) := .of (by kernel_rfl)
instance : TF Try.prog 30 0 0 := .of (n := 0) Try.underlying30 rfl rfl (by kernel_rfl)
instance : TF Try.prog 30 1 1 := .of (n := 0) Try.underlying30 rfl rfl (by kernel_rfl)
instance : TF Try.prog 30 2 2 := .of (n := 0) Try.underlying30 rfl rfl (by kernel_rfl)
instance : TF Try.prog 30 3 3 := .of (n := 0) Try.underlying30 rfl rfl (by kernel_rfl)
instance : TF Try.prog 30 4 4 := .of (n := 0) Try.underlying30 rfl rfl (by kernel_rfl)
instance : TF Try.prog 30 5 5 := .of (n := 0) Try.underlying30 rfl rfl (by kernel_rfl)
instance : TF Try.prog 30 6 6 := .of (n := 0) Try.underlying30 rfl rfl (by kernel_rfl)
instance : TF Try.prog 30 7 7 := .of (n := 0) Try.underlying30 rfl rfl (by kernel_rfl)
instance : TF Try.prog 30 8 8 := .of (n := 0) Try.underlying30 rfl rfl (by kernel_rfl)
instance : TP Try.prog 30 (.agg #[.slice none 0 0, .slice none 0 0, .slice none 0 0, .slice none 0 0, .slice none 0 0, .slice none 0 0, .slice none 0 0, .slice none 0 0, .slice none 0 0]) [(0, 1), (1, 1), (2, 1), (3, 1), (4, 1), (5, 1), (6, 1), (7, 1), (8, 1)] := .of Try.underlying30 (by kernel_rfl) (by kernel_rfl)
instance : TU Try.prog 31 (.slice 23) := ⟨Try.underlying31⟩
instance : T1 Try.prog 31 := .of Try.underlying31 rfl
instance : TE Try.prog 31 1 24 (.slice none 0 0) := .of (by kernel_rfl)
instance : TSl Try.prog 31 23 := ⟨Try.underlying31⟩
instance : EncOf Try.prog 31 encV decV := ⟨trivial⟩
instance : TN Try.prog 32 2 := .of Try.underlying32 rfl (by kernel_rfl)
instance : TE Try.prog 32 2 48 (.agg #[.slice none 0 0, .slice none 0 0]) := .of (by kernel_rfl)
instance : TF Try.prog 32 0 0 := .of (n := 0) Try.underlying32 rfl rfl (by kernel_rfl)
instance : TF Try.prog 32 1 1 := .of (n := 0) Try.underlying32 rfl rfl (by kernel_rfl)
instance : TP Try.prog 32 (.agg #[.slice none 0 0, .slice none 0 0]) [(0, 1), (1, 1)] := .of Try.underlying32 (by kernel_rfl) (by kernel_rfl)
instance : TN Try.prog 33 2 := .of Try.underlying33 rfl (by kernel_rfl)
instance : TE Try.prog 33 2 48 (.agg #[.slice none 0 0, .slice none 0 0]) := .of (by kernel_rfl)
instance : TF Try.prog 33 0 0 := .of (n := 0) Try.underlying33 rfl rfl (by kernel_rfl)
instance : TF Try.prog 33 1 1 := .of (n := 0) Try.underlying33 rfl rfl (by kernel_rfl)
instance : TP Try.prog 33 (.agg #[.slice none 0 0, .slice none 0 0]) [(0, 1), (1, 1)] := .of Try.underlying33 (by kernel_rfl) (by kernel_rfl)
instance : TU Try.prog 34 (.int .i64) := ⟨Try.underlying34⟩
instance : T1 Try.prog 34 := .of Try.underlying34 rfl
instance : TE Try.prog 34 1 8 (.int .i64 0) := .of (by kernel_rfl)
instance : EncOf Try.prog 34 encI decI := ⟨trivial⟩
instance : T1 Try.prog 36 := .of Try.underlying36 rfl
instance : TE Try.prog 36 1 8 (.nilFunc) := .of (by kernel_rfl)
instance : T1 Try.prog 37 := .of Try.underlying37 rfl
instance : TE Try.prog 37 1 8 (.nilFunc) := .of (by kernel_rfl)
instance : T1 Try.prog 38 := .of Try.underlying38 rfl
instance : TE Try.prog 38 1 8 (.nilFunc) := .of (by kernel_rfl)
instance : T1 Try.prog 39 := .of Try.underlying39 rfl
instance : TE Try.prog 39 1 8 (.nilFunc) := .of (by kernel_rfl)
instance : T1 Try.prog 40 := .of Try.underlying40 rfl
instance : TE Try.prog 40 1 8 (.nilFunc) := .of (by kernel_rfl)
instance : T1 Try.prog 41 := .of Try.underlying41 rfl
instance : TE Try.prog 41 1 8 (.nilFunc) := .of (by kernel_rfl)
instance : T1 Try.prog 42 := .of Try.underlying42 rfl
instance : TE Try.prog 42 1 8 (.nilFunc) := .of (by kernel_rfl)
instance : T1 Try.prog 43 := .of Try.underlying43 rfl
instance : TE Try.prog 43 1 8 (.nilFunc) := .of (by kernel_rfl)
instance : TN Try.prog 44 6 := .of Try.underlying44 rfl (by kernel_rfl)
instance : TE Try.prog 44 6 48 (.agg #[.int .i64 0, .int .i64 0, .int .i64 0, .int .i64 0, .int .i64 0, .int .i64 0]) := .of (by kernel_rfl)
instance : TF Try.prog 44 0 0 := .of (n := 0) Try.underlying44 rfl rfl (by kernel_rfl)
instance : TF Try.prog 44 1 1 := .of (n := 0) Try.underlying44 rfl rfl (by kernel_rfl)
instance : TF Try.prog 44 2 2 := .of (n := 0) Try.underlying44 rfl rfl (by kernel_rfl)
instance : TF Try.prog 44 3 3 := .of (n := 0) Try.underlying44 rfl rfl (by kernel_rfl)
instance : TF Try.prog 44 4 4 := .of (n := 0) Try.underlying44 rfl rfl (by kernel_rfl)
instance : TF Try.prog 44 5 5 := .of (n := 0) Try.underlying44 rfl rfl (by kernel_rfl)
instance : TP Try.prog 44 (.agg #[.int .i64 0, .int .i64 0, .int .i64 0, .int .i64 0, .int .i64 0, .int .i64 0]) [(0, 1), (1, 1), (2, 1), (3, 1), (4, 1), (5, 1)] := .of Try.underlying44 (by kernel_rfl) (by kernel_rfl)
instance : TN Try.prog 45 6 := .of Try.underlying45 rfl (by kernel_rfl)
instance : TE Try.prog 45 6 48 (.agg #[.int .i64 0, .int .i64 0, .int .i64 0, .int .i64 0, .int .i64 0, .int .i64 0]) := .of (by kernel_rfl)
instance : TF Try.prog 45 0 0 := .of (n := 0) Try.underlying45 rfl rfl (by kernel_rfl)
instance : TF Try.prog 45 1 1 := .of (n := 0) Try.underlying45 rfl rfl (by kernel_rfl)
instance : TF Try.prog 45 2 2 := .of (n := 0) Try.underlying45 rfl rfl (by kernel_rfl)
instance : TF Try.prog 45 3 3 := .of (n := 0) Try.underlying45 rfl rfl (by kernel_rfl)
instance : TF Try.prog 45 4 4 := .of (n := 0) Try.underlying45 rfl rfl (by kernel_rfl)
instance : TF Try.prog 45 5 5 := .of (n := 0) Try.underlying45 rfl rfl (by kernel_rfl)
instance : TP Try.prog 45 (.agg #[.int .i64 0, .int .i64 0, .int .i64 0, .int .i64 0, .int .i64 0, .int .i64 0]) [(0, 1), (1, 1), (2, 1), (3, 1), (4, 1), (5, 1)] := .of Try.underlying45 (by kernel_rfl) (by kernel_rfl)
instance : EncOf Try.prog 45 encEv decEv := ⟨trivial⟩
instance : T1 Try.prog 47 := .of Try.underlying47 rfl
instance : TE Try.prog 47 1 8 (.nilFunc) := .of (by kernel_rfl)
instance : TU Try.prog 48 (.int .u64) := ⟨Try.underlying48⟩
instance : T1 Try.prog 48 := .of Try.underlying48 rfl
instance : TE Try.prog 48 1 8 (.int .u64 0) := .of (by kernel_rfl)
instance : EncOf Try.prog 48 encW decW := ⟨trivial⟩
instance : T1 Try.prog 49 := .of Try.underlying49 rfl
instance : TE Try.prog 49 1 8 (.nilFunc) := .of (by kernel_rfl)
instance : T1 Try.prog 50 := .of Try.underlying50 rfl
instance : TE Try.prog 50 1 8 (.nilFunc) := .of (by kernel_rfl)
instance : TN Try.prog 51 2 := .of Try.underlying51 rfl (by kernel_rfl)
instance : TE Try.prog 51 2 16 (.agg #[.int .i64 0, .int .i64 0]) := .of (by kernel_rfl)
instance : TF Try.prog 51 0 0 := .of (n := 0) Try.underlying51 rfl rfl (by kernel_rfl)
instance : TF Try.prog 51 1 1 := .of (n := 0) Try.underlying51 rfl rfl (by kernel_rfl)
instance : TP Try.prog 51 (.agg #[.int .i64 0, .int .i64 0]) [(0, 1), (1, 1)] := .of Try.underlying51 (by kernel_rfl) (by kernel_rfl)
instance : TN Try.prog 52 2 := .of Try.underlying52 rfl (by kernel_rfl)
instance : TE Try.prog 52 2 16 (.agg #[.int .i64 0, .int .i64 0]) := .of (by kernel_rfl)
instance : TF Try.prog 52 0 0 := .of (n := 0) Try.underlying52 rfl rfl (by kernel_rfl)
instance : TF Try.prog 52 1 1 := .of (n := 0) Try.underlying52 rfl rfl (by kernel_rfl)
instance : TP Try.prog 52 (.agg #[.int .i64 0, .int .i64 0]) [(0, 1), (1, 1)] := .of Try.underlying52 (by kernel_rfl) (by kernel_rfl)
instance : EncOf Try.prog 52 encEnd decEnd := ⟨trivial⟩
instance : T1 Try.prog 53 := .of Try.underlying53 rfl
instance : TE Try.prog 53 1 8 (.nilFunc) := .of (by kernel_rfl)
instance : TU Try.prog 54 (.slice 33) := ⟨Try.underlying54⟩
instance : T1 Try.prog 54 := .of Try.underlying54 rfl
instance : TE Try.prog 54 1 24 (.slice none 0 0) := .of (by kernel_rfl)
instance : TSl Try.prog 54 33 := ⟨Try.underlying54⟩
instance : EncOf Try.prog 54 encV decV := ⟨trivial⟩
instance : T1 Try.prog 56 := .of Try.underlying56 rfl
instance : TE Try.prog 56 1 8 (.nilFunc) := .of (by kernel_rfl)
instance : T1 Try.prog 58 := .of Try.underlying58 rfl
instance : TE Try.prog 58 1 8 (.nilFunc) := .of (by kernel_rfl)
instance : T1 Try.prog 59 := .of Try.underlying59 rfl
instance : TE Try.prog 59 1 8 (.nilFunc) := .of (by kernel_rfl)
instance : T1 Try.prog 60 := .of Try.underlying60 rfl
instance : TE Try.prog 60 1 8 (.nilFunc) := .of (by kernel_rfl)
instance : T1 Try.prog 61 := .of Try.underlying61 rfl
instance : TE Try.prog 61 1 8 (.nilFunc) := .of (by kernel_rfl)
instance : TN Try.prog 62 2 := .of Try.underlying62 rfl (by kernel_rfl)
instance : TE Try.prog 62 2 48 (.agg #[.slice none 0 0, .slice none 0 0]) := .of (by kernel_rfl)
instance : TF Try.prog 62 0 0 := .of (n := 0) Try.underlying62 rfl rfl (by kernel_rfl)
instance : TF Try.prog 62 1 1 := .of (n := 0) Try.underlying62 rfl rfl (by kernel_rfl)
instance : TP Try.prog 62 (.agg #[.slice none 0 0, .slice none 0 0]) [(0, 1), (1, 1)] := .of Try.underlying62 (by kernel_rfl) (by kernel_rfl)
instance : TN Try.prog 63 2 := .of Try.underlying63 rfl (by kernel_rfl)
instance : TE Try.prog 63 2 48 (.agg #[.slice none 0 0, .slice none 0 0]) := .of (by kernel_rfl)
instance : TF Try.prog 63 0 0 := .of (n := 0) Try.underlying63 rfl rfl (by kernel_rfl)
instance : TF Try.prog 63 1 1 := .of (n := 0) Try.underlying63 rfl rfl (by kernel_rfl)
instance : TP Try.prog 63 (.agg #[.slice none 0 0, .slice none 0 0]) [(0, 1), (1, 1)] := .of Try.underlying63 (by kernel_rfl) (by kernel_rfl)
instance : T1 Try.prog 65 := .of Try.underlying65 rfl
instance : TE Try.prog 65 1 8 (.nilFunc) := .of (by kernel_rfl)
instance : T1 Try.prog 66 := .of Try.underlying66 rfl
instance : TE Try.prog 66 1 8 (.nilFunc) := .of (by kernel_rfl)
instance : T1 Try.prog 67 := .of Try.underlying67 rfl
instance : TE Try.prog 67 1 8 (.nilFunc) := .of (by kernel_rfl)
instance : T1 Try.prog 68 := .of Try.underlying68 rfl
instance : TE Try.prog 68 1 8 (.nilFunc) := .of (by kernel_rfl)
instance : T1 Try.prog 69 := .of Try.underlying69 rfl
instance : TE Try.prog 69 1 8 (.nilFunc) := .of (by kernel_rfl)
instance : T1 Try.prog 70 := .of Try.underlying70 rfl
instance : TE Try.prog 70 1 8 (.nilFunc) := .of (by kernel_rfl)
instance : T1 Try.prog 71 := .of Try.underlying71 rfl
instance : TE Try.prog 71 1 8 (.nilFunc) := .of (by kernel_rfl)
instance : T1 Try.prog 72 := .of Try.underlying72 rfl
instance : TE Try.prog 72 1 8 (.nilFunc) := .of (by kernel_rfl)
instance : T1 Try.prog 73 := .of Try.underlying73 rfl
instance : TE Try.prog 73 1 8 (.nilFunc) := .of (by kernel_rfl)
instance : T1 Try.prog 74 := .of Try.underlying74 rfl
instance : TE Try.prog 74 1 8 (.nilFunc) := .of (by kernel_rfl)
instance : T1 Try.prog 75 := .of Try.underlying75 rfl
instance : TE Try.prog 75 1 8 (.nilFunc) := .of (by kernel_rfl)
instance : T1 Try.prog 76 := .of Try.underlying76 rfl
instance : TE Try.prog 76 1 8 (.nilFunc) := .of (by kernel_rfl)
instance : T1 Try.prog 77 := .of Try.underlying77 rfl
instance : TE Try.prog 77 1 8 (.nilFunc) := .of (by kernel_rfl)
instance : T1 Try.prog 78 := .of Try.underlying78 rfl
instance : TE Try.prog 78 1 8 (.nilFunc) := .of (by kernel_rfl)
instance : T1 Try.prog 79 := .of Try.underlying79 rfl
instance : TE Try.prog 79 1 8 (.nilFunc) := .of (by kernel_rfl)
instance : T1 Try.prog 80 := .of Try.underlying80 rfl
instance : TE Try.prog 80 1 8 (.nilFunc) := .of (by kernel_rfl)
instance : T1 Try.prog 81 := .of Try.underlying81 rfl
instance : TE Try.prog 81 1 8 (.nilFunc) := .of (by kernel_rfl)
instance : TN Try.prog 82 3 := .of Try.underlying82 rfl (by kernel_rfl)
instance : TE Try.prog 82 3 32 (.agg #[.int .i64 0, .int .i64 0, .string ByteArray.empty]) := .of (by kernel_rfl)
instance : TF Try.prog 82 0 0 := .of (n := 0) Try.underlying82 rfl rfl (by kernel_rfl)
instance : TF Try.prog 82 1 1 := .of (n := 0) Try.underlying82 rfl rfl (by kernel_rfl)
instance : TF Try.prog 82 2 2 := .of (n := 0) Try.underlying82 rfl rfl (by kernel_rfl)
instance : TP Try.prog 82 (.agg #[.int .i64 0, .int .i64 0, .string ByteArray.empty]) [(0, 1), (1, 1), (2, 1)] := .of Try.underlying82 (by kernel_rfl) (by kernel_rfl)
instance : TN Try.prog 83 3 := .of Try.underlying83 rfl (by kernel_rfl)
instance : TE Try.prog 83 3 32 (.agg #[.int .i64 0, .int .i64 0, .string ByteArray.empty]) := .of (by kernel_rfl)
instance : TF Try.prog 83 0 0 := .of (n := 0) Try.underlying83 rfl rfl (by kernel_rfl)
instance : TF Try.prog 83 1 1 := .of (n := 0) Try.underlying83 rfl rfl (by kernel_rfl)
instance : TF Try.prog 83 2 2 := .of (n := 0) Try.underlying83 rfl rfl (by kernel_rfl)
instance : TP Try.prog 83 (.agg #[.int .i64 0, .int .i64 0, .string ByteArray.empty]) [(0, 1), (1, 1), (2, 1)] := .of Try.underlying83 (by kernel_rfl) (by kernel_rfl)
instance : EncOf Try.prog 83 encThing decThing := ⟨trivial⟩
instance : T1 Try.prog 84 := .of Try.underlying84 rfl
instance : TE Try.prog 84 1 8 (.nilFunc) := .of (by kernel_rfl)
instance : T1 Try.prog 85 := .of Try.underlying85 rfl
instance : TE Try.prog 85 1 8 (.nilFunc) := .of (by kernel_rfl)
instance : T1 Try.prog 86 := .of Try.underlying86 rfl
instance : TE Try.prog 86 1 8 (.nilFunc) := .of (by kernel_rfl)
instance : T1 Try.prog 87 := .of Try.underlying87 rfl
instance : TE Try.prog 87 1 8 (.nilFunc) := .of (by kernel_rfl)
instance : T1 Try.prog 88 := .of Try.underlying88 rfl
instance : TE Try.prog 88 1 8 (.nilFunc) := .of (by kernel_rfl)
instance : T1 Try.prog 89 := .of Try.underlying89 rfl
instance : TE Try.prog 89 1 8 (.nilFunc) := .of (by kernel_rfl)
instance : EncOf Try.prog 89 encV decV := ⟨trivial⟩
instance : T1 Try.prog 90 := .of Try.underlying90 rfl
instance : TE Try.prog 90 1 8 (.nilFunc) := .of (by kernel_rfl)
instance : T1 Try.prog 91 := .of Try.underlying91 rfl
instance : TE Try.prog 91 1 8 (.nilFunc) := .of (by kernel_rfl)
instance : T1 Try.prog 92 := .of Try.underlying92 rfl
instance : TE Try.prog 92 1 8 (.nilFunc) := .of (by kernel_rfl)
instance : T1 Try.prog 93 := .of Try.underlying93 rfl
instance : TE Try.prog 93 1 8 (.nilFunc) := .of (by kernel_rfl)
instance : T1 Try.prog 94 := .of Try.underlying94 rfl
instance : TE Try.prog 94 1 8 (.nilFunc) := .of (by kernel_rfl)
instance : T1 Try.prog 95 := .of Try.underlying95 rfl
instance : TE Try.prog 95 1 8 (.nilFunc) := .of (by kernel_rfl)
instance : T1 Try.prog 96 := .of Try.underlying96 rfl
instance : TE Try.prog 96 1 8 (.nilFunc) := .of (by kernel_rfl)
instance : TN Try.prog 97 3 := .of Try.underlying97 rfl (by kernel_rfl)
instance : TE Try.prog 97 3 24 (.agg #[.int .i64 0, .int .i64 0, .int .i64 0]) := .of (by kernel_rfl)
instance : TF Try.prog 97 0 0 := .of (n := 0) Try.underlying97 rfl rfl (by kernel_rfl)
instance : TF Try.prog 97 1 1 := .of (n := 0) Try.underlying97 rfl rfl (by kernel_rfl)
instance : TF Try.prog 97 2 2 := .of (n := 0) Try.underlying97 rfl rfl (by kernel_rfl)
instance : TP Try.prog 97 (.agg #[.int .i64 0, .int .i64 0, .int .i64 0]) [(0, 1), (1, 1), (2, 1)] := .of Try.underlying97 (by kernel_rfl) (by kernel_rfl)
instance : TN Try.prog 98 3 := .of Try.underlying98 rfl (by kernel_rfl)
instance : TE Try.prog 98 3 24 (.agg #[.int .i64 0, .int .i64 0, .int .i64 0]) := .of (by kernel_rfl)
instance : TF Try.prog 98 0 0 := .of (n := 0) Try.underlying98 rfl rfl (by kernel_rfl)
instance : TF Try.prog 98 1 1 := .of (n := 0) Try.underlying98 rfl rfl (by kernel_rfl)
instance : TF Try.prog 98 2 2 := .of (n := 0) Try.underlying98 rfl rfl (by kernel_rfl)
instance : TP Try.prog 98 (.agg #[.int .i64 0, .int .i64 0, .int .i64 0]) [(0, 1), (1, 1), (2, 1)] := .of Try.underlying98 (by kernel_rfl) (by kernel_rfl)
instance : EncOf Try.prog 98 encBar decBar := ⟨trivial⟩
instance : TN Try.prog 99 2 := .of Try.underlying99 rfl (by kernel_rfl)
instance : TE Try.prog 99 2 16 (.agg #[.int .i64 0, .int .i64 0]) := .of (by kernel_rfl)
instance : TF Try.prog 99 0 0 := .of (n := 0) Try.underlying99 rfl rfl (by kernel_rfl)
instance : TF Try.prog 99 1 1 := .of (n := 0) Try.underlying99 rfl rfl (by kernel_rfl)
instance : TP Try.prog 99 (.agg #[.int .i64 0, .int .i64 0]) [(0, 1), (1, 1)] := .of Try.underlying99 (by kernel_rfl) (by kernel_rfl)
instance : TN Try.prog 100 2 := .of Try.underlying100 rfl (by kernel_rfl)
instance : TE Try.prog 100 2 16 (.agg #[.int .i64 0, .int .i64 0]) := .of (by kernel_rfl)
instance : TF Try.prog 100 0 0 := .of (n := 0) Try.underlying100 rfl rfl (by kernel_rfl)
instance : TF Try.prog 100 1 1 := .of (n := 0) Try.underlying100 rfl rfl (by kernel_rfl)
instance : TP Try.prog 100 (.agg #[.int .i64 0, .int .i64 0]) [(0, 1), (1, 1)] := .of Try.underlying100 (by kernel_rfl) (by kernel_rfl)
instance : EncOf Try.prog 100 encPair decPair := ⟨trivial⟩
instance : T1 Try.prog 102 := .of Try.underlying102 rfl
instance : TE Try.prog 102 1 8 (.nilFunc) := .of (by kernel_rfl)
instance : T1 Try.prog 103 := .of Try.underlying103 rfl
instance : TE Try.prog 103 1 8 (.nilFunc) := .of (by kernel_rfl)
instance : T1 Try.prog 104 := .of Try.underlying104 rfl
instance : TE Try.prog 104 1 8 (.nilFunc) := .of (by kernel_rfl)
instance : T1 Try.prog 105 := .of Try.underlying105 rfl
instance : TE Try.prog 105 1 8 (.nilFunc) := .of (by kernel_rfl)
instance : T1 Try.prog 106 := .of Try.underlying106 rfl
instance : TE Try.prog 106 1 8 (.nilFunc) := .of (by kernel_rfl)
instance : T1 Try.prog 107 := .of Try.underlying107 rfl
instance : TE Try.prog 107 1 8 (.nilFunc) := .of (by kernel_rfl)
instance : T1 Try.prog 108 := .of Try.underlying108 rfl
instance : TE Try.prog 108 1 8 (.nilFunc) := .of (by kernel_rfl)
instance : T1 Try.prog 109 := .of Try.underlying109 rfl
instance : TE Try.prog 109 1 8 (.nilFunc) := .of (by kernel_rfl)
instance : T1 Try.prog 110 := .of Try.underlying110 rfl
instance : TE Try.prog 110 1 8 (.nilFunc) := .of (by kernel_rfl)
instance : TU Try.prog 111 (.int .i64) := ⟨Try.underlying111⟩
instance : T1 Try.prog 111 := .of Try.underlying111 rfl
instance : TE Try.prog 111 1 8 (.int .i64 0) := .of (by kernel_rfl)
instance : EncOf Try.prog 111 encI decI := ⟨trivial⟩
instance : T1 Try.prog 113 := .of Try.underlying113 rfl
instance : TE Try.prog 113 1 8 (.nilFunc) := .of (by kernel_rfl)
instance : T1 Try.prog 114 := .of Try.underlying114 rfl
instance : TE Try.prog 114 1 8 (.nilFunc) := .of (by kernel_rfl)
instance : T1 Try.prog 115 := .of Try.underlying115 rfl
instance : TE Try.prog 115 1 8 (.nilFunc) := .of (by kernel_rfl)
instance : T1 Try.prog 116 := .of Try.underlying116 rfl
instance : TE Try.prog 116 1 8 (.nilFunc) := .of (by kernel_rfl)
instance : T1 Try.prog 117 := .of Try.underlying117 rfl
instance : TE Try.prog 117 1 8 (.nilFunc) := .of (by kernel_rfl)
instance : TU Try.prog 118 (.int .u32) := ⟨Try.underlying118⟩
instance : T1 Try.prog 118 := .of Try.underlying118 rfl
instance : TE Try.prog 118 1 4 (.int .u32 0) := .of (by kernel_rfl)
instance : T1 Try.prog 119 := .of Try.underlying119 rfl
instance : TE Try.prog 119 1 8 (.nilFunc) := .of (by kernel_rfl)
instance : TU Try.prog 120 (.int .u64) := ⟨Try.underlying120⟩
instance : T1 Try.prog 120 := .of Try.underlying120 rfl
instance : TE Try.prog 120 1 8 (.int .u64 0) := .of (by kernel_rfl)
instance : EncOf Try.prog 120 encW decW := ⟨trivial⟩
instance : TU Try.prog 121 (.int .u64) := ⟨Try.underlying121⟩
instance : T1 Try.prog 121 := .of Try.underlying121 rfl
instance : TE Try.prog 121 1 8 (.int .u64 0) := .of (by kernel_rfl)
instance : EncOf Try.prog 121 encW decW := ⟨trivial⟩
instance : T1 Try.prog 122 := .of Try.underlying122 rfl
instance : TE Try.prog 122 1 8 (.nilFunc) := .of (by kernel_rfl)
instance : T1 Try.prog 123 := .of Try.underlying123 rfl
instance : TE Try.prog 123 1 8 (.nilFunc) := .of (by kernel_rfl)
instance : T1 Try.prog 124 := .of Try.underlying124 rfl
instance : TE Try.prog 124 1 8 (.nilFunc) := .of (by kernel_rfl)
instance : T1 Try.prog 125 := .of Try.underlying125 rfl
instance : TE Try.prog 125 1 8 (.pointer none) := .of (by kernel_rfl)
instance : EncOf Try.prog 125 encV decV := ⟨trivial⟩
instance : T1 Try.prog 126 := .of Try.underlying126 rfl
instance : TE Try.prog 126 1 8 (.nilFunc) := .of (by kernel_rfl)
instance : T1 Try.prog 127 := .of Try.underlying127 rfl
instance : TE Try.prog 127 1 8 (.pointer none) := .of (by kernel_rfl)
instance : EncOf Try.prog 127 encV decV := ⟨trivial⟩
instance : T1 Try.prog 129 := .of Try.underlying129 rfl
instance : TE Try.prog 129 1 8 (.nilFunc) := .of (by kernel_rfl)
instance : T1 Try.prog 130 := .of Try.underlying130 rfl
instance : TE Try.prog 130 1 8 (.nilFunc) := .of (by kernel_rfl)
instance : TN Try.prog 131 4 := .of Try.underlying131 rfl (by kernel_rfl)
instance : TE Try.prog 131 4 40 (.agg #[.pointer none, .pointer none, .pointer none, .string ByteArray.empty]) := .of (by kernel_rfl)
instance : TF Try.prog 131 0 0 := .of (n := 0) Try.underlying131 rfl rfl (by kernel_rfl)
instance : TF Try.prog 131 1 1 := .of (n := 0) Try.underlying131 rfl rfl (by kernel_rfl)
instance : TF Try.prog 131 2 2 := .of (n := 0) Try.underlying131 rfl rfl (by kernel_rfl)
instance : TF Try.prog 131 3 3 := .of (n := 0) Try.underlying131 rfl rfl (by kernel_rfl)
instance : TP Try.prog 131 (.agg #[.pointer none, .pointer none, .pointer none, .string ByteArray.empty]) [(0, 1), (1, 1), (2, 1), (3, 1)] := .of Try.underlying131 (by kernel_rfl) (by kernel_rfl)
instance : TN Try.prog 133 0 := .of Try.underlying133 rfl (by kernel_rfl)
instance : TE Try.prog 133 0 0 (.agg #[]) := .of (by kernel_rfl)
instance : TAr Try.prog 133 0 16 := ⟨Try.underlying133⟩
instance : TN Try.prog 134 0 := .of Try.underlying134 rfl (by kernel_rfl)
instance : TE Try.prog 134 0 0 (.agg #[]) := .of (by kernel_rfl)
instance : TP Try.prog 134 (.agg #[]) [(0, 0)] := .of Try.underlying134 (by kernel_rfl) (by kernel_rfl)
instance : T1 Try.prog 138 := .of Try.underlying138 rfl
instance : TE Try.prog 138 1 8 (.nilFunc) := .of (by kernel_rfl)
instance : T1 Try.prog 139 := .of Try.underlying139 rfl
instance : TE Try.prog 139 1 8 (.pointer none) := .of (by kernel_rfl)
instance : EncOf Try.prog 139 encV decV := ⟨trivial⟩
instance : TN Try.prog 142 11 := .of Try.underlying142 rfl (by kernel_rfl)
instance : TE Try.prog 142 11 48 (.agg #[.int .u64 0, .int .u64 0, .int .u32 0, .int .u8 0, .int .u8 0, .int .u8 0, .int .u8 0, .nilFunc, .pointer none, .int .i32 0, .int .i32 0]) := .of (by kernel_rfl)
instance : TF Try.prog 142 0 0 := .of (n := 0) Try.underlying142 rfl rfl (by kernel_rfl)
instance : TF Try.prog 142 1 1 := .of (n := 0) Try.underlying142 rfl rfl (by kernel_rfl)
instance : TF Try.prog 142 2 2 := .of (n := 0) Try.underlying142 rfl rfl (by kernel_rfl)
instance : TF Try.prog 142 3 3 := .of (n := 0) Try.underlying142 rfl rfl (by kernel_rfl)
instance : TF Try.prog 142 4 4 := .of (n := 0) Try.underlying142 rfl rfl (by kernel_rfl)
instance : TF Try.prog 142 5 5 := .of (n := 0) Try.underlying142 rfl rfl (by kernel_rfl)
instance : TF Try.prog 142 6 6 := .of (n := 0) Try.underlying142 rfl rfl (by kernel_rfl)
instance : TF Try.prog 142 7 7 := .of (n := 0) Try.underlying142 rfl rfl (by kernel_rfl)
instance : TF Try.prog 142 8 8 := .of (n := 0) Try.underlying142 rfl rfl (by kernel_rfl)
instance : TF Try.prog 142 9 9 := .of (n := 0) Try.underlying142 rfl rfl (by kernel_rfl)
instance : TF Try.prog 142 10 10 := .of (n := 0) Try.underlying142 rfl rfl (by kernel_rfl)
instance : TP Try.prog 142 (.agg #[.int .u64 0, .int .u64 0, .int .u32 0, .int .u8 0, .int .u8 0, .int .u8 0, .int .u8 0, .nilFunc, .pointer none, .int .i32 0, .int .i32 0]) [(0, 1), (1, 1), (2, 1), (3, 1), (4, 1), (5, 1), (6, 1), (7, 1), (8, 1), (9, 1), (10, 1)] := .of Try.underlying142 (by kernel_rfl) (by kernel_rfl)
instance : T1 Try.prog 144 := .of Try.underlying144 rfl
instance : TE Try.prog 144 1 8 (.pointer none) := .of (by kernel_rfl)
instance : FN Try.prog 3 := ⟨Try.f3, Try.func3, by kernel_rfl, by kernel_rfl⟩
instance : FN Try.prog 4 := ⟨Try.f4, Try.func4, by kernel_rfl, by kernel_rfl⟩
instance : FN Try.prog 5 := ⟨Try.f5, Try.func5, by kernel_rfl, by kernel_rfl⟩
instance : FN Try.prog 6 := ⟨Try.f6, Try.func6, by kernel_rfl, by kernel_rfl⟩
instance : FN Try.prog 7 := ⟨Try.f7, Try.func7, by kernel_rfl, by kernel_rfl⟩
instance : FN Try.prog 8 := ⟨Try.f8, Try.func8, by kernel_rfl, by kernel_rfl⟩
instance : FN Try.prog 9 := ⟨Try.f9, Try.func9, by kernel_rfl, by kernel_rfl⟩
instance : FN Try.prog 10 := ⟨Try.f10, Try.func10, by kernel_rfl, by kernel_rfl⟩
instance : FN Try.prog 11 := ⟨Try.f11, Try.func11, by kernel_rfl, by kernel_rfl⟩
instance : FN Try.prog 12 := ⟨Try.f12, Try.func12, by kernel_rfl, by kernel_rfl⟩
instance : FN Try.prog 13 := ⟨Try.f13, Try.func13, by kernel_rfl, by kernel_rfl⟩
instance : FN Try.prog 14 := ⟨Try.f14, Try.func14, by kernel_rfl, by kernel_rfl⟩
instance : FN Try.prog 15 := ⟨Try.f15, Try.func15, by kernel_rfl, by kernel_rfl⟩
instance : FN Try.prog 16 := ⟨Try.f16, Try.func16, by kernel_rfl, by kernel_rfl⟩
instance : FN Try.prog 17 := ⟨Try.f17, Try.func17, by kernel_rfl, by kernel_rfl⟩
instance : FN Try.prog 18 := ⟨Try.f18, Try.func18, by kernel_rfl, by kernel_rfl⟩
instance : FN Try.prog 19 := ⟨Try.f19, Try.func19, by kernel_rfl, by kernel_rfl⟩
instance : FN Try.prog 20 := ⟨Try.f20, Try.func20, by kernel_rfl, by kernel_rfl⟩
instance : FN Try.prog 21 := ⟨Try.f21, Try.func21, by kernel_rfl, by kernel_rfl⟩
instance : FN Try.prog 22 := ⟨Try.f22, Try.func22, by kernel_rfl, by kernel_rfl⟩
instance : FN Try.prog 23 := ⟨Try.f23, Try.func23, by kernel_rfl, by kernel_rfl⟩
instance : FN Try.prog 24 := ⟨Try.f24, Try.func24, by kernel_rfl, by kernel_rfl⟩
instance : FN Try.prog 25 := ⟨Try.f25, Try.func25, by kernel_rfl, by kernel_rfl⟩
instance : FN Try.prog 26 := ⟨Try.f26, Try.func26, by kernel_rfl, by kernel_rfl⟩
instance : FN Try.prog 27 := ⟨Try.f27, Try.func27, by kernel_rfl, by kernel_rfl⟩
instance : FN Try.prog 28 := ⟨Try.f28, Try.func28, by kernel_rfl, by kernel_rfl⟩
instance : FN Try.prog 29 := ⟨Try.f29, Try.func29, by kernel_rfl, by kernel_rfl⟩
instance : FN Try.prog 30 := ⟨Try.f30, Try.func30, by kernel_rfl, by kernel_rfl⟩
instance : FN Try.prog 31 := ⟨Try.f31, Try.func31, by kernel_rfl, by kernel_rfl⟩
instance : FN Try.prog 32 := ⟨Try.f32, Try.func32, by kernel_rfl, by kernel_rfl⟩
instance : FN Try.prog 33 := ⟨Try.f33, Try.func33, by kernel_rfl, by kernel_rfl⟩
instance : FN Try.prog 34 := ⟨Try.f34, Try.func34, by kernel_rfl, by kernel_rfl⟩
instance : FN Try.prog 35 := ⟨Try.f35, Try.func35, by kernel_rfl, by kernel_rfl⟩
instance : FN Try.prog 36 := ⟨Try.f36, Try.func36, by kernel_rfl, by kernel_rfl⟩
instance : FN Try.prog 37 := ⟨Try.f37, Try.func37, by kernel_rfl, by kernel_rfl⟩
instance : FN Try.prog 38 := ⟨Try.f38, Try.func38, by kernel_rfl, by kernel_rfl⟩
instance : FN Try.prog 39 := ⟨Try.f39, Try.func39, by kernel_rfl, by kernel_rfl⟩
instance : FN Try.prog 40 := ⟨Try.f40, Try.func40, by kernel_rfl, by kernel_rfl⟩
instance : FN Try.prog 41 := ⟨Try.f41, Try.func41, by kernel_rfl, by kernel_rfl⟩
instance : FN Try.prog 42 := ⟨Try.f42, Try.func42, by kernel_rfl, by kernel_rfl⟩
instance : FN Try.prog 43 := ⟨Try.f43, Try.func43, by kernel_rfl, by kernel_rfl⟩
instance : FN Try.prog 44 := ⟨Try.f44, Try.func44, by kernel_rfl, by kernel_rfl⟩
instance : FN Try.prog 45 := ⟨Try.f45, Try.func45, by kernel_rfl, by kernel_rfl⟩
instance : FN Try.prog 46 := ⟨Try.f46, Try.func46, by kernel_rfl, by kernel_rfl⟩
instance : FN Try.prog 47 := ⟨Try.f47, Try.func47, by kernel_rfl, by kernel_rfl⟩
instance : FN Try.prog 48 := ⟨Try.f48, Try.func48, by kernel_rfl, by kernel_rfl⟩
instance : FN Try.prog 49 := ⟨Try.f49, Try.func49, by kernel_rfl, by kernel_rfl⟩
instance : FN Try.prog 50 := ⟨Try.f50, Try.func50, by kernel_rfl, by kernel_rfl⟩
instance : FN Try.prog 51 := ⟨Try.f51, Try.func51, by kernel_rfl, by kernel_rfl⟩
instance : FN Try.prog 52 := ⟨Try.f52, Try.func52, by kernel_rfl, by kernel_rfl⟩
instance : FN Try.prog 53 := ⟨Try.f53, Try.func53, by kernel_rfl, by kernel_rfl⟩
instance : FN Try.prog 54 := ⟨Try.f54, Try.func54, by kernel_rfl, by kernel_rfl⟩
instance : FN Try.prog 55 := ⟨Try.f55, Try.func55, by kernel_rfl, by kernel_rfl⟩
instance : FN Try.prog 56 := ⟨Try.f56, Try.func56, by kernel_rfl, by kernel_rfl⟩
instance : FN Try.prog 57 := ⟨Try.f57, Try.func57, by kernel_rfl, by kernel_rfl⟩
instance : FN Try.prog 58 := ⟨Try.f58, Try.func58, by kernel_rfl, by kernel_rfl⟩
instance : FN Try.prog 59 := ⟨Try.f59, Try.func59, by kernel_rfl, by kernel_rfl⟩
instance : FN Try.prog 60 := ⟨Try.f60, Try.func60, by kernel_rfl, by kernel_rfl⟩
instance : FN Try.prog 61 := ⟨Try.f61, Try.func61, by kernel_rfl, by kernel_rfl⟩
instance : FN Try.prog 62 := ⟨Try.f62, Try.func62, by kernel_rfl, by kernel_rfl⟩
instance : FN Try.prog 63 := ⟨Try.f63, Try.func63, by kernel_rfl, by kernel_rfl⟩
instance : FN Try.prog 64 := ⟨Try.f64, Try.func64, by kernel_rfl, by kernel_rfl⟩
instance : FN Try.prog 65 := ⟨Try.f65, Try.func65, by kernel_rfl, by kernel_rfl⟩
instance : FN Try.prog 66 := ⟨Try.f66, Try.func66, by kernel_rfl, by kernel_rfl⟩
instance : FN Try.prog 67 := ⟨Try.f67, Try.func67, by kernel_rfl, by kernel_rfl⟩
instance : FN Try.prog 68 := ⟨Try.f68, Try.func68, by kernel_rfl, by kernel_rfl⟩
instance : FN Try.prog 69 := ⟨Try.f69, Try.func69, by kernel_rfl, by kernel_rfl⟩
instance : FN Try.prog 70 := ⟨Try.f70, Try.func70, by kernel_rfl, by kernel_rfl⟩
instance : FN Try.prog 71 := ⟨Try.f71, Try.func71, by kernel_rfl, by kernel_rfl⟩
instance : FN Try.prog 72 := ⟨Try.f72, Try.func72, by kernel_rfl, by kernel_rfl⟩
instance : FN Try.prog 73 := ⟨Try.f73, Try.func73, by kernel_rfl, by kernel_rfl⟩
instance : FN Try.prog 74 := ⟨Try.f74, Try.func74, by kernel_rfl, by kernel_rfl⟩
instance : FN Try.prog 75 := ⟨Try.f75, Try.func75, by kernel_rfl, by kernel_rfl⟩
instance : FN Try.prog 76 := ⟨Try.f76, Try.func76, by kernel_rfl, by kernel_rfl⟩
instance : FN Try.prog 77 := ⟨Try.f77, Try.func77, by kernel_rfl, by kernel_rfl⟩
instance : FN Try.prog 78 := ⟨Try.f78, Try.func78, by kernel_rfl, by kernel_rfl⟩
instance : FN Try.prog 79 := ⟨Try.f79, Try.func79, by kernel_rfl, by kernel_rfl⟩
instance : FN Try.prog 80 := ⟨Try.f80, Try.func80, by kernel_rfl, by kernel_rfl⟩
instance : FN Try.prog 81 := ⟨Try.f81, Try.func81, by kernel_rfl, by kernel_rfl⟩
instance : FN Try.prog 82 := ⟨Try.f82, Try.func82, by kernel_rfl, by kernel_rfl⟩
instance : FN Try.prog 83 := ⟨Try.f83, Try.func83, by kernel_rfl, by kernel_rfl⟩
instance : FN Try.prog 84 := ⟨Try.f84, Try.func84, by kernel_rfl, by kernel_rfl⟩
instance : FN Try.prog 85 := ⟨Try.f85, Try.func85, by kernel_rfl, by kernel_rfl⟩
instance : FN Try.prog 86 := ⟨Try.f86, Try.func86, by kernel_rfl, by kernel_rfl⟩
instance : FN Try.prog 87 := ⟨Try.f87, Try.func87, by kernel_rfl, by kernel_rfl⟩
instance : FN Try.prog 88 := ⟨Try.f88, Try.func88, by kernel_rfl, by kernel_rfl⟩
instance : FN Try.prog 89 := ⟨Try.f89, Try.func89, by kernel_rfl, by kernel_rfl⟩
instance : FN Try.prog 90 := ⟨Try.f90, Try.func90, by kernel_rfl, by kernel_rfl⟩
instance : FN Try.prog 91 := ⟨Try.f91, Try.func91, by kernel_rfl, by kernel_rfl⟩
instance : FN Try.prog 92 := ⟨Try.f92, Try.func92, by kernel_rfl, by kernel_rfl⟩
instance : FN Try.prog 93 := ⟨Try.f93, Try.func93, by kernel_rfl, by kernel_rfl⟩
instance : FN Try.prog 94 := ⟨Try.f94, Try.func94, by kernel_rfl, by kernel_rfl⟩
instance : FN Try.prog 95 := ⟨Try.f95, Try.func95, by kernel_rfl, by kernel_rfl⟩
instance : FN Try.prog 97 := ⟨Try.f97, Try.func97, by kernel_rfl, by kernel_rfl⟩
instance : FN Try.prog 98 := ⟨Try.f98, Try.func98, by kernel_rfl, by kernel_rfl⟩
instance : FN Try.prog 99 := ⟨Try.f99, Try.func99, by kernel_rfl, by kernel_rfl⟩
instance : FN Try.prog 100 := ⟨Try.f100, Try.func100, by kernel_rfl, by kernel_rfl⟩
theorem mixed : Try.prog.follows .mixedOrders = true := by kernel_rfl
end Go.Proofs.Ytdpcdbepeemflaa
end

section
/- Engine, extras: where more than one thing may come up next. -/
namespace Go.Eng
open Go Go.RowKit
section
variable {P : Program} {ops : Array Oper} {Q : Exit → Act → World → Prop} {N : Nat} {tm : Tm} {A : World → Prop} {listed : Array Bool} {S : World → Prop} {order : List Nat} {fuel : Nat}

/-- number i comes up next -/
def KS (P : Program) (ops : Array Oper) (Q : Exit → Act → World → Prop) (fuel : Nat) (listed : Array Bool) (S : World → Prop) (i : Nat) : Act → World → Prop :=
  fun a w => wpOp P ops Q i (fun a' w' => (waitsAll .any ops i = true ∧ Region.ready .any ops (listed.setIfInBounds i true) = [] ∧ Q .normal a' w') ∨
      ∃ S', (∀ w, S' w → S w) ∧ S' w' ∧ wpAnyG P .any ops Q fuel (listed.setIfInBounds i true) S' a' w') a w

theorem kg_br2 (i j : Nat) (hr : Region.ready .any ops listed = [i, j] := by kernel_rfl) (h1 : KP N (KS P ops Q fuel listed S i) tm A) (h2 : KP N (KS P ops Q fuel listed S j) tm A) : KP N (KG P ops Q (fuel + 1) listed S order) tm A := by
  unfold KP KG at *
  intro a w hs hw _
  refine ⟨fun h => (by rw [h] at hr; cases hr), fun k hk => ?_⟩
  rw [hr] at hk
  simp only [List.mem_cons, List.not_mem_nil, or_false] at hk
  rcases hk with rfl | rfl
  · exact h1 a w hs hw
  · exact h2 a w hs hw
theorem kg_br3 (i j l : Nat) (hr : Region.ready .any ops listed = [i, j, l] := by kernel_rfl) (h1 : KP N (KS P ops Q fuel listed S i) tm A) (h2 : KP N (KS P ops Q fuel listed S j) tm A) (h3 : KP N (KS P ops Q fuel listed S l) tm A) : KP N (KG P ops Q (fuel + 1) listed S order) tm A := by
  unfold KP KG at *
  intro a w hs hw _
  refine ⟨fun h => (by rw [h] at hr; cases hr), fun k hk => ?_⟩
  rw [hr] at hk
  simp only [List.mem_cons, List.not_mem_nil, or_false] at hk
  rcases hk with rfl | rfl | rfl
  · exact h1 a w hs hw
  · exact h2 a w hs hw
  · exact h3 a w hs hw
theorem kg_br4 (i j l m : Nat) (hr : Region.ready .any ops listed = [i, j, l, m] := by kernel_rfl) (h1 : KP N (KS P ops Q fuel listed S i) tm A) (h2 : KP N (KS P ops Q fuel listed S j) tm A) (h3 : KP N (KS P ops Q fuel listed S l) tm A) (h4 : KP N (KS P ops Q fuel listed S m) tm A) : KP N (KG P ops Q (fuel + 1) listed S order) tm A := by
  unfold KP KG at *
  intro a w hs hw _
  refine ⟨fun h => (by rw [h] at hr; cases hr), fun k hk => ?_⟩
  rw [hr] at hk
  simp only [List.mem_cons, List.not_mem_nil, or_false] at hk
  rcases hk with rfl | rfl | rfl | rfl
  · exact h1 a w hs hw
  · exact h2 a w hs hw
  · exact h3 a w hs hw
  · exact h4 a w hs hw
theorem ks_f {i : Nat} {dst : Option Tmp} {op : Op} {ty : TypeId} {pos : String} {aft : Array Edge} (order : List Nat) (S' : World → Prop) (hi : ops[i]? = some ⟨dst, op, ty, pos, aft, none⟩ := by rfl)
    (hSS : ∀ w, S' w → S w := by first | exact fun _ h => h | exact fun _ h => h.tail | exact fun _ h => h.tailB)
    (h : FX P N op dst Q tm A (fun a' w' => S' w' ∧ KG P ops Q fuel (listed.setIfInBounds i true) S' order a' w')) : KP N (KS P ops Q fuel listed S i) tm A := by
  unfold KP KS
  intro a w hs hw
  unfold wpOp
  simp only [hi, Region.wanted]
  refine .inl (Oper.wp_mono (fun a' w' h' => ?_) ((by unfold FX at h; exact h a w ty pos aft none hs hw)))
  obtain ⟨h1, h2⟩ := h'
  unfold KG at h2
  exact .inr ⟨S', hSS, h1, h2 h1⟩
/-- only number i may come up next -/
theorem kg_br1 (i : Nat) (hr : Region.ready .any ops listed = [i] := by kernel_rfl) (h1 : KP N (KS P ops Q fuel listed S i) tm A) : KP N (KG P ops Q (fuel + 1) listed S order) tm A := by
  unfold KP KG at *
  intro a w hs hw _
  refine ⟨fun h => (by rw [h] at hr; cases hr), fun k hk => ?_⟩
  rw [hr] at hk
  simp only [List.mem_cons, List.not_mem_nil, or_false] at hk
  subst hk
  exact h1 a w hs hw
/-- a guarded one that is not called for -/
theorem gx_no {op : Op} {c : Bool} {u : Value} (hc : c = false) : GX P N op tm A c u := by
  unfold GX
  intro h
  rw [hc] at h; cases h
/-- a guarded one that is called for, where nothing else may come up -/
theorem kg_gyes {i j g : Nat} {want b : Bool} {dst : Option Tmp} {op : Op} {ty : TypeId} {pos : String} {aft : Array Edge} (S' : World → Prop) (hi : ops[i]? = some ⟨dst, op, ty, pos, aft, some (j, want)⟩ := by rfl) (hr : Region.ready .any ops listed = [i] := by kernel_rfl)
    (hj : (ops[j]?).bind (·.dst) = some g := by rfl) (hg : lk tm g = some (true, .bool b) := by rfl) (hb : b = want)
    (hSS : ∀ w, S' w → S w := by first | exact fun _ h => h | exact fun _ h => h.tail | exact fun _ h => h.tailB)
    (h : FX P N op dst Q tm A (fun a' w' => S' w' ∧ KG P ops Q fuel (listed.setIfInBounds i true) S' order a' w')) : KP N (KG P ops Q (fuel + 1) listed S (i :: order)) tm A := by
  unfold KP KG
  intro a w hs hw _
  have hy := yields_bool (ops := ops) hs hj hg
  refine ⟨fun h => (by rw [h] at hr; cases hr), fun k hk => ?_⟩
  rw [hr, List.mem_singleton] at hk
  subst hk
  unfold wpOp
  simp only [hi, Region.wanted, hy, if_true, hb, beq_self_eq_true]
  refine .inl (Oper.wp_mono (fun a' w' h' => ?_) ((by unfold FX at h; exact h a w ty pos aft _ hs hw)))
  obtain ⟨h1, h2⟩ := h'
  unfold KG at h2
  exact .inr ⟨S', hSS, h1, h2 h1⟩
end
/-- the ways meet again, the sequence being entered -/
theorem wc_cutA {P : Program} {N : Nat} {Q Q' : Exit → Act → World → Prop} {tm : Tm} {A : World → Prop} {x y : Code} {σ : Type} (J : σ → Prop) (T : σ → Tm) (I : σ → World → Prop)
    (h : WC P N x (Exit.then (CQ N J T I) Q') tm A) (hy : ∀ s, J s → WC P N y Q (T s) (I s)) : WC P N x (Exit.then (fun a w => y.wp P Q a w) Q') tm A := by
  unfold WC KP at *
  intro a w hs hw
  refine wp_mono (h a w hs hw) fun e a' w' q => ?_
  cases e with
  | normal =>
    have q' : CQ N J T I a' w' := q
    unfold CQ at q'
    obtain ⟨s, hJ, hsim, hI⟩ := q'
    exact hy s hJ a' w' hsim hI
  | _ => exact q
attribute [irreducible] KS
section
variable {P : Program} {N : Nat} {tm : Tm} {A : World → Prop} {c : Bool}
/-- an array in a variable -/
theorem qy_index_abox {t e sz b len bb off n : Nat} {z : Value} {k : IntKind} {x y : Operand} [ht : TAr P t len e] [hE : TE P e sz b z] (hx : EV tm c x (.pointer (some ⟨bb, off, none⟩))) (hy : EV tm c y (.int k (n : Int)))
    (hb : c = true → n < len) : QY P N (.indexAddr t x y) tm A c (.pointer (some ⟨bb, off + n * sz, none⟩)) := by
  unfold QY
  intro hc a w _ _ _ _ _ hsim hw
  simp only [execOp, hy.get hsim hc, hx.get hsim hc]
  refine run_v ?_
  obtain ⟨i, hi, his, _⟩ := hE.h
  subst his
  have h0 : (0 : Int) ≤ (n : Int) ∧ (n : Int) < len := ⟨by omega, by have := hb hc; omega⟩
  show (Instr.indexAt t (.pointer (some ⟨bb, off, none⟩)) (.int k (n : Int))).run P w = _
  rcases Nat.eq_zero_or_pos n with rfl | hn
  · simp [Instr.indexAt, asIntOf, run_underlying ht.h, Instr.sureAddr, hb hc, sizeOf, typeInfo, hi, Addr.add]
  · by_cases hs : i.size = 0
    · simp [Instr.indexAt, asIntOf, run_underlying ht.h, Instr.sureAddr, hb hc, sizeOf, typeInfo, hi, Addr.add, hs]
    · simp [Instr.indexAt, asIntOf, run_underlying ht.h, Instr.sureAddr, hb hc, sizeOf, typeInfo, hi, Addr.add, hs, show ¬ n = 0 from by omega]
/-- '%' of what is not negative, whatever it is written as -/
theorem qy_remI {t t' : TypeId} {x y : Operand} {m n : Int} (a b : Nat) (hx : EV tm true x (.int .i64 m) := by exact ⟨_, rfl, fun _ => rfl⟩) (hy : EV tm true y (.int .i64 n) := by exact ⟨_, rfl, fun _ => rfl⟩) (hm : m = (a : Int)) (hn : n = (b : Int)) (hb : 0 < b) : QY P N (.binOp .rem t x y t') tm A true (.int .i64 ((a % b : Nat) : Int)) := by
  subst hm; subst hn
  exact qy_rem hx hy (fun _ => hb)
theorem qy_val {op : Op} {v v' : Value} (h : QY P N op tm A c v') (e : v' = v) : QY P N op tm A c v := e ▸ h
/-- in whichever of some worlds -/
theorem qy_ex {σ : Type} {A : σ → World → Prop} {op : Op} {v : Value} (h : ∀ s, QY P N op tm (A s) c v) : QY P N op tm (fun w => ∃ s, A s w) c v := by
  unfold QY
  intro hc a w d ty pos aft g hs ⟨s, hw⟩
  have h' := h s
  unfold QY at h'
  exact h' hc a w d ty pos aft g hs hw
/-- 'v[l:]', l an integer -/
theorem qy_subLi {τ : Type} {S : Nat → Prop} {B : World} {bs : List Base} {H : List Ent} {enc : τ → List Value} {sz t e b : Nat} {z v : Value} {l : Int} {xs : List τ} {x y : Operand} [ht : TSl P t e] [hE : TE P e sz b z]
    (hx : EV tm c x v := by first | exact ⟨_, rfl, fun _ => rfl⟩ | exact ⟨_, rfl, fun h => h⟩ | exact ⟨_, rfl, and_l⟩) (hy : EV tm c y (.int .i64 l) := by first | exact ⟨_, rfl, fun _ => rfl⟩ | exact ⟨_, rfl, fun h => h⟩ | exact ⟨_, rfl, and_l⟩) (h : Sl S B enc sz v xs) (h0 : 0 ≤ l) (hb : l.toNat ≤ xs.length) : QY P N (.slice t x (some y) none none) tm (Mem bs H) c (subV sz l.toNat xs.length v) := by
  obtain ⟨m, rfl⟩ : ∃ m : Nat, l = m := ⟨l.toNat, by omega⟩
  exact qy_subL hx hy h (fun _ => by simpa using hb)
end
end Go.Eng
end
