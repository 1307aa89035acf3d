/- What the elements of slices are in Lean: codes into cells, and back. -/
import Derived.Test.YtpncpbdfomgcgaaDoorEng
namespace Go.Eng
open Go

def toI : Value → Int | .int _ n => n | _ => 0
def toB : Value → Bool | .bool b => b | _ => false
def toT : Value → ByteArray | .string s => s | _ => ByteArray.empty

def encI (n : Int) : List Value := [.int .i64 n]
def decI : List Value → Int | [v] => toI v | _ => 0
def encW (x : BitVec 64) : List Value := [u64 x]
def toW (v : Value) : BitVec 64 := BitVec.ofInt 64 (toI v)
def decW : List Value → BitVec 64 | [v] => toW v | _ => 0
def encB (b : Bool) : List Value := [.bool b]
def decB : List Value → Bool | [v] => toB v | _ => false
def encT (s : ByteArray) : List Value := [.string s]
def decT : List Value → ByteArray | [v] => toT v | _ => ByteArray.empty
def encV (v : Value) : List Value := [v]
def decV : List Value → Value | [v] => v | _ => .nilIface

def encU8 (n : Nat) : List Value := [.int .u8 (n : Int)]
def decU8 : List Value → Nat | [v] => (toI v).toNat | _ => 0

structure Pair where
  A : Int
  B : Int
  deriving DecidableEq, Inhabited
def encPair (p : Pair) : List Value := [.int .i64 p.A, .int .i64 p.B]
def decPair : List Value → Pair | [a, b] => ⟨toI a, toI b⟩ | _ => ⟨0, 0⟩

instance : Enc encI 1 := ⟨fun _ => rfl, by decide⟩
instance : Enc encW 1 := ⟨fun _ => rfl, by decide⟩
instance : Enc encB 1 := ⟨fun _ => rfl, by decide⟩
instance : Enc encT 1 := ⟨fun _ => rfl, by decide⟩
instance : Enc encV 1 := ⟨fun _ => rfl, by decide⟩
instance : Enc encU8 1 := ⟨fun _ => rfl, by decide⟩
instance : Enc encPair 2 := ⟨fun _ => rfl, by decide⟩
instance : EncOne encI (fun _ => True) := ⟨fun _ _ u hu => by simp [encI] at hu; subst hu; rfl⟩
instance : EncOne encW (fun _ => True) := ⟨fun _ _ u hu => by simp [encW] at hu; subst hu; rfl⟩
instance : EncOne encB (fun _ => True) := ⟨fun _ _ u hu => by simp [encB] at hu; subst hu; rfl⟩
instance : EncOne encT (fun _ => True) := ⟨fun _ _ u hu => by simp [encT] at hu; subst hu; rfl⟩
instance : EncOne encV (fun v => v.oneCell' = true) := ⟨fun _ h u hu => by simp [encV] at hu; subst hu; exact h⟩
instance : EncOne encPair (fun _ => True) := ⟨fun _ _ u hu => by simp [encPair] at hu; rcases hu with rfl | rfl <;> rfl⟩

theorem toW_u64 (x : BitVec 64) : toW (u64 x) = x := by simp [toW, toI, u64]

end Go.Eng
