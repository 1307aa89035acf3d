import Derived.Test.YtifgncgiiojikaaGreatDoorG17
import Derived.Test.YtifgncgiiojikaaGreatDoorG12
set_option linter.unusedSimpArgs false
set_option linter.unusedVariables false
section
/- Steps of a round: plain; relations and named relations in slices; view.in, IndexFunc, Arcs's closures. -/
namespace Go.Eng
open Go
structure RelV where
  n : Int
  s : Value
instance : Inhabited RelV := ⟨⟨0, .nilIface⟩⟩
def encRelV (r : RelV) : List Value := [.int .i64 r.n, r.s]
def decRelV : List Value → RelV | [a, b] => ⟨toI a, b⟩ | _ => ⟨0, .nilIface⟩
instance : Enc encRelV 2 := ⟨fun _ => rfl, by decide⟩
instance : EncOne encRelV (fun r => r.s.oneCell' = true) := ⟨fun _ h u hu => by simp [encRelV] at hu; rcases hu with rfl | rfl; rfl; exact h⟩
structure NamV where
  k : Int
  f : Value
instance : Inhabited NamV := ⟨⟨0, .nilIface⟩⟩
def encNamV (r : NamV) : List Value := [.int .i64 r.k, r.f]
def decNamV : List Value → NamV | [a, b] => ⟨toI a, b⟩ | _ => ⟨0, .nilIface⟩
instance : Enc encNamV 2 := ⟨fun _ => rfl, by decide⟩
/-- relations that are read -/
def SlsR (S : Nat → Prop) (w : World) : List RelV → List (Int × List (BitVec 64)) → Prop
  | [], [] => True
  | v :: vs, r :: rs => v.n = r.1 ∧ Sl S w encW 1 v.s r.2 ∧ SlsR S w vs rs
  | _, _ => False
theorem SlsR.len {S : Nat → Prop} {w : World} : ∀ {vs : List RelV} {rs : List (Int × List (BitVec 64))}, SlsR S w vs rs → vs.length = rs.length
  | [], [], _ => rfl
  | _ :: _, _ :: _, h => by simp [SlsR.len h.2.2]
theorem SlsR.get {S : Nat → Prop} {w : World} : ∀ {vs : List RelV} {rs : List (Int × List (BitVec 64))} (_ : SlsR S w vs rs) {i : Nat} (_ : i < vs.length), (vs.getD i default).n = (rs.getD i default).1 ∧ Sl S w encW 1 (vs.getD i default).s (rs.getD i default).2
  | _ :: _, _ :: _, h, 0, _ => ⟨h.1, h.2.1⟩
  | _ :: vs, _ :: rs, h, i + 1, hi => SlsR.get (vs := vs) (rs := rs) h.2.2 (by simpa using hi)
theorem SlsR.now {S : Nat → Prop} {B w' : World} {bs : List Base} {H : List Ent} (hw : Mem bs H w') (hB : (B, S) ∈ bs) : ∀ {vs : List RelV} {rs : List (Int × List (BitVec 64))}, SlsR S B vs rs → SlsR All w' vs rs
  | [], [], _ => trivial
  | _ :: _, _ :: _, h => ⟨h.1, hw.now h.2.1 hB, SlsR.now hw hB h.2.2⟩
end Go.Eng
namespace Go.Vw
open Go Go.Eng Go.Tc Go.Rl
/-! the relations: Po PoLoc Rf Rfe Co Coe Fr Fre Com, fenced, ppo -/
abbrev Rs := List (Int × List W)
def hasR (R : Rs) (i : Nat) (a b : Int) : Bool := has (R.getD i default).1 (R.getD i default).2 a b
def okR (R : Rs) : Bool := (List.range R.length).all fun i => relOk (R.getD i default).1 (R.getD i default).2
def sameN (R : Rs) : Bool := (List.range R.length).all fun i => decide ((R.getD i default).1 = (R.getD 0 default).1)
def rngL (n : Int) (l : List Int) : Bool := (List.range l.length).all fun i => !(decide (l.getD i default < 0) || decide (n ≤ l.getD i default))
def kindOf (R : Rs) (a b : Int) : Int :=
  if hasR R 2 a b = true then 2 else if hasR R 4 a b = true then 3 else if hasR R 6 a b = true then 4 else if hasR R 9 a b = true then 5 else if hasR R 10 a b = true then 6 else if hasR R 0 a b = true then 1 else 0
def nxt (l : List Int) (i : Nat) : Int := l.getD ((i + 1) % l.length) default
def arc1 (R : Rs) (l : List Int) (i : Nat) : Arc := ⟨l.getD i default, nxt l i, kindOf R (l.getD i default) (nxt l i)⟩
def arcsTo (R : Rs) (l : List Int) (n : Nat) : List Arc := (List.range n).map (arc1 R l)
def named (R : Rs) (l : List Int) : Bool := (List.range l.length).all fun i => decide (¬ kindOf R (l.getD i default) (nxt l i) = 0)
def arcsE (R : Rs) (l : List Int) : Int := if okR R = true then if sameN R = true then if rngL (R.getD 0 default).1 l = true then if l.length = 0 then 1 else if named R l = true then 0 else 4 else 1 else 11 else 10
def arcsL (R : Rs) (l : List Int) : List Arc := if arcsE R l = 0 then arcsTo R l l.length else []
theorem arcsTo_succ (R : Rs) (l : List Int) (n : Nat) : arcsTo R l (n + 1) = arcsTo R l n ++ [arc1 R l n] := by unfold arcsTo; rw [List.range_succ, List.map_append]; rfl
def idxB {α : Type} (p : α → Bool) (l : List α) : Int := match l.findIdx? p with | some k => (k : Int) | none => -1
theorem findIdx_at {α : Type} [Inhabited α] {p : α → Bool} : ∀ {l : List α} {i : Nat}, i < l.length → p (l.getD i default) = true → (∀ j, j < i → p (l.getD j default) = false) → l.findIdx? p = some i
  | a :: l, 0, _, h1, _ => by rw [List.findIdx?_cons, show p a = true from h1]; rfl
  | a :: l, i + 1, h0, h1, h2 => by
    rw [List.findIdx?_cons, show p a = false from h2 0 (by omega), findIdx_at (l := l) (i := i) (by simpa using h0) h1 fun j hj => h2 (j + 1) (by omega)]; rfl
theorem findIdx_no {α : Type} [Inhabited α] {p : α → Bool} : ∀ {l : List α}, (∀ j, j < l.length → p (l.getD j default) = false) → l.findIdx? p = none
  | [], _ => rfl
  | a :: l, h => by
    rw [List.findIdx?_cons, show p a = false from h 0 (by simp), findIdx_no (l := l) fun j hj => h (j + 1) (by simpa using hj)]; rfl
/-- by the names: which of the six -/
def pickB (R : Rs) (a b : Int) (k : Int) : Bool := if k = 2 then hasR R 2 a b else if k = 3 then hasR R 4 a b else if k = 4 then hasR R 6 a b else if k = 5 then hasR R 9 a b else if k = 6 then hasR R 10 a b else hasR R 0 a b
end Go.Vw
namespace Go.Proofs.YtifgncgiiojikaaGreatDoor
open Go Go.Eng Go.Tc Go.Rl Go.Vw
attribute [local irreducible] wpList Code.wp bodyPost Exit.then Exit.inBlock Calls
instance : EncOf Tryz.prog 60 encRelV decRelV := ⟨trivial⟩
end Go.Proofs.YtifgncgiiojikaaGreatDoor
end

section
/- The walk: view.Arcs (printed by gen_arcs.py). -/
namespace Go.Vw
open Go Go.Eng Go.Tc Go.Rl
theorem sees {p : Nat → Bool} {i : Nat} (h : ∀ j, j < i → p j = true) (hp : p i = true) : ∀ j, j < i + 1 → p j = true := seenT h hp
theorem okR_all {R : Rs} (h : ∀ j, j < R.length → relOk (R.getD j default).1 (R.getD j default).2 = true) : okR R = true := by unfold okR; exact all_range.2 h
theorem okR_not {R : Rs} {i : Nat} (hi : i < R.length) (h : relOk (R.getD i default).1 (R.getD i default).2 = false) : okR R = false := all_range_f hi h
theorem sameN_all {R : Rs} (h : ∀ j, j < R.length → (R.getD j default).1 = (R.getD 0 default).1) : sameN R = true := by unfold sameN; exact all_range.2 fun j hj => decide_eq_true (h j hj)
theorem sameN_not {R : Rs} {i : Nat} (hi : i < R.length) (h : ¬ (R.getD i default).1 = (R.getD 0 default).1) : sameN R = false := all_range_f hi (decide_eq_false h)
def nameP (R : Rs) (a b : Int) (x : NamV) : Bool := pickB R a b x.k
theorem idx_names (R : Rs) (a b : Int) (f1 f2 f3 f4 f5 f6 : Value) : (idxB (nameP R a b) [⟨2, f1⟩, ⟨3, f2⟩, ⟨4, f3⟩, ⟨5, f4⟩, ⟨6, f5⟩, ⟨1, f6⟩] < 0 ∧ kindOf R a b = 0) ∨
    ∃ k : Nat, idxB (nameP R a b) [⟨2, f1⟩, ⟨3, f2⟩, ⟨4, f3⟩, ⟨5, f4⟩, ⟨6, f5⟩, ⟨1, f6⟩] = k ∧ k < 6 ∧ ([⟨2, f1⟩, ⟨3, f2⟩, ⟨4, f3⟩, ⟨5, f4⟩, ⟨6, f5⟩, ⟨1, f6⟩] : List NamV).getD k default = ⟨kindOf R a b, (([⟨2, f1⟩, ⟨3, f2⟩, ⟨4, f3⟩, ⟨5, f4⟩, ⟨6, f5⟩, ⟨1, f6⟩] : List NamV).getD k default).f⟩ ∧ kindOf R a b ≠ 0 := by
  unfold idxB kindOf
  have e : ∀ k f, nameP R a b ⟨k, f⟩ = pickB R a b k := fun _ _ => rfl
  simp only [List.findIdx?_cons, List.findIdx?_nil, e, pickB]
  simp only [show ¬ (3 : Int) = 2 by decide, show ¬ (4 : Int) = 2 by decide, show ¬ (4 : Int) = 3 by decide, show ¬ (5 : Int) = 2 by decide, show ¬ (5 : Int) = 3 by decide, show ¬ (5 : Int) = 4 by decide, show ¬ (6 : Int) = 2 by decide, show ¬ (6 : Int) = 3 by decide, show ¬ (6 : Int) = 4 by decide, show ¬ (6 : Int) = 5 by decide, show ¬ (1 : Int) = 2 by decide, show ¬ (1 : Int) = 3 by decide, show ¬ (1 : Int) = 4 by decide, show ¬ (1 : Int) = 5 by decide, show ¬ (1 : Int) = 6 by decide, if_true, if_false]
  cases hasR R 2 a b
  · cases hasR R 4 a b
    · cases hasR R 6 a b
      · cases hasR R 9 a b
        · cases hasR R 10 a b
          · cases hasR R 0 a b
            · exact .inl ⟨by decide, rfl⟩
            · exact .inr ⟨5, rfl, by decide, rfl, by simp⟩
          · exact .inr ⟨4, rfl, by decide, rfl, by simp⟩
        · exact .inr ⟨3, rfl, by decide, rfl, by simp⟩
      · exact .inr ⟨2, rfl, by decide, rfl, by simp⟩
    · exact .inr ⟨1, rfl, by decide, rfl, by simp⟩
  · exact .inr ⟨0, rfl, by decide, rfl, by simp⟩
end Go.Vw
namespace Go.Proofs.YtifgncgiiojikaaGreatDoor
open Go Go.Eng Go.Tc Go.Rl Go.Vw
attribute [local irreducible] wpList Code.wp bodyPost Exit.then Exit.inBlock Calls

end Go.Proofs.YtifgncgiiojikaaGreatDoor
end
