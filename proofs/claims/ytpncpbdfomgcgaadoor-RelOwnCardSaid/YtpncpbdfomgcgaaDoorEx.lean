/- Engine, extras: where more than one thing may come up next. -/
import Derived.Test.YtpncpbdfomgcgaaDoorEng
namespace Go.Eng
open Go Go.RowKit
section
variable {P : Program} {ops : Array Oper} {Q : Exit → Act → World → Prop} {N : Nat} {tm : Tm} {A : World → Prop} {listed : Array Bool} {S : World → Prop} {order : List Nat} {fuel : Nat}

/-- number i comes up next -/
def KS (P : Program) (ops : Array Oper) (Q : Exit → Act → World → Prop) (fuel : Nat) (listed : Array Bool) (S : World → Prop) (i : Nat) : Act → World → Prop :=
  fun a w => wpOp P ops Q i (fun a' w' => (waitsAll .any ops i = true ∧ Region.ready .any ops (listed.setIfInBounds i true) = [] ∧ Q .normal a' w') ∨
      ∃ S', (∀ w, S' w → S w) ∧ S' w' ∧ wpAnyG P .any ops Q fuel (listed.setIfInBounds i true) S' a' w') a w

theorem kg_br2 (i j : Nat) (hr : Region.ready .any ops listed = [i, j] := by kernel_rfl) (h1 : KP N (KS P ops Q fuel listed S i) tm A) (h2 : KP N (KS P ops Q fuel listed S j) tm A) : KP N (KG P ops Q (fuel + 1) listed S order) tm A := by
  unfold KP KG at *
  intro a w hs hw _
  refine ⟨fun h => (by rw [h] at hr; cases hr), fun k hk => ?_⟩
  rw [hr] at hk
  simp only [List.mem_cons, List.not_mem_nil, or_false] at hk
  rcases hk with rfl | rfl
  · exact h1 a w hs hw
  · exact h2 a w hs hw
theorem kg_br3 (i j l : Nat) (hr : Region.ready .any ops listed = [i, j, l] := by kernel_rfl) (h1 : KP N (KS P ops Q fuel listed S i) tm A) (h2 : KP N (KS P ops Q fuel listed S j) tm A) (h3 : KP N (KS P ops Q fuel listed S l) tm A) : KP N (KG P ops Q (fuel + 1) listed S order) tm A := by
  unfold KP KG at *
  intro a w hs hw _
  refine ⟨fun h => (by rw [h] at hr; cases hr), fun k hk => ?_⟩
  rw [hr] at hk
  simp only [List.mem_cons, List.not_mem_nil, or_false] at hk
  rcases hk with rfl | rfl | rfl
  · exact h1 a w hs hw
  · exact h2 a w hs hw
  · exact h3 a w hs hw
theorem kg_br4 (i j l m : Nat) (hr : Region.ready .any ops listed = [i, j, l, m] := by kernel_rfl) (h1 : KP N (KS P ops Q fuel listed S i) tm A) (h2 : KP N (KS P ops Q fuel listed S j) tm A) (h3 : KP N (KS P ops Q fuel listed S l) tm A) (h4 : KP N (KS P ops Q fuel listed S m) tm A) : KP N (KG P ops Q (fuel + 1) listed S order) tm A := by
  unfold KP KG at *
  intro a w hs hw _
  refine ⟨fun h => (by rw [h] at hr; cases hr), fun k hk => ?_⟩
  rw [hr] at hk
  simp only [List.mem_cons, List.not_mem_nil, or_false] at hk
  rcases hk with rfl | rfl | rfl | rfl
  · exact h1 a w hs hw
  · exact h2 a w hs hw
  · exact h3 a w hs hw
  · exact h4 a w hs hw
theorem ks_f {i : Nat} {dst : Option Tmp} {op : Op} {ty : TypeId} {pos : String} {aft : Array Edge} (order : List Nat) (S' : World → Prop) (hi : ops[i]? = some ⟨dst, op, ty, pos, aft, none⟩ := by rfl)
    (hSS : ∀ w, S' w → S w := by first | exact fun _ h => h | exact fun _ h => h.tail | exact fun _ h => h.tailB)
    (h : FX P N op dst Q tm A (fun a' w' => S' w' ∧ KG P ops Q fuel (listed.setIfInBounds i true) S' order a' w')) : KP N (KS P ops Q fuel listed S i) tm A := by
  unfold KP KS
  intro a w hs hw
  unfold wpOp
  simp only [hi, Region.wanted]
  refine .inl (Oper.wp_mono (fun a' w' h' => ?_) ((by unfold FX at h; exact h a w ty pos aft none hs hw)))
  obtain ⟨h1, h2⟩ := h'
  unfold KG at h2
  exact .inr ⟨S', hSS, h1, h2 h1⟩
/-- only number i may come up next -/
theorem kg_br1 (i : Nat) (hr : Region.ready .any ops listed = [i] := by kernel_rfl) (h1 : KP N (KS P ops Q fuel listed S i) tm A) : KP N (KG P ops Q (fuel + 1) listed S order) tm A := by
  unfold KP KG at *
  intro a w hs hw _
  refine ⟨fun h => (by rw [h] at hr; cases hr), fun k hk => ?_⟩
  rw [hr] at hk
  simp only [List.mem_cons, List.not_mem_nil, or_false] at hk
  subst hk
  exact h1 a w hs hw
end
/-- the ways meet again, the sequence being entered -/
theorem wc_cutA {P : Program} {N : Nat} {Q Q' : Exit → Act → World → Prop} {tm : Tm} {A : World → Prop} {x y : Code} {σ : Type} (J : σ → Prop) (T : σ → Tm) (I : σ → World → Prop)
    (h : WC P N x (Exit.then (CQ N J T I) Q') tm A) (hy : ∀ s, J s → WC P N y Q (T s) (I s)) : WC P N x (Exit.then (fun a w => y.wp P Q a w) Q') tm A := by
  unfold WC KP at *
  intro a w hs hw
  refine wp_mono (h a w hs hw) fun e a' w' q => ?_
  cases e with
  | normal =>
    have q' : CQ N J T I a' w' := q
    unfold CQ at q'
    obtain ⟨s, hJ, hsim, hI⟩ := q'
    exact hy s hJ a' w' hsim hI
  | _ => exact q
attribute [irreducible] KS
section
variable {P : Program} {N : Nat} {tm : Tm} {A : World → Prop} {c : Bool}
/-- an array in a variable -/
theorem qy_index_abox {t e sz b len bb off n : Nat} {z : Value} {k : IntKind} {x y : Operand} [ht : TAr P t len e] [hE : TE P e sz b z] (hx : EV tm c x (.pointer (some ⟨bb, off, none⟩))) (hy : EV tm c y (.int k (n : Int)))
    (hb : c = true → n < len) : QY P N (.indexAddr t x y) tm A c (.pointer (some ⟨bb, off + n * sz, none⟩)) := by
  unfold QY
  intro hc a w _ _ _ _ _ hsim hw
  simp only [execOp, hy.get hsim hc, hx.get hsim hc]
  refine run_v ?_
  obtain ⟨i, hi, his, _⟩ := hE.h
  subst his
  have h0 : (0 : Int) ≤ (n : Int) ∧ (n : Int) < len := ⟨by omega, by have := hb hc; omega⟩
  show (Instr.indexAt t (.pointer (some ⟨bb, off, none⟩)) (.int k (n : Int))).run P w = _
  rcases Nat.eq_zero_or_pos n with rfl | hn
  · simp [Instr.indexAt, asIntOf, run_underlying ht.h, Instr.sureAddr, hb hc, sizeOf, typeInfo, hi, Addr.add]
  · by_cases hs : i.size = 0
    · simp [Instr.indexAt, asIntOf, run_underlying ht.h, Instr.sureAddr, hb hc, sizeOf, typeInfo, hi, Addr.add, hs]
    · simp [Instr.indexAt, asIntOf, run_underlying ht.h, Instr.sureAddr, hb hc, sizeOf, typeInfo, hi, Addr.add, hs, show ¬ n = 0 from by omega]
/-- '%' and '/' of what is not negative -/
theorem qy_rem {t t' : TypeId} {x y : Operand} {m n : Nat} (hx : EV tm c x (.int .i64 (m : Int))) (hy : EV tm c y (.int .i64 (n : Int))) (hn : c = true → 0 < n) : QY P N (.binOp .rem t x y t') tm A c (.int .i64 ((m % n : Nat) : Int)) := by
  by_cases hc : c = true
  · have h0 : ¬ n = 0 := by have := hn hc; omega
    exact qy_int2 hx hy (fun w => by
      simp [binOp, Op.intDiv, h0]
      exact (Int.ofNat_tmod m n).symm)
  · unfold QY; exact fun h => absurd h hc
theorem qy_quo {t t' : TypeId} {x y : Operand} {m n : Nat} (hx : EV tm c x (.int .i64 (m : Int))) (hy : EV tm c y (.int .i64 (n : Int))) (hn : c = true → 0 < n) (hm : m < 9223372036854775808) : QY P N (.binOp .quo t x y t') tm A c (.int .i64 ((m / n : Nat) : Int)) := by
  by_cases hc : c = true
  · have h0 : ¬ n = 0 := by have := hn hc; omega
    have h2 : m / n < 9223372036854775808 := Nat.lt_of_le_of_lt (Nat.div_le_self m n) hm
    have h1 : IntKind.i64.wrap ((m / n : Nat) : Int) = ((m / n : Nat) : Int) := inI_i64 (n := ((m / n : Nat) : Int)) ⟨by generalize m / n = q at *; omega, by generalize m / n = q at *; omega⟩
    exact qy_int2 hx hy (fun w => by
      simp only [binOp, Op.intDiv, ne_eq, not_true, if_false]
      rw [if_neg (by omega), show ((m : Int).tdiv (n : Int)) = ((m / n : Nat) : Int) from (Int.ofNat_tdiv m n).symm, h1]
      rfl)
  · unfold QY; exact fun h => absurd h hc
end
end Go.Eng
