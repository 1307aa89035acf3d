/- Plain: the algebra of relations that may be; the contracts for these. -/
import Derived.Test.YtpncpbdfomgcgaaDoorRelQ
namespace Go.Rl
open Go.Eng
def uni (m : Nat) (a b : List W) : List W := relOf m fun i j => bt a i j || bt b i j
def bth (m : Nat) (a b : List W) : List W := relOf m fun i j => bt a i j && bt b i j
def les (m : Nat) (a b : List W) : List W := relOf m fun i j => bt a i j && !bt b i j
def thn (m : Nat) (a b : List W) : List W := relOf m (thenP m a b)
def bck (m : Nat) (a : List W) : List W := relOf m fun i j => bt a j i

theorem erTwo_ok {m : Nat} {a b : List W} (oa : relOk m a = true) (ob : relOk m b = true) : erTwo m a m b = 0 := by unfold erTwo; simp [oa, ob]
theorem relOk_le {m : Nat} {a : List W} (oa : relOk m a = true) : m ≤ 64 := by obtain ⟨m', h, h64, _⟩ := relOk_nat oa; omega
theorem relOk_len {m : Nat} {a : List W} (oa : relOk m a = true) : a.length = m := by obtain ⟨m', h, _, h2⟩ := relOk_nat oa; omega

theorem relOf_bt (m : Nat) (p : Nat → Nat → Bool) (h : m ≤ 64) (i j : Nat) (hi : i < m) (hj : j < m) : bt (relOf m p) i j = p i j := by rw [relOf_bit m p h]; simp [hi, hj]
theorem thenP_iff (m : Nat) (a b : List W) (i k : Nat) : thenP m a b i k = true ↔ ∃ j, j < m ∧ bt a i j = true ∧ bt b j k = true := by
  unfold thenP
  rw [List.any_eq_true]
  constructor
  · rintro ⟨j, hj, h⟩; rw [Bool.and_eq_true] at h; exact ⟨j, List.mem_range.1 hj, h⟩
  · rintro ⟨j, hj, h⟩; exact ⟨j, List.mem_range.2 hj, by rw [h.1, h.2]; rfl⟩

theorem uni_comm (m : Nat) (a b : List W) : uni m a b = uni m b a := relOf_ext fun i j _ _ => Bool.or_comm _ _
theorem bth_comm (m : Nat) (a b : List W) : bth m a b = bth m b a := relOf_ext fun i j _ _ => Bool.and_comm _ _
theorem uni_assoc (m : Nat) (a b c : List W) (h : m ≤ 64) : uni m (uni m a b) c = uni m a (uni m b c) := relOf_ext fun i j hi hj => by
  unfold uni; rw [relOf_bt m _ h i j hi hj, relOf_bt m _ h i j hi hj, Bool.or_assoc]
theorem thn_assoc (m : Nat) (a b c : List W) (h : m ≤ 64) : thn m (thn m a b) c = thn m a (thn m b c) := relOf_ext fun i k hi hk => by
  rw [Bool.eq_iff_iff, thenP_iff, thenP_iff]
  unfold thn
  constructor
  · rintro ⟨j, hj, h1, h2⟩
    rw [relOf_bt m _ h i j hi hj, thenP_iff] at h1
    obtain ⟨q, hq, h3, h4⟩ := h1
    exact ⟨q, hq, h3, by rw [relOf_bt m _ h q k hq hk, thenP_iff]; exact ⟨j, hj, h4, h2⟩⟩
  · rintro ⟨j, hj, h1, h2⟩
    rw [relOf_bt m _ h j k hj hk, thenP_iff] at h2
    obtain ⟨q, hq, h3, h4⟩ := h2
    exact ⟨q, hq, by rw [relOf_bt m _ h i q hi hq, thenP_iff]; exact ⟨j, hj, h1, h3⟩, h4⟩
theorem thn_uni (m : Nat) (a b c : List W) (h : m ≤ 64) : thn m a (uni m b c) = uni m (thn m a b) (thn m a c) := by
  unfold thn
  refine relOf_ext fun i k hi hk => ?_
  rw [relOf_bt m _ h i k hi hk, relOf_bt m _ h i k hi hk, Bool.eq_iff_iff, Bool.or_eq_true, thenP_iff, thenP_iff, thenP_iff]
  unfold uni
  constructor
  · rintro ⟨j, hj, h1, h2⟩
    rw [relOf_bt m _ h j k hj hk, Bool.or_eq_true] at h2
    rcases h2 with h2 | h2
    · exact .inl ⟨j, hj, h1, h2⟩
    · exact .inr ⟨j, hj, h1, h2⟩
  · rintro (⟨j, hj, h1, h2⟩ | ⟨j, hj, h1, h2⟩)
    · exact ⟨j, hj, h1, by rw [relOf_bt m _ h j k hj hk, h2]; rfl⟩
    · exact ⟨j, hj, h1, by rw [relOf_bt m _ h j k hj hk, h2, Bool.or_true]⟩
theorem bck_thn (m : Nat) (a b : List W) (h : m ≤ 64) : bck m (thn m a b) = thn m (bck m b) (bck m a) := by
  unfold bck
  refine relOf_ext fun i k hi hk => ?_
  unfold thn
  rw [relOf_bt m _ h k i hk hi, Bool.eq_iff_iff, thenP_iff, thenP_iff]
  constructor
  · rintro ⟨j, hj, h1, h2⟩
    exact ⟨j, hj, by rw [relOf_bt m _ h i j hi hj]; exact h2, by rw [relOf_bt m _ h j k hj hk]; exact h1⟩
  · rintro ⟨j, hj, h1, h2⟩
    rw [relOf_bt m _ h i j hi hj] at h1
    rw [relOf_bt m _ h j k hj hk] at h2
    exact ⟨j, hj, h2, h1⟩
end Go.Rl
namespace Go.Proofs.YtpncpbdfomgcgaaDoor
open Go Go.Eng Go.Rl

section
variable {m : Nat} {sa sb : Value} {a b : List W} {w : World} (oa : relOk m a = true) (ob : relOk m b = true) (ha : Sl All w encW 1 sa a) (hb : Sl All w encW 1 sb b)
include oa ob ha hb
theorem union_ok : Mk Tryd.prog 30 [.agg #[.int .i64 m, sa], .agg #[.int .i64 m, sb]] w (RelΨ m (uni m a b) 0) := by
  have := union_all m sa a m sb b w ha hb
  unfold mixS at this; rw [erTwo_ok oa ob] at this; exact this
theorem both_ok : Mk Tryd.prog 31 [.agg #[.int .i64 m, sa], .agg #[.int .i64 m, sb]] w (RelΨ m (bth m a b) 0) := by
  have := both_all m sa a m sb b w ha hb
  unfold mixS at this; rw [erTwo_ok oa ob] at this; exact this
theorem then_ok (hT : Tab w) : Mk Tryd.prog 29 [.agg #[.int .i64 m, sa], .agg #[.int .i64 m, sb]] w (RelΨ m (thn m a b) 0) := by
  have := then_all m sa a m sb b w ha hb hT
  unfold thenS at this; rw [erTwo_ok oa ob] at this; exact this
end
section
variable {m : Nat} {sa : Value} {a : List W} {w : World} (oa : relOk m a = true) (ha : Sl All w encW 1 sa a)
include oa ha
theorem back_ok : Mk Tryd.prog 19 [.agg #[.int .i64 m, sa]] w (RelΨ m (bck m a) 0) := by
  have := back_all m sa a w ha
  unfold backS at this; rw [oa] at this; exact this
theorem plus_ok : Mk Tryd.prog 21 [.agg #[.int .i64 m, sa]] w (RelΨ m (closedL m a) 0) := by
  have := plus_all m sa a w ha
  unfold plusS at this; rw [oa] at this; exact this
end
end Go.Proofs.YtpncpbdfomgcgaaDoor
