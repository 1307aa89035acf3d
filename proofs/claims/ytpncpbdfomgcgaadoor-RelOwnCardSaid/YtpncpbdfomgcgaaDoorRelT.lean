/- Plain: relations by their bits. -/
import Derived.Test.YtpncpbdfomgcgaaDoorRelS
namespace Go.Rl
open Go.Eng

def bt (rows : List W) (a b : Nat) : Bool := (rows.getD a default).getLsbD b

theorem bt_ext {xs ys : List W} (hl : xs.length = ys.length) (h : ∀ a b, a < xs.length → b < 64 → bt xs a b = bt ys a b) : xs = ys := by
  apply List.ext_getElem hl
  intro i h1 h2
  apply BitVec.eq_of_getLsbD_eq
  intro j hj
  have := h i j h1 hj
  unfold bt at this
  rwa [List.getD_eq_getElem?_getD, List.getD_eq_getElem?_getD, List.getElem?_eq_getElem h1, List.getElem?_eq_getElem h2] at this

theorem put_bit (rows : List W) (a b x y : Nat) (ha : a < rows.length) (hb : b < 64) : bt (put rows a b) x y = (bt rows x y || (decide (x = a) && decide (y = b))) := by
  unfold bt put
  rw [List.getD_eq_getElem?_getD, List.getElem?_set]
  by_cases hx : a = x
  · subst hx
    rw [if_pos rfl, if_pos ha, Option.getD_some, BitVec.getLsbD_or]
    congr 1
    rw [BitVec.getLsbD_shiftLeft, BitVec.getLsbD_one]
    by_cases hy : y = b
    · subst hy; simp [hb]
    · simp [hy]; omega
  · rw [if_neg hx, ← List.getD_eq_getElem?_getD]
    simp [show ¬ x = a from fun h => hx h.symm]

theorem bt_zero (m a b : Nat) : bt (List.replicate m 0#64) a b = false := by
  unfold bt
  rw [List.getD_eq_getElem?_getD, List.getElem?_replicate]
  split
  · simp
  · exact BitVec.getLsbD_zero

/-- a row of given bits -/
def rowOf (m : Nat) (p : Nat → Bool) : W := (List.range m).foldl (fun r b => if p b = true then r ||| 1#64 <<< b else r) 0#64

theorem rowOf_succ (m : Nat) (p : Nat → Bool) : rowOf (m + 1) p = if p m = true then rowOf m p ||| 1#64 <<< m else rowOf m p := by
  unfold rowOf; rw [List.range_succ, List.foldl_append]; rfl

theorem rowOf_bit (m : Nat) (p : Nat → Bool) (h : m ≤ 64) (b : Nat) : (rowOf m p).getLsbD b = (decide (b < m) && p b) := by
  induction m with
  | zero => simp [rowOf]
  | succ m ih =>
    rw [rowOf_succ]
    have ih := ih (by omega)
    have h1 : (1#64 <<< m).getLsbD b = decide (b = m) := by
      rw [BitVec.getLsbD_shiftLeft, BitVec.getLsbD_one]
      by_cases hb : b = m
      · subst hb; simp; omega
      · simp [hb]; omega
    by_cases hp : p m = true
    · rw [if_pos hp, BitVec.getLsbD_or, ih, h1]
      by_cases hb : b = m
      · subst hb; simp [hp]
      · simp only [hb, decide_false, Bool.or_false]
        rw [decide_eq_decide.2 (show b < m ↔ b < m + 1 from by omega)]
    · rw [if_neg hp, ih]
      by_cases hb : b = m
      · subst hb; simp [hp]
      · rw [decide_eq_decide.2 (show b < m ↔ b < m + 1 from by omega)]

/-- the relation of given pairs -/
def relOf (m : Nat) (p : Nat → Nat → Bool) : List W := (List.range m).map fun a => rowOf m (p a)

theorem relOf_bit (m : Nat) (p : Nat → Nat → Bool) (h : m ≤ 64) (a b : Nat) : bt (relOf m p) a b = (decide (a < m) && decide (b < m) && p a b) := by
  unfold bt relOf
  rw [List.getD_eq_getElem?_getD, List.getElem?_map]
  by_cases ha : a < m
  · rw [List.getElem?_range ha]; simp [rowOf_bit m _ h, ha]
  · rw [List.getElem?_eq_none (by simp; omega)]; simp [ha]
    exact BitVec.getLsbD_zero
end Go.Rl
