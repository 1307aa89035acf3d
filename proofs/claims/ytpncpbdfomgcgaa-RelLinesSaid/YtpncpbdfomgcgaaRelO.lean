/- The walks of the reference: Then; Acyclic (both). -/
import Derived.Test.YtpncpbdfomgcgaaRelN
namespace Go.Rl
open Go.Eng
def thB (m : Nat) (ra rb : List W) (i j k a b : Nat) : Bool := (decide (a < i) && thenP m ra rb a b) || (decide (a = i) && (thenP j ra rb a b || (decide (b < k) && bt ra a j && bt rb j b)))
theorem thenP_zero (ra rb : List W) (a b : Nat) : thenP 0 ra rb a b = false := by simp [thenP]
theorem thenP_succ (j : Nat) (ra rb : List W) (a b : Nat) : thenP (j + 1) ra rb a b = (thenP j ra rb a b || (bt ra a j && bt rb j b)) := by
  unfold thenP; rw [List.range_succ, List.any_append]; simp
theorem thB_zero (m : Nat) (ra rb : List W) (i : Nat) : relOf m (upTo (thenP m ra rb) i) = relOf m (thB m ra rb i 0 0) := relOf_ext fun a b _ _ => by simp [upTo, thB, thenP_zero]
theorem thB_put (m : Nat) (ra rb : List W) (h : m ≤ 64) (i j k : Nat) (hi : i < m) (hk : k < m) (h1 : bt ra i j = true) (h2 : bt rb j k = true) : put (relOf m (thB m ra rb i j k)) i k = relOf m (thB m ra rb i j (k + 1)) := by
  rw [put_relOf m _ h i k hi hk]
  refine relOf_ext fun a b _ _ => ?_
  unfold thB
  by_cases ha : a = i
  · subst ha
    by_cases hb : b = k
    · subst hb; simp [h1, h2]
    · rw [show decide (b < k + 1) = decide (b < k) from decide_eq_decide.2 (by omega)]; simp [hb]
  · simp [ha]
theorem thB_skip (m : Nat) (ra rb : List W) (i j k : Nat) (h2 : bt rb j k = false) : relOf m (thB m ra rb i j k) = relOf m (thB m ra rb i j (k + 1)) := by
  refine relOf_ext fun a b _ _ => ?_
  unfold thB
  by_cases hb : b = k
  · subst hb; simp [h2]
  · rw [show decide (b < k + 1) = decide (b < k) from decide_eq_decide.2 (by omega)]
theorem thB_next (m : Nat) (ra rb : List W) (i j k : Nat) (h : (decide (k < m) && bt ra i j) = false) : relOf m (thB m ra rb i j k) = relOf m (thB m ra rb i (j + 1) 0) := by
  refine relOf_ext fun a b _ hb => ?_
  unfold thB
  rw [thenP_succ]
  by_cases ha : a = i
  · subst ha
    by_cases h1 : bt ra a j = true
    · rw [h1] at h ⊢; simp at h; simp [show b < k from by omega]
    · simp [h1]
  · simp [ha]
theorem thB_all (m : Nat) (ra rb : List W) (i : Nat) : relOf m (thB m ra rb i m 0) = relOf m (upTo (thenP m ra rb) (i + 1)) := by
  refine relOf_ext fun a b _ _ => ?_
  unfold thB upTo
  by_cases ha : a = i
  · subst ha; simp
  · rw [show decide (a < i + 1) = decide (a < i) from decide_eq_decide.2 (by omega)]; simp [ha]
end Go.Rl
namespace Go.Proofs.Ytpncpbdfomgcgaa
open Go Go.Eng Go.Rl
attribute [local irreducible] wpList Code.wp bodyPost Exit.then Exit.inBlock Calls

end Go.Proofs.Ytpncpbdfomgcgaa
