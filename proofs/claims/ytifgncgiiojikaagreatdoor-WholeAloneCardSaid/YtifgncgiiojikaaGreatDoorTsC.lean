/- The walks: alembicref15.Fenced, alembicref19.Ppo. -/
import Derived.Test.YtifgncgiiojikaaGreatDoorTsB
set_option linter.unusedSimpArgs false
set_option linter.unusedVariables false
namespace Go.Proofs.YtifgncgiiojikaaGreatDoor
open Go Go.Eng Go.Tc Go.Rl Go.Vw
attribute [local irreducible] wpList Code.wp bodyPost Exit.then Exit.inBlock Calls
/-- the rows while a pair's fences are gone through -/
def upTo3 (t : Tr) (i j k a b : Nat) : Bool := upTo2 (fnP t) i j a b || (decide (a = i) && decide (b = j) && (t.bars.take k).any (barB (evi t i) (evi t j)))
theorem upTo3_zero (t : Tr) (i j : Nat) : upTo2 (fnP t) i j = upTo3 t i j 0 := by
  funext a b; unfold upTo3; simp
theorem take_any_succ {α : Type} [Inhabited α] (p : α → Bool) (l : List α) {k : Nat} (h : k < l.length) : (l.take (k + 1)).any p = ((l.take k).any p || p (l.getD k default)) := by
  rw [take_one h, List.any_append]; simp
theorem upTo3_put (t : Tr) (m i j k : Nat) (hm : m ≤ 64) (hi : i < m) (hj : j < m) (hk : k < t.bars.length) (hb : barB (evi t i) (evi t j) (t.bars.getD k default) = true) : put (relOf m (upTo3 t i j k)) i j = relOf m (upTo3 t i j (k + 1)) := by
  rw [put_relOf m _ hm i j hi hj]
  refine relOf_ext fun a b _ _ => ?_
  unfold upTo3
  rw [take_any_succ _ _ hk, hb]
  cases upTo2 (fnP t) i j a b <;> cases decide (a = i) <;> cases decide (b = j) <;> simp
theorem upTo3_skip (t : Tr) (m i j k : Nat) (hk : k < t.bars.length) (hb : barB (evi t i) (evi t j) (t.bars.getD k default) = false) : relOf m (upTo3 t i j k) = relOf m (upTo3 t i j (k + 1)) := by
  refine relOf_ext fun a b _ _ => ?_
  unfold upTo3
  rw [take_any_succ _ _ hk, hb, Bool.or_false]
theorem upTo3_all (t : Tr) (m i j : Nat) (hp : poP t i j = true) : relOf m (upTo3 t i j t.bars.length) = relOf m (upTo2 (fnP t) i (j + 1)) := by
  refine relOf_ext fun a b _ _ => ?_
  unfold upTo3 upTo2
  rw [List.take_length]
  by_cases ha : a = i
  · subst ha
    by_cases hb : b = j
    · subst hb
      unfold fnP fnB
      rw [hp]; simp
    · have : decide (b < j + 1) = decide (b < j) := by rw [decide_eq_decide]; omega
      simp [hb, this]
  · simp [ha]
theorem upTo3_none (t : Tr) (m i j : Nat) (hp : poP t i j = false) : relOf m (upTo3 t i j 0) = relOf m (upTo2 (fnP t) i (j + 1)) := by
  rw [← upTo3_zero]
  exact upTo2_skip _ _ i j (by unfold fnP; rw [hp]; rfl)

end Go.Proofs.YtifgncgiiojikaaGreatDoor
