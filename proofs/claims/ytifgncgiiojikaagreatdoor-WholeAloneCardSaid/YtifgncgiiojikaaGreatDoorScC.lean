/- Plain: lists in the order of words; the line is the least of all orders that keep a relation. -/
import Derived.Test.YtifgncgiiojikaaGreatDoorScA
set_option linter.unusedSimpArgs false
set_option linter.unusedVariables false
namespace Go.Proofs.YtifgncgiiojikaaGreatDoor
open Go Go.Eng Go.Tc Go.Rl Go.Vw
def cmpL : List Int → List Int → Int
  | [], [] => 0
  | [], _ :: _ => -1
  | _ :: _, [] => 1
  | x :: xs, y :: ys => if x < y then -1 else if y < x then 1 else cmpL xs ys
theorem cmpL_self : ∀ l : List Int, cmpL l l = 0
  | [] => rfl
  | x :: l => by unfold cmpL; rw [if_neg (Int.lt_irrefl x), if_neg (Int.lt_irrefl x)]; exact cmpL_self l
theorem cmpL_eq : ∀ {a b : List Int}, cmpL a b = 0 ↔ a = b
  | [], [] => by simp [cmpL]
  | [], _ :: _ => by simp [cmpL]
  | _ :: _, [] => by simp [cmpL]
  | x :: xs, y :: ys => by
    unfold cmpL
    by_cases h1 : x < y
    · rw [if_pos h1]; simp; intro h; omega
    · by_cases h2 : y < x
      · rw [if_neg h1, if_pos h2]; simp; intro h; omega
      · rw [if_neg h1, if_neg h2, cmpL_eq, show x = y by omega]; simp
theorem cmpL_pre : ∀ (l : List Int) {x y : Int} {xs ys : List Int}, x < y → cmpL (l ++ x :: xs) (l ++ y :: ys) = -1
  | [], x, y, xs, ys, h => by show cmpL (x :: xs) (y :: ys) = -1; unfold cmpL; rw [if_pos h]
  | z :: l, x, y, xs, ys, h => by
    show cmpL (z :: (l ++ x :: xs)) (z :: (l ++ y :: ys)) = -1
    unfold cmpL; rw [if_neg (Int.lt_irrefl z), if_neg (Int.lt_irrefl z)]; exact cmpL_pre l h
theorem lN_more {m : Nat} {p : Nat → Nat → Bool} (k : Nat) : ∀ j, ∃ r, lN m p (k + j) = lN m p k ++ r
  | 0 => ⟨[], by simp⟩
  | j + 1 => by
    obtain ⟨r, hr⟩ := lN_more (m := m) (p := p) k j
    show ∃ r, (match nextN m p (lN m p (k + j)) with | some i => lN m p (k + j) ++ [i] | none => lN m p (k + j)) = _
    cases nextN m p (lN m p (k + j)) with
    | none => exact ⟨r, hr⟩
    | some i => exact ⟨r ++ [i], by rw [hr]; exact List.append_assoc _ _ _⟩
theorem next_le {m : Nat} {p : Nat → Nat → Bool} {l : List Nat} {x : Nat} (hx : x < m) (hn : x ∉ l) (hp : ∀ q, q < m → p q x = true → q ∈ l) : ∃ i, nextN m p l = some i ∧ i ≤ x := by
  cases h : nextN m p l with
  | none =>
    exfalso
    obtain ⟨q, hq, hql, hqp⟩ := nextN_none h x hx hn
    exact hql (hp q hq hqp)
  | some i =>
    refine ⟨i, rfl, ?_⟩
    unfold nextN at h
    rw [List.find?_eq_some_iff_getElem] at h
    obtain ⟨_, k, hk, e, hall⟩ := h
    rw [List.getElem_range] at e
    subst e
    rcases Nat.lt_or_ge x k with q | q
    · exfalso
      have := hall x q
      rw [List.getElem_range] at this
      simp only [Bool.not_eq_true', Bool.and_eq_false_iff, decide_eq_false_iff_not] at this
      rcases this with g | g
      · exact g hn
      · rw [List.all_eq_false] at g
        obtain ⟨q, hq, g⟩ := g
        rw [List.mem_range] at hq
        simp only [Bool.or_eq_true, decide_eq_true_eq, Bool.not_eq_true', not_or, Bool.not_eq_false] at g
        exact g.1 (hp q hq g.2)
    · exact q
theorem lN_least {m : Nat} {p : Nat → Nat → Bool} {o : List Nat} (hO : IsOrd m o) (hup : ∀ a b, a < m → b < m → p a b = true → posN o a < posN o b) (hl : (lN m p m).length = m) : cmpL (ints (lN m p m)) (ints o) ≤ 0 := by
  have key : ∀ k, k ≤ m → lN m p k = o.take k ∨ ∃ j i, j < k ∧ lN m p j = o.take j ∧ lN m p (j + 1) = o.take j ++ [i] ∧ ∃ y, o[j]? = some y ∧ i < y := by
    intro k
    induction k with
    | zero => intro _; exact .inl rfl
    | succ k ih =>
      intro hk
      rcases ih (by omega) with h | ⟨j, i, hj, h⟩
      · have hkl : k < o.length := by rw [hO.len]; omega
        have hy : o[k]? = some o[k] := List.getElem?_eq_getElem hkl
        have hym : o[k] ∈ o := List.getElem_mem hkl
        have hpk := pos_at hO.nodup hy
        obtain ⟨i, hi, hiy⟩ := next_le (m := m) (p := p) (l := o.take k) (hO.lt _ hym) (fun q => by have := ((mem_take_pos hO.nodup).1 q).2; omega)
          (fun q hq hp => (mem_take_pos hO.nodup).2 ⟨hO.all hq, by have := hup q _ hq (hO.lt _ hym) hp; omega⟩)
        have e : lN m p (k + 1) = o.take k ++ [i] := by
          show (match nextN m p (lN m p k) with | some i => lN m p k ++ [i] | none => lN m p k) = _
          rw [h, hi]
        rcases Nat.lt_or_ge i o[k] with q | q
        · exact .inr ⟨k, i, by omega, h, e, _, hy, q⟩
        · obtain rfl : i = o[k] := by omega
          refine .inl ?_
          rw [e, List.take_add_one, hy]; rfl
      · exact .inr ⟨j, i, by omega, h⟩
  rcases key m (Nat.le_refl _) with h | ⟨j, i, hj, h1, h2, y, hy, hlt⟩
  · rw [h, List.take_of_length_le (by rw [hO.len]; omega), cmpL_self]; omega
  · obtain ⟨r, hr⟩ := lN_more (m := m) (p := p) (j + 1) (m - (j + 1))
    rw [show j + 1 + (m - (j + 1)) = m by omega, h2] at hr
    have ho : o = o.take j ++ y :: o.drop (j + 1) := by
      have hjl : j < o.length := by rw [hO.len]; omega
      rw [List.getElem?_eq_getElem hjl] at hy
      injection hy with hy
      rw [← hy, List.getElem_cons_drop, List.take_append_drop]
    have e1 : ints (lN m p m) = ints (o.take j) ++ (i : Int) :: ints r := by
      rw [hr]; unfold ints; rw [List.map_append, List.map_append]; simp
    have e2 : ints o = ints (o.take j) ++ (y : Int) :: ints (o.drop (j + 1)) := by
      conv => lhs; rw [ho]
      unfold ints; rw [List.map_append]; rfl
    rw [e1, e2, cmpL_pre _ (by omega)]; omega
end Go.Proofs.YtifgncgiiojikaaGreatDoor
