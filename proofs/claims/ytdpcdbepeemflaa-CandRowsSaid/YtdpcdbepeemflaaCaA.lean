/- Candidates by number: plain. -/
import Derived.Test.YtdpcdbepeemflaaG09
import Derived.Test.YtdpcdbepeemflaaG06
set_option linter.unusedSimpArgs false
set_option linter.unusedVariables false
namespace Go.Tc
open Go Go.Eng
/-- the way of a number in which so many things can stand -/
def ordN : Nat → List Int → Nat → List Int
  | 0, _, _ => []
  | m + 1, l, n => l.getD (n / fact m) default :: ordN m (l.eraseIdx (n / fact m)) (n % fact m)
def ordL (l : List Int) (n : Nat) : List Int := ordN l.length l n
theorem ordN_len : ∀ (m : Nat) (l : List Int) (n : Nat), (ordN m l n).length = m
  | 0, _, _ => rfl
  | m + 1, l, n => by rw [ordN, List.length_cons, ordN_len m]
theorem ordL_len (l : List Int) (n : Nat) : (ordL l n).length = l.length := ordN_len _ _ _
theorem fact_succ (m : Nat) : fact (m + 1) = (m + 1) * fact m := rfl
theorem ord_lt {m n : Nat} (h : n < fact (m + 1)) : n / fact m < m + 1 := by
  rw [Nat.div_lt_iff_lt_mul (fact_pos m), ← fact_succ]; exact h
/-- the number left behind so many locations, from the last on -/
def remC (t : Tr) (n : Nat) : Nat → Nat
  | 0 => n
  | d + 1 => remC t n d / fact (wr t ((t.locs.length - 1 - d : Nat) : Int)).length
def coAt (t : Tr) (n k : Nat) : List Int := ordL (wr t (k : Int)) (remC t n (t.locs.length - 1 - k) % fact (wr t (k : Int)).length)
/-- and behind so many events -/
def remE (t : Tr) (n : Nat) : Nat → Nat
  | 0 => remC t n t.locs.length
  | d + 1 => remE t n d / (rdOf t (t.evs.length - 1 - d)).length
def rfAt (t : Tr) (n i : Nat) : Int := (rdOf t i).getD (remE t n (t.evs.length - 1 - i) % (rdOf t i).length) default
/-- the candidate of a number -/
def candAt (t : Tr) (n : Nat) : Cd := ⟨(List.range t.evs.length).map (rfAt t n), (List.range t.locs.length).map (coAt t n)⟩
def noC : Cd := ⟨[], []⟩
theorem rdOf_len (t : Tr) (i : Nat) : (rdOf t i).length = evWays t i := by
  unfold rdOf evWays; split <;> simp [Nat.add_comm]
theorem rdOf_pos (t : Tr) (i : Nat) : 0 < (rdOf t i).length := by rw [rdOf_len]; exact evWays_pos t i
/-- At's answer -/
def atE (t : Tr) (n : Int) : Int := if cntE t = 0 then if 0 ≤ n ∧ n < cntN t then 0 else 4 else cntE t
def atC (t : Tr) (n : Int) : Cd := if atE t n = 0 then candAt t n.toNat else noC
/-- the lists while they are filled from the last on -/
def coTo (t : Tr) (n d : Nat) : List (List Int) := (List.range t.locs.length).map fun k => if t.locs.length - d ≤ k then coAt t n k else []
def rfTo' (t : Tr) (n d : Nat) : List Int := (List.range t.evs.length).map fun i => if t.evs.length - d ≤ i then rfAt t n i else 0
theorem coTo_len (t : Tr) (n d : Nat) : (coTo t n d).length = t.locs.length := by unfold coTo; rw [List.length_map, List.length_range]
theorem rfTo'_len (t : Tr) (n d : Nat) : (rfTo' t n d).length = t.evs.length := by unfold rfTo'; rw [List.length_map, List.length_range]
theorem coTo_zero (t : Tr) (n : Nat) : coTo t n 0 = List.replicate t.locs.length [] := by
  unfold coTo
  apply List.ext_getElem (by simp)
  intro i h1 h2
  simp at h1
  simp [show ¬ t.locs.length ≤ i by omega]
theorem rfTo'_zero (t : Tr) (n : Nat) : rfTo' t n 0 = List.replicate t.evs.length 0 := by
  unfold rfTo'
  apply List.ext_getElem (by simp)
  intro i h1 h2
  simp at h1
  simp [show ¬ t.evs.length ≤ i by omega]
theorem coTo_all (t : Tr) (n : Nat) : coTo t n t.locs.length = (candAt t n).co := by
  unfold coTo candAt
  refine List.map_congr_left fun k _ => ?_
  rw [if_pos (by omega)]
theorem rfTo'_all (t : Tr) (n : Nat) : rfTo' t n t.evs.length = (candAt t n).rf := by
  unfold rfTo' candAt
  refine List.map_congr_left fun k _ => ?_
  rw [if_pos (by omega)]
theorem coTo_put (t : Tr) (n : Nat) {d : Nat} (hd : d < t.locs.length) {k : Nat} (hk : k = t.locs.length - 1 - d) {x : List Int} (hx : x = coAt t n k) : (coTo t n d).set k x = coTo t n (d + 1) := by
  subst hx
  unfold coTo
  apply List.ext_getElem (by simp)
  intro i h1 h2
  simp at h1 h2
  rw [List.getElem_set]
  simp only [List.getElem_map, List.getElem_range]
  by_cases q : k = i
  · subst q; rw [if_pos rfl, if_pos (by omega)]
  · rw [if_neg q]
    by_cases r : t.locs.length - d ≤ i
    · rw [if_pos r, if_pos (by omega)]
    · rw [if_neg r, if_neg (by omega)]
theorem rfTo'_put (t : Tr) (n : Nat) {d : Nat} (hd : d < t.evs.length) {k : Nat} (hk : k = t.evs.length - 1 - d) {x : Int} (hx : x = rfAt t n k) : (rfTo' t n d).set k x = rfTo' t n (d + 1) := by
  subst hx
  unfold rfTo'
  apply List.ext_getElem (by simp)
  intro i h1 h2
  simp at h1 h2
  rw [List.getElem_set]
  simp only [List.getElem_map, List.getElem_range]
  by_cases q : k = i
  · subst q; rw [if_pos rfl, if_pos (by omega)]
  · rw [if_neg q]
    by_cases r : t.evs.length - d ≤ i
    · rw [if_pos r, if_pos (by omega)]
    · rw [if_neg r, if_neg (by omega)]
theorem remC_le (t : Tr) (n : Nat) : ∀ d, remC t n d ≤ n
  | 0 => Nat.le_refl _
  | d + 1 => Nat.le_trans (Nat.div_le_self _ _) (remC_le t n d)
theorem remE_le (t : Tr) (n : Nat) : ∀ d, remE t n d ≤ n
  | 0 => remC_le t n _
  | d + 1 => Nat.le_trans (Nat.div_le_self _ _) (remE_le t n d)
/-- what is left behind each division is below what is left of the product -/
theorem fact_le_cand {t : Tr} (h : candN t ≤ 65536) {k : Nat} (hk : k < t.locs.length) : fact (wr t (k : Int)).length ≤ 65536 := by
  have h1 : locProd t (k + 1) ≤ candN t := Nat.le_trans (locProd_mono t _ hk) (Nat.le_mul_of_pos_left _ (evProd_pos t _))
  rw [locProd] at h1
  exact Nat.le_trans (Nat.le_mul_of_pos_left _ (locProd_pos t k)) (Nat.le_trans h1 h)
theorem trOk_rw {t : Tr} (h : trOk t = true) {i : Nat} (hi : i < t.evs.length) : (t.evs.getD i default).dir = 1 ∨ (t.evs.getD i default).dir = 2 := by
  simp only [trOk, Bool.and_eq_true, eventedB, all_range] at h
  have h1 := h.1.1.1.1.1.2.2 i hi
  simp only [evAt, evOne, dirB, Bool.and_eq_true, Bool.or_eq_true, decide_eq_true_eq] at h1
  have := h1.1.2
  omega
theorem trOk_read {t : Tr} (h : trOk t = true) {i : Nat} (hi : i < t.evs.length) (hd : ¬ (t.evs.getD i default).dir = 2) : (t.evs.getD i default).dir = 1 := by
  have := trOk_rw h hi
  omega
end Go.Tc
