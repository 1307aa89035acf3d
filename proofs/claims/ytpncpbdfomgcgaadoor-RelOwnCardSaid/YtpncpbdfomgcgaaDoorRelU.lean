/- Plain: builders of relations; what each function answers. -/
import Derived.Test.YtpncpbdfomgcgaaDoorRelT
namespace Go.Rl
open Go.Eng

theorem relOf_ext {m : Nat} {p q : Nat → Nat → Bool} (h : ∀ a b, a < m → b < m → p a b = q a b) : relOf m p = relOf m q := by
  unfold relOf
  refine List.map_congr_left fun a ha => ?_
  rw [List.mem_range] at ha
  have key : ∀ n, n ≤ m → rowOf n (p a) = rowOf n (q a) := by
    intro n hn
    induction n with
    | zero => rfl
    | succ n ih => rw [rowOf_succ, rowOf_succ, ih (by omega), h a n ha (by omega)]
  exact key m (Nat.le_refl _)

theorem relOf_length (m : Nat) (p : Nat → Nat → Bool) : (relOf m p).length = m := by simp [relOf]

theorem put_relOf (m : Nat) (p : Nat → Nat → Bool) (h : m ≤ 64) (i j : Nat) (hi : i < m) (hj : j < m) : put (relOf m p) i j = relOf m fun a b => p a b || (decide (a = i) && decide (b = j)) := by
  refine bt_ext (by simp [put_length, relOf_length]) fun a b ha hb => ?_
  rw [put_length, relOf_length] at ha
  rw [put_bit _ _ _ _ _ (by rw [relOf_length]; exact hi) (by omega), relOf_bit _ _ h, relOf_bit _ _ h]
  by_cases hbm : b < m
  · simp [ha, hbm]
  · simp [hbm, show ¬ b = j from by omega]

theorem relOf_zero (m : Nat) : relOf m (fun _ _ => false) = List.replicate m 0#64 := by
  refine bt_ext (by simp [relOf_length]) fun a b ha hb => ?_
  rw [bt_zero]
  unfold bt relOf
  rw [List.getD_eq_getElem?_getD, List.getElem?_map]
  rw [relOf_length] at ha
  rw [List.getElem?_range ha]
  have key : ∀ n, rowOf n (fun _ => false) = 0#64 := by
    intro n
    induction n with
    | zero => rfl
    | succ n ih => rw [rowOf_succ, ih]; rfl
  simp [key]

def upTo (p : Nat → Nat → Bool) (i a b : Nat) : Bool := decide (a < i) && p a b
def upTo2 (p : Nat → Nat → Bool) (i j a b : Nat) : Bool := (decide (a < i) || (decide (a = i) && decide (b < j))) && p a b

theorem upTo_zero (m : Nat) (p : Nat → Nat → Bool) : List.replicate m 0#64 = relOf m (upTo p 0) := by
  rw [← relOf_zero]; exact relOf_ext fun a b _ _ => by simp [upTo]
theorem upTo2_zero (m : Nat) (p : Nat → Nat → Bool) (i : Nat) : relOf m (upTo p i) = relOf m (upTo2 p i 0) := relOf_ext fun a b _ _ => by simp [upTo, upTo2]
theorem upTo2_put (m : Nat) (p : Nat → Nat → Bool) (h : m ≤ 64) (i j : Nat) (hi : i < m) (hj : j < m) (hp : p i j = true) : put (relOf m (upTo2 p i j)) i j = relOf m (upTo2 p i (j + 1)) := by
  rw [put_relOf m _ h i j hi hj]
  refine relOf_ext fun a b _ _ => ?_
  unfold upTo2
  by_cases ha : a = i
  · subst ha
    by_cases hb : b = j
    · subst hb; simp [hp]
    · rw [show decide (b < j + 1) = decide (b < j) from decide_eq_decide.2 (by omega)]; simp [hb]
  · simp [ha]
theorem upTo2_skip (m : Nat) (p : Nat → Nat → Bool) (i j : Nat) (hp : p i j = false) : relOf m (upTo2 p i j) = relOf m (upTo2 p i (j + 1)) := by
  refine relOf_ext fun a b _ _ => ?_
  unfold upTo2
  by_cases ha : a = i
  · subst ha
    by_cases hb : b = j
    · subst hb; simp [hp]
    · rw [show decide (b < j + 1) = decide (b < j) from decide_eq_decide.2 (by omega)]
  · simp [ha]
theorem upTo2_all (m : Nat) (p : Nat → Nat → Bool) (i : Nat) : relOf m (upTo2 p i m) = relOf m (upTo p (i + 1)) := by
  refine relOf_ext fun a b _ hb => ?_
  unfold upTo2 upTo
  by_cases ha : a = i
  · subst ha; simp [hb]
  · rw [show decide (a < i + 1) = decide (a < i) from decide_eq_decide.2 (by omega)]; simp [ha]
theorem upTo_all (m : Nat) (p : Nat → Nat → Bool) : relOf m (upTo p m) = relOf m p := relOf_ext fun a b ha _ => by simp [upTo, ha]

theorem map_relOf (m : Nat) (f : Nat → W) (p : Nat → Nat → Bool) (h : m ≤ 64) (hf : ∀ i j, i < m → j < 64 → (f i).getLsbD j = (decide (j < m) && p i j)) : (List.range m).map f = relOf m p := by
  refine bt_ext (by simp [relOf_length]) fun a b ha hb => ?_
  simp only [List.length_map, List.length_range] at ha
  rw [relOf_bit _ _ h]
  unfold bt
  rw [List.getD_eq_getElem?_getD, List.getElem?_map, List.getElem?_range ha]
  simp [hf a b ha hb, ha]

theorem relOk_bt {m : Nat} {rows : List W} (h : relOk m rows = true) (a b : Nat) (hb : m ≤ b) : bt rows a b = false := relOk_high h a b hb
theorem bt_ge (rows : List W) (a b : Nat) (h : rows.length ≤ a) : bt rows a b = false := by
  unfold bt
  rw [List.getD_eq_getElem?_getD, List.getElem?_eq_none h]
  exact BitVec.getLsbD_zero
/-- a relation that may be is that of its bits -/
theorem relOf_self {m : Nat} {rows : List W} (h : relOk m rows = true) : relOf m (bt rows) = rows := by
  obtain ⟨m', hm, hok⟩ := (relOk_iff _ _).1 h
  have hm : m = m' := by omega
  subst hm
  refine bt_ext (by rw [relOf_length, hok.len]) fun a b ha hb => ?_
  rw [relOf_length] at ha
  rw [relOf_bit _ _ hok.le]
  by_cases hbm : b < m
  · simp [ha, hbm]
  · rw [relOk_bt h a b (by omega)]; simp
theorem relOk_relOf (m : Nat) (p : Nat → Nat → Bool) (h : m ≤ 64) : relOk m (relOf m p) = true := by
  rw [relOk_iff]
  refine ⟨m, rfl, h, relOf_length m p, fun r hr j hj => ?_⟩
  obtain ⟨a, ha⟩ := List.getElem?_of_mem hr
  have h1 := relOf_bit m p h a j
  unfold bt at h1
  rw [List.getD_eq_getElem?_getD, ha] at h1
  simp only [Option.getD_some] at h1
  rw [h1]; simp; omega

/-! answers -/
def erOf (b : Bool) : Int := if b = true then 0 else 10
def nOf (b : Bool) (n : Int) : Int := if b = true then n else 0
def erTwo (a : Int) (ra : List W) (b : Int) (rb : List W) : Int := if (relOk a ra && relOk b rb) = true then (if a = b then 0 else 11) else 10
def n2 (e : Int) (n : Int) : Int := if e = 0 then n else 0
def backS (n : Int) (rows : List W) : List W := if relOk n rows = true then relOf n.toNat fun a b => bt rows b a else []
def pickS (n : Int) (rows : List W) (f t : W) : List W := if relOk n rows = true then relOf n.toNat fun a b => bt rows a b && f.getLsbD a && t.getLsbD b else []
def mixS (op : Bool → Bool → Bool) (a : Int) (ra : List W) (b : Int) (rb : List W) : List W := if erTwo a ra b rb = 0 then relOf a.toNat fun i j => op (bt ra i j) (bt rb i j) else []
def thenP (m : Nat) (ra rb : List W) (i k : Nat) : Bool := (List.range m).any fun j => bt ra i j && bt rb j k
def thenS (a : Int) (ra : List W) (b : Int) (rb : List W) : List W := if erTwo a ra b rb = 0 then relOf a.toNat (thenP a.toNat ra rb) else []
def withinS (a : Int) (ra : List W) (b : Int) (rb : List W) : Bool := if erTwo a ra b rb = 0 then (List.range a.toNat).all fun i => decide (ra.getD i default &&& ~~~ rb.getD i default = 0#64) else false

theorem erTwo_zero {a b : Int} {ra rb : List W} (h : erTwo a ra b rb = 0) : relOk a ra = true ∧ relOk b rb = true ∧ a = b := by
  unfold erTwo at h
  by_cases h1 : (relOk a ra && relOk b rb) = true
  · rw [if_pos h1] at h
    by_cases h2 : a = b
    · simp only [Bool.and_eq_true] at h1; exact ⟨h1.1, h1.2, h2⟩
    · rw [if_neg h2] at h; omega
  · rw [if_neg h1] at h; omega
end Go.Rl
