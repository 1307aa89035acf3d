import Derived.Test.YtifgncgiiojikaaGreatDoorG14
import Derived.Test.YtifgncgiiojikaaGreatDoorG02
import Derived.Test.YtifgncgiiojikaaGreatDoorG12
set_option linter.unusedSimpArgs false
set_option linter.unusedVariables false
section
/- Plain: rounds: in how many steps one comes to a thing by things above it. -/
namespace Go.Rl
open Go.Eng

/-- a step to what is n away -/
def stepB (p : Nat → Nat → Bool) (m s n : Nat) (f : Nat → Nat) (i : Nat) : Bool := if n = 0 then p i s else (List.range m).any fun j => decide (s < j) && p i j && decide (f j = n)
def dl (p : Nat → Nat → Bool) (m s : Nat) : Nat → Nat → Nat
  | 0 => fun _ => 0
  | n + 1 => fun i => if dl p m s n i ≠ 0 then dl p m s n i else if (decide (s ≤ i) && decide (i < m) && stepB p m s n (dl p m s n) i) = true then n + 1 else 0

section
variable {p : Nat → Nat → Bool} {m s : Nat}

theorem dl_succ (n i : Nat) : dl p m s (n + 1) i = if dl p m s n i ≠ 0 then dl p m s n i else if (decide (s ≤ i) && decide (i < m) && stepB p m s n (dl p m s n) i) = true then n + 1 else 0 := rfl

theorem stepB_iff (n : Nat) (f : Nat → Nat) (i : Nat) (hn : n ≠ 0) : stepB p m s n f i = true ↔ ∃ j, j < m ∧ s < j ∧ p i j = true ∧ f j = n := by
  unfold stepB
  rw [if_neg hn, List.any_eq_true]
  constructor
  · rintro ⟨j, hj, h⟩
    simp only [Bool.and_eq_true, decide_eq_true_eq] at h
    exact ⟨j, List.mem_range.1 hj, h.1.1, h.1.2, h.2⟩
  · rintro ⟨j, hj, h1, h2, h3⟩
    exact ⟨j, List.mem_range.2 hj, by simp [h1, h2, h3]⟩

theorem dl_le (n i : Nat) : dl p m s n i ≤ n := by
  induction n with
  | zero => simp [dl]
  | succ n ih =>
    rw [dl_succ]
    split
    · omega
    · split <;> omega

theorem dl_keep1 (n i : Nat) (h : dl p m s n i ≠ 0) : dl p m s (n + 1) i = dl p m s n i := by rw [dl_succ, if_pos h]
theorem dl_keep (n k i : Nat) (h : dl p m s n i ≠ 0) : dl p m s (n + k) i = dl p m s n i := by
  induction k with
  | zero => rfl
  | succ k ih =>
    rw [← Nat.add_assoc, dl_keep1 _ _ (by rw [ih]; exact h), ih]
theorem dl_new (n i : Nat) : dl p m s (n + 1) i = n + 1 ↔ dl p m s n i = 0 ∧ s ≤ i ∧ i < m ∧ stepB p m s n (dl p m s n) i = true := by
  have hle := dl_le (p := p) (m := m) (s := s) n i
  rw [dl_succ]
  by_cases h : dl p m s n i ≠ 0
  · rw [if_pos h]
    exact ⟨fun h' => by omega, fun h' => absurd h'.1 h⟩
  · rw [if_neg h]
    have h0 : dl p m s n i = 0 := by omega
    split
    · rename_i hc
      simp only [Bool.and_eq_true, decide_eq_true_eq] at hc
      exact ⟨fun _ => ⟨h0, hc.1.1, hc.1.2, hc.2⟩, fun _ => rfl⟩
    · rename_i hc
      refine ⟨fun h' => by omega, fun h' => absurd ?_ hc⟩
      simp [h'.2.1, h'.2.2.1, h'.2.2.2]
theorem dl_at (n i k : Nat) (hk : dl p m s n i = k) (h0 : k ≠ 0) : dl p m s k i = k := by
  induction n with
  | zero => simp [dl] at hk; omega
  | succ n ih =>
    by_cases h : dl p m s n i ≠ 0
    · rw [dl_keep1 n i h] at hk; exact ih hk
    · by_cases hk' : k = n + 1
      · subst hk'; exact hk
      · rw [dl_succ, if_neg h] at hk
        split at hk <;> omega
theorem dl_in (n i : Nat) (h : dl p m s n i ≠ 0) : s ≤ i ∧ i < m := by
  obtain ⟨k, hk⟩ : ∃ k, dl p m s n i = k + 1 := ⟨dl p m s n i - 1, by omega⟩
  have := dl_at n i (k + 1) hk (by omega)
  rw [dl_new] at this
  exact ⟨this.2.1, this.2.2.1⟩
theorem dl_one (n i : Nat) (hn : n ≠ 0) (h1 : s ≤ i) (h2 : i < m) (h : p i s = true) : dl p m s n i ≠ 0 := by
  have e : dl p m s 1 i = 1 := by rw [dl_new]; exact ⟨rfl, h1, h2, by simp [stepB, h]⟩
  obtain ⟨k, rfl⟩ : ∃ k, n = 1 + k := ⟨n - 1, by omega⟩
  rw [dl_keep 1 k i (by rw [e]; omega), e]; omega
/-- nobody is n away: nobody is further -/
theorem dl_stop (n : Nat) (hn : n ≠ 0) (h : ∀ i, dl p m s n i ≠ n) (k i : Nat) : dl p m s (n + k) i = dl p m s n i := by
  have key : ∀ k, (∀ i, dl p m s (n + k) i = dl p m s n i) ∧ ∀ i, dl p m s (n + k) i ≠ n + k := by
    intro k
    induction k with
    | zero => exact ⟨fun _ => rfl, h⟩
    | succ k ih =>
      have e : ∀ i, dl p m s (n + k + 1) i ≠ n + k + 1 := fun i hi => by
        rw [dl_new, stepB_iff _ _ _ (by omega)] at hi
        obtain ⟨_, _, _, j, _, _, _, hj⟩ := hi
        exact ih.2 j hj
      refine ⟨fun i => ?_, e⟩
      have := e i
      show dl p m s (n + k + 1) i = _
      by_cases h0 : dl p m s (n + k) i ≠ 0
      · rw [dl_keep1 _ _ h0, ih.1]
      · rw [dl_succ, if_neg h0] at this ⊢
        split at this
        · exact absurd rfl this
        · rename_i hc
          rw [if_neg hc, ← ih.1 i]; omega
  exact (key k).1 i

/-- what the program asks of a level -/
theorem dl_reach (n i : Nat) (h1 : s ≤ i) (h2 : i < m) (h0 : dl p m s n i = 0) : (∃ j, p i j = true ∧ (if n = 0 then j = s else dl p m s n j = n)) ↔ stepB p m s n (dl p m s n) i = true := by
  by_cases hn : n = 0
  · subst hn
    simp [stepB]
  · simp only [if_neg hn]
    rw [stepB_iff _ _ _ hn]
    constructor
    · rintro ⟨j, hp, hj⟩
      have h5 : dl p m s n j ≠ 0 := by omega
      obtain ⟨h3, h4⟩ := dl_in n j h5
      by_cases hjs : j = s
      · subst hjs
        exact absurd h0 (dl_one n i hn h1 h2 hp)
      · exact ⟨j, h4, by omega, hp, hj⟩
    · rintro ⟨j, h4, h3, hp, hj⟩
      exact ⟨j, hp, hj⟩

/-! within a level -/
def lv (p : Nat → Nat → Bool) (m s n q i : Nat) : Nat := if i < q then dl p m s (n + 1) i else dl p m s n i
theorem lv_start (n : Nat) : lv p m s n s = dl p m s n := by
  funext i
  unfold lv
  by_cases h : i < s
  · rw [if_pos h, dl_succ]
    by_cases h0 : dl p m s n i ≠ 0
    · rw [if_pos h0]
    · have hc : ¬ (decide (s ≤ i) && decide (i < m) && stepB p m s n (dl p m s n) i) = true := fun hc => by
        simp only [Bool.and_eq_true, decide_eq_true_eq] at hc; omega
      rw [if_neg h0, if_neg hc]; omega
  · rw [if_neg h]
theorem dl_out (n i : Nat) (h : ¬ i < m) : dl p m s n i = 0 := by
  by_cases h0 : dl p m s n i = 0
  · exact h0
  · exact absurd (dl_in n i h0).2 h
theorem lv_end (n : Nat) (q : Nat) (hq : m ≤ q) : lv p m s n q = dl p m s (n + 1) := by
  funext i
  unfold lv
  split
  · rfl
  · rw [dl_out _ _ (by omega), dl_out _ _ (by omega)]
theorem lv_skip (n q : Nat) (h : dl p m s (n + 1) q = dl p m s n q) : lv p m s n (q + 1) = lv p m s n q := by
  funext i
  unfold lv
  by_cases hi : i = q
  · subst hi; simp [h]
  · by_cases h1 : i < q
    · rw [if_pos h1, if_pos (by omega)]
    · rw [if_neg h1, if_neg (by omega)]
theorem lv_set (n q : Nat) (h : dl p m s (n + 1) q = n + 1) : lv p m s n (q + 1) = fun i => if i = q then n + 1 else lv p m s n q i := by
  funext i
  unfold lv
  by_cases hi : i = q
  · subst hi; simp [h]
  · rw [if_neg hi]
    by_cases h1 : i < q
    · rw [if_pos h1, if_pos (by omega)]
    · rw [if_neg h1, if_neg (by omega)]
theorem lv_at (n q : Nat) : lv p m s n q q = dl p m s n q := by unfold lv; simp
/-- whether one is n away is not turned within the level -/
theorem lv_eq (n q j : Nat) (hn : n ≠ 0) : lv p m s n q j = n ↔ dl p m s n j = n := by
  unfold lv
  split
  · constructor
    · intro h
      by_cases h0 : dl p m s n j ≠ 0
      · rw [dl_keep1 _ _ h0] at h; exact h
      · have := dl_at (n + 1) j n h hn; exact this
    · intro h
      rw [dl_keep1 _ _ (by omega)]; exact h
  · exact Iff.rfl
end

/-- numbers of things, as the program keeps them -/
def tab (m : Nat) (f : Nat → Nat) : List Int := (List.range m).map fun i => ((f i : Nat) : Int)
theorem tab_length (m : Nat) (f : Nat → Nat) : (tab m f).length = m := by simp [tab]
theorem tab_get (m : Nat) (f : Nat → Nat) (i : Nat) (hi : i < m) : (tab m f).getD i default = (f i : Int) := by
  unfold tab; rw [List.getD_eq_getElem?_getD, List.getElem?_map, List.getElem?_range hi]; rfl
theorem tab_set (m : Nat) (f : Nat → Nat) (i v : Nat) (hi : i < m) : (tab m f).set i (v : Int) = tab m fun j => if j = i then v else f j := by
  apply List.ext_getElem (by simp [tab])
  intro j h1 h2
  rw [List.getElem_set]
  simp only [tab, List.getElem_map, List.getElem_range]
  by_cases hj : i = j
  · subst hj; simp
  · rw [if_neg hj, if_neg (fun h => hj h.symm)]
theorem tab_zero (m : Nat) (p : Nat → Nat → Bool) (s : Nat) : List.replicate m (0 : Int) = tab m (dl p m s 0) := by
  apply List.ext_getElem (by simp [tab])
  intro j h1 h2
  simp [tab, dl]

/-! the least round -/
def dd (p : Nat → Nat → Bool) (m s : Nat) : Nat := dl p m s m s
def fstep (p : Nat → Nat → Bool) (m : Nat) (st : Option (Nat × Nat)) (s : Nat) : Option (Nat × Nat) :=
  if dd p m s = 0 then st else match st with
    | none => some (s, dd p m s)
    | some (f, l) => if dd p m s < l then some (s, dd p m s) else some (f, l)
def findR (p : Nat → Nat → Bool) (m n : Nat) : Option (Nat × Nat) := (List.range n).foldl (fstep p m) none
theorem findR_succ (p : Nat → Nat → Bool) (m n : Nat) : findR p m (n + 1) = fstep p m (findR p m n) n := by unfold findR; rw [List.range_succ, List.foldl_append]; rfl
theorem findR_some (p : Nat → Nat → Bool) (m n f l : Nat) (h : findR p m n = some (f, l)) : f < n ∧ l ≠ 0 ∧ dd p m f = l := by
  induction n with
  | zero => simp [findR] at h
  | succ n ih =>
    rw [findR_succ] at h
    unfold fstep at h
    by_cases h0 : dd p m n = 0
    · rw [if_pos h0] at h
      have := ih h; omega
    · rw [if_neg h0] at h
      cases hc : findR p m n with
      | none =>
        rw [hc] at h
        simp only [Option.some.injEq, Prod.mk.injEq] at h
        obtain ⟨rfl, rfl⟩ := h
        exact ⟨by omega, h0, rfl⟩
      | some fl =>
        obtain ⟨f', l'⟩ := fl
        rw [hc] at h
        simp only at h
        split at h
        · simp only [Option.some.injEq, Prod.mk.injEq] at h
          obtain ⟨rfl, rfl⟩ := h
          exact ⟨by omega, h0, rfl⟩
        · rw [hc] at ih
          have := ih h
          exact ⟨by omega, this.2⟩
theorem findR_none (p : Nat → Nat → Bool) (m n : Nat) : findR p m n = none ↔ ∀ s, s < n → dd p m s = 0 := by
  induction n with
  | zero => simp [findR]
  | succ n ih =>
    rw [findR_succ]
    unfold fstep
    by_cases h0 : dd p m n = 0
    · rw [if_pos h0, ih]
      constructor
      · intro h s hs
        by_cases hsn : s = n
        · subst hsn; exact h0
        · exact h s (by omega)
      · exact fun h s hs => h s (by omega)
    · rw [if_neg h0]
      constructor
      · intro h
        cases hc : findR p m n with
        | none => rw [hc] at h; cases h
        | some fl => rw [hc] at h; simp only at h; split at h <;> cases h
      · exact fun h => absurd (h n (by omega)) h0

/-- the next thing of the round -/
def nxt (p : Nat → Nat → Bool) (m f at' lf : Nat) : Option Nat := (List.range m).find? fun j => decide (f < j) && p at' j && decide (dl p m f m j = lf)
def pathR (p : Nat → Nat → Bool) (m f : Nat) : Nat → Nat → List Nat
  | 0, _ => []
  | lf + 1, a => ((nxt p m f a (lf + 1)).getD a) :: pathR p m f lf ((nxt p m f a (lf + 1)).getD a)
theorem nxt_some (p : Nat → Nat → Bool) (m f a lf : Nat) (h0 : lf ≠ 0) (h : dl p m f m a = lf + 1) : ∃ j, nxt p m f a lf = some j ∧ f < j ∧ j < m ∧ p a j = true ∧ dl p m f m j = lf := by
  have h1 := dl_at m a (lf + 1) h (by omega)
  rw [dl_new, stepB_iff _ _ _ h0] at h1
  obtain ⟨_, _, _, j, hj, hf, hp, hd⟩ := h1
  have hle := dl_le (p := p) (m := m) (s := f) m a
  have hd' : dl p m f m j = lf := by
    obtain ⟨k, rfl⟩ : ∃ k, m = lf + k := ⟨m - lf, by omega⟩
    rw [dl_keep _ _ _ (by omega), hd]
  cases hn : nxt p m f a lf with
  | none =>
    unfold nxt at hn
    rw [List.find?_eq_none] at hn
    have := hn j (List.mem_range.2 hj)
    simp [hf, hp, hd'] at this
  | some q =>
    unfold nxt at hn
    have h2 := List.find?_some hn
    have h3 := List.mem_of_find?_eq_some hn
    simp only [Bool.and_eq_true, decide_eq_true_eq] at h2
    exact ⟨q, rfl, h2.1.1, List.mem_range.1 h3, h2.1.2, h2.2⟩
def roundL (p : Nat → Nat → Bool) (m : Nat) : List Nat := match findR p m m with
  | none => []
  | some (f, l) => f :: pathR p m f (l - 1) f
end Go.Rl
end

section
/- The walks: away, far. -/
namespace Go.Rl
open Go.Eng
theorem and_ne (x y : W) : ¬ (x &&& y = 0#64) ↔ ∃ j, x.getLsbD j = true ∧ y.getLsbD j = true := by
  constructor
  · intro h
    apply Classical.byContradiction
    intro hn
    apply h
    refine BitVec.eq_of_getLsbD_eq fun j _ => ?_
    rw [BitVec.getLsbD_and, BitVec.getLsbD_zero]
    cases hx : x.getLsbD j
    · rfl
    · cases hy : y.getLsbD j
      · rfl
      · exact absurd ⟨j, hx, hy⟩ hn
  · rintro ⟨j, h1, h2⟩ h
    have := congrArg (fun z => z.getLsbD j) h
    simp [h1, h2] at this
theorem one_bit (s j : Nat) (hs : s < 64) : (1#64 <<< s).getLsbD j = decide (j = s) := by
  rw [BitVec.getLsbD_shiftLeft, BitVec.getLsbD_one]
  by_cases h : j = s
  · subst h; simp [hs]
  · simp [h]; omega
theorem zero_iff (x : W) : x = 0#64 ↔ ∀ j, x.getLsbD j = false := by
  constructor
  · rintro rfl j; exact BitVec.getLsbD_zero
  · intro h; exact BitVec.eq_of_getLsbD_eq fun j _ => by rw [h, BitVec.getLsbD_zero]
end Go.Rl
namespace Go.Proofs.YtifgncgiiojikaaGreatDoor
open Go Go.Eng Go.Rl
attribute [local irreducible] wpList Code.wp bodyPost Exit.then Exit.inBlock Calls

end Go.Proofs.YtifgncgiiojikaaGreatDoor
end

section
/- The walk of the reference's far. -/
namespace Go.Proofs.YtifgncgiiojikaaGreatDoor
open Go Go.Eng Go.Rl
attribute [local irreducible] wpList Code.wp bodyPost Exit.then Exit.inBlock Calls

/-- within a thing's search -/
def lw (p : Nat → Nat → Bool) (m s k q : Nat) (b : Bool) (x : Nat) : Nat := if x = q then (if b = true then k + 1 else 0) else lv p m s k q x

end Go.Proofs.YtifgncgiiojikaaGreatDoor
end

section
/- The walks: Round (both). -/
namespace Go.Rl
open Go.Eng
def bestP : Option (Nat × Nat) → Nat | none => 0 | some (_, l) => l
def fromP : Option (Nat × Nat) → Nat | none => 0 | some (f, _) => f
theorem best_step (p : Nat → Nat → Bool) (m q : Nat) : (0 < dd p m q ∧ (bestP (findR p m q) = 0 ∨ dd p m q < bestP (findR p m q)) → findR p m (q + 1) = some (q, dd p m q)) ∧ (¬ (0 < dd p m q ∧ (bestP (findR p m q) = 0 ∨ dd p m q < bestP (findR p m q))) → findR p m (q + 1) = findR p m q) := by
  rw [findR_succ]
  unfold fstep
  by_cases h0 : dd p m q = 0
  · rw [if_pos h0]
    exact ⟨fun h => by omega, fun _ => rfl⟩
  · rw [if_neg h0]
    cases hc : findR p m q with
    | none => exact ⟨fun _ => rfl, fun h => absurd ⟨by omega, .inl rfl⟩ h⟩
    | some fl =>
      obtain ⟨f, l⟩ := fl
      have := findR_some p m q f l hc
      simp only [bestP]
      by_cases h1 : dd p m q < l
      · rw [if_pos h1]
        exact ⟨fun _ => rfl, fun h => absurd ⟨by omega, .inr h1⟩ h⟩
      · rw [if_neg h1]
        exact ⟨fun h => by omega, fun _ => rfl⟩
theorem best_zero (p : Nat → Nat → Bool) (m : Nat) : bestP (findR p m m) = 0 ↔ findR p m m = none := by
  cases hc : findR p m m with
  | none => simp [bestP]
  | some fl =>
    obtain ⟨f, l⟩ := fl
    have := findR_some p m m f l hc
    simp [bestP]; omega
theorem nxt_first (p : Nat → Nat → Bool) (m f a lf j : Nat) (hf : f < j) (hj : j < m) (hp : p a j = true) (hd : dl p m f m j = lf) (hl : ∀ q, f < q → q < j → ¬ (p a q = true ∧ dl p m f m q = lf)) : nxt p m f a lf = some j := by
  unfold nxt
  rw [List.find?_range_eq_some]
  refine ⟨by simp [hf, hp, hd], by simpa using hj, fun q hq => ?_⟩
  by_cases hfq : f < q
  · have := hl q hfq hq
    simp only [Bool.not_eq_true', Bool.and_eq_false_iff, decide_eq_false_iff_not]
    by_cases h1 : p a q = true
    · exact .inr fun h2 => this ⟨h1, h2⟩
    · exact .inl (.inr (by simpa using h1))
  · simp [hfq]
theorem pathR_length (p : Nat → Nat → Bool) (m f lf a : Nat) : (pathR p m f lf a).length = lf := by
  induction lf generalizing a with
  | zero => rfl
  | succ lf ih => simp [pathR, ih]
end Go.Rl
namespace Go.Proofs.YtifgncgiiojikaaGreatDoor
open Go Go.Eng Go.Rl
attribute [local irreducible] wpList Code.wp bodyPost Exit.then Exit.inBlock Calls

def roundS (n : Int) (rows : List W) : List Int := if relOk n rows = true then ints (roundL (bt rows) n.toNat) else []
def roundE (n : Int) (rows : List W) : Int := if relOk n rows = true then (if findR (bt rows) n.toNat n.toNat = none then 4 else 0) else 10
def IntsΨ (xs : List Int) (e : Int) : Nat → Value → List Ent → World → Prop := fun _ v es _ => ∃ pv, SV pv ∧ v = .tuple #[pv, .int .i64 e] ∧ es = [ownI pv xs]

end Go.Proofs.YtifgncgiiojikaaGreatDoor
end
