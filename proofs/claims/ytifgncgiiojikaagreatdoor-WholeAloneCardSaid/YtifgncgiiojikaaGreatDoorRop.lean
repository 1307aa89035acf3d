/- Plain: there is a round just if something comes to itself; what the least round is made of. -/
import Derived.Test.YtifgncgiiojikaaGreatDoorG19
import Derived.Test.YtifgncgiiojikaaGreatDoorG20
set_option linter.unusedSimpArgs false
set_option linter.unusedVariables false
namespace Go.Rl
open Go.Eng

theorem Rch.headInd {p : Nat → Nat → Bool} {a c : Nat} (h : Rch p a c) : ∀ (M : Nat → Prop), (∀ x, p x c = true → M x) → (∀ x y, p x y = true → M y → M x) → M a := by
  induction h with
  | one h1 => exact fun M h2 _ => h2 _ h1
  | more _ hbc ih => exact fun M h2 h3 => ih M (fun x hx => h3 x _ hx (h2 _ hbc)) h3

section
variable {p : Nat → Nat → Bool} {m s : Nat}

theorem dl_rch (n i : Nat) (h : dl p m s n i ≠ 0) : Rch p i s := by
  induction n generalizing i with
  | zero => simp [dl] at h
  | succ n ih =>
    by_cases h0 : dl p m s n i ≠ 0
    · exact ih i h0
    · rw [dl_succ, if_neg h0] at h
      split at h
      · rename_i hc
        simp only [Bool.and_eq_true, decide_eq_true_eq] at hc
        by_cases hn : n = 0
        · subst hn; exact .one (by simpa [stepB] using hc.2)
        · obtain ⟨j, _, _, hp, hd⟩ := (stepB_iff _ _ _ hn).1 hc.2
          exact (Rch.one hp).trans (ih j (by omega))
      · exact absurd rfl h

/-- only things from s on -/
def from_ (p : Nat → Nat → Bool) (s a b : Nat) : Bool := p a b && (decide (s ≤ a) && decide (s ≤ b))
theorem from_iff (a b : Nat) : from_ p s a b = true ↔ p a b = true ∧ s ≤ a ∧ s ≤ b := by simp [from_]

theorem dl_far (hp : ∀ a b, p a b = true → a < m ∧ b < m) {a : Nat} (h : Rch (from_ p s) a s) : ∃ n, n ≠ 0 ∧ dl p m s n a ≠ 0 := by
  have base : ∀ x, p x s = true → s ≤ x → ∃ n, n ≠ 0 ∧ dl p m s n x ≠ 0 := fun x hx hs => ⟨1, by omega, dl_one 1 x (by omega) hs (hp _ _ hx).1 hx⟩
  refine h.headInd (fun x => ∃ n, n ≠ 0 ∧ dl p m s n x ≠ 0) (fun x hx => ?_) (fun x y hx hy => ?_)
  · rw [from_iff] at hx; exact base x hx.1 hx.2.1
  · rw [from_iff] at hx
    obtain ⟨hx, h1, h2⟩ := hx
    by_cases hys : y = s
    · subst hys; exact base x hx h1
    · obtain ⟨n, _, hn⟩ := hy
      have hk := dl_at n y _ rfl hn
      refine ⟨dl p m s n y + 1, by omega, ?_⟩
      by_cases h0 : dl p m s (dl p m s n y) x = 0
      · have : dl p m s (dl p m s n y + 1) x = dl p m s n y + 1 := by
          rw [dl_new]
          exact ⟨h0, h1, (hp _ _ hx).1, (stepB_iff _ _ _ hn).2 ⟨y, (hp _ _ hx).2, by omega, hx, hk⟩⟩
        omega
      · rw [dl_keep1 _ _ h0]; exact h0

theorem dl_below (n k : Nat) : ∀ x, dl p m s n x = k + 1 → ∀ j, j ≠ 0 → j ≤ k + 1 → ∃ y, dl p m s n y = j := by
  induction k with
  | zero => exact fun x hx j h1 h2 => ⟨x, by omega⟩
  | succ k ih =>
    intro x hx j h1 h2
    by_cases hj : j = k + 1 + 1
    · exact ⟨x, by omega⟩
    · have h3 := dl_at n x _ hx (by omega)
      rw [dl_new, stepB_iff _ _ _ (by omega)] at h3
      obtain ⟨_, _, _, y, _, _, _, hy⟩ := h3
      have hle := dl_le (p := p) (m := m) (s := s) n x
      obtain ⟨z, hz⟩ : ∃ z, n = k + 1 + z := ⟨n - (k + 1), by omega⟩
      have h4 : dl p m s n y = k + 1 := by rw [hz, dl_keep _ _ _ (by omega), hy]
      exact ih y h4 j h1 (by omega)

theorem dl_m (n i : Nat) (h : dl p m s n i ≠ 0) : dl p m s m i ≠ 0 := by
  have hk := dl_at n i _ rfl h
  by_cases hm : dl p m s n i ≤ m
  · obtain ⟨z, hz⟩ : ∃ z, m = dl p m s n i + z := ⟨m - dl p m s n i, by omega⟩
    have := dl_keep (p := p) (m := m) (s := s) (dl p m s n i) z i (by rw [hk]; exact h)
    rw [hk, ← hz] at this
    rw [this]; exact h
  · exfalso
    have hcount : ∀ j, j ≤ dl p m s n i → j ≤ (List.range m).countP fun x => decide (dl p m s n x ≠ 0) && decide (dl p m s n x ≤ j) := by
      intro j
      induction j with
      | zero => exact fun _ => Nat.zero_le _
      | succ j ih =>
        intro hj
        obtain ⟨z, hz⟩ : ∃ z, dl p m s n i = z + 1 := ⟨dl p m s n i - 1, by omega⟩
        obtain ⟨y, hy⟩ := dl_below n z i hz (j + 1) (by omega) (by omega)
        have hym := (dl_in (p := p) (m := m) (s := s) n y (by omega)).2
        refine Nat.lt_of_le_of_lt (ih (by omega)) (countP_lt (fun x _ hx => ?_) ⟨y, List.mem_range.2 hym, ?_, ?_⟩)
        · simp only [Bool.and_eq_true, decide_eq_true_eq] at hx ⊢; omega
        · simp [hy]
        · simp [hy]
    have := hcount (m + 1) (by omega)
    have h2 := List.countP_le_length (p := fun x => decide (dl p m s n x ≠ 0) && decide (dl p m s n x ≤ m + 1)) (l := List.range m)
    rw [List.length_range] at h2
    omega

theorem from_split {i j : Nat} (h : Rch (from_ p s) i j) : s < i → s < j → Rch (from_ p (s + 1)) i j ∨ (Rch (from_ p s) i s ∧ Rch (from_ p s) s j) := by
  induction h with
  | one h1 =>
    intro hi hj
    rw [from_iff] at h1
    exact .inl (.one (by rw [from_iff]; exact ⟨h1.1, hi, hj⟩))
  | more h1 h2 ih =>
    rename_i b c
    intro hi hj
    have h2' := h2
    rw [from_iff] at h2'
    by_cases hb : b = s
    · subst hb; exact .inr ⟨h1, .one h2⟩
    · rcases ih hi (by omega) with h3 | ⟨h3, h4⟩
      · exact .inl (.more h3 (by rw [from_iff]; exact ⟨h2'.1, by omega, hj⟩))
      · exact .inr ⟨h3, .more h4 h2⟩

theorem from_round (hp : ∀ a b, p a b = true → a < m ∧ b < m) : ∀ (k s : Nat), m ≤ s + k → (∃ i, Rch (from_ p s) i i) → ∃ s', s' < m ∧ Rch (from_ p s') s' s'
  | 0, s, hk, ⟨i, hi⟩ => by
    exfalso
    cases hi with
    | one h1 => rw [from_iff] at h1; have := hp _ _ h1.1; omega
    | more _ h1 => rw [from_iff] at h1; have := hp _ _ h1.1; omega
  | k + 1, s, hk, ⟨i, hi⟩ => by
    have hss : Rch (from_ p s) s s → ∃ s', s' < m ∧ Rch (from_ p s') s' s' := fun h => by
      refine ⟨s, ?_, h⟩
      cases h with
      | one h1 => rw [from_iff] at h1; exact (hp _ _ h1.1).2
      | more _ h1 => rw [from_iff] at h1; exact (hp _ _ h1.1).2
    have hsi : s ≤ i := by
      cases hi with
      | one h1 => rw [from_iff] at h1; omega
      | more _ h1 => rw [from_iff] at h1; omega
    by_cases his : i = s
    · subst his; exact hss hi
    · rcases from_split hi (by omega) (by omega) with h1 | ⟨h1, h2⟩
      · exact from_round hp k (s + 1) (by omega) ⟨i, h1⟩
      · exact hss (h2.trans h1)
end

theorem findR_turns {m : Nat} {rows : List W} (ok : relOk m rows = true) : findR (bt rows) m m = none ↔ turnsL m rows = false := by
  rw [findR_none]
  constructor
  · intro h
    rw [Bool.eq_false_iff]
    intro ht
    obtain ⟨i, hi, hr⟩ := (turnsL_iff ok).1 ht
    obtain ⟨s, hs, hrs⟩ := from_round (bt_lt ok) m 0 (by omega) ⟨i, hr.mono fun a b h => by rw [from_iff]; exact ⟨h, Nat.zero_le _, Nat.zero_le _⟩⟩
    obtain ⟨n, _, hn⟩ := dl_far (bt_lt ok) hrs
    exact dl_m n s hn (h s hs)
  · intro h s hs
    apply Classical.byContradiction
    intro hd
    have := (turnsL_iff ok).2 ⟨s, hs, dl_rch m s hd⟩
    rw [h] at this; cases this

section
variable {p : Nat → Nat → Bool} {m f : Nat}
/-- the steps of the path -/
theorem pathR_get : ∀ (lf a : Nat), a < m → dl p m f m a = lf + 1 → ∀ (i t : Nat), (pathR p m f lf a)[i]? = some t → f < t ∧ t < m ∧ dl p m f m t = lf - i ∧ (∀ u, (a :: pathR p m f lf a)[i]? = some u → p u t = true)
  | 0, a, _, _, i, t, h => by simp [pathR] at h
  | lf + 1, a, ha, hd, i, t, h => by
    obtain ⟨j, hj, h1, h2, h3, h4⟩ := nxt_some p m f a (lf + 1) (by omega) hd
    simp only [pathR, hj, Option.getD_some] at h ⊢
    cases i with
    | zero =>
      simp only [List.getElem?_cons_zero, Option.some.injEq] at h
      subst h
      exact ⟨h1, h2, by omega, fun u hu => by simp only [List.getElem?_cons_zero, Option.some.injEq] at hu; subst hu; exact h3⟩
    | succ i =>
      rw [List.getElem?_cons_succ] at h
      have := pathR_get lf j h2 h4 i t h
      exact ⟨this.1, this.2.1, by omega, fun u hu => this.2.2.2 u (by rw [List.getElem?_cons_succ] at hu; exact hu)⟩

structure IsRound (p : Nat → Nat → Bool) (m : Nat) (ts : List Nat) : Prop where
  pos : 0 < ts.length
  lt : ∀ (i t : Nat), ts[i]? = some t → t < m
  least : ∀ (i t u : Nat), ts[i]? = some t → ts[0]? = some u → u ≤ t
  step : ∀ (i t u : Nat), ts[i]? = some t → ts[(i + 1) % ts.length]? = some u → p t u = true
  inj : ∀ (i k t : Nat), ts[i]? = some t → ts[k]? = some t → i = k

theorem round_is {l : Nat} (h : findR p m m = some (f, l)) : IsRound p m (roundL p m) := by
  obtain ⟨hf, hl, hd⟩ := findR_some p m m f l h
  have hlen : (roundL p m).length = l := by unfold roundL; rw [h]; simp [pathR_length]; omega
  have hr : roundL p m = f :: pathR p m f (l - 1) f := by unfold roundL; rw [h]
  have hd' : dl p m f m f = l - 1 + 1 := by unfold dd at hd; omega
  have hg := pathR_get (p := p) (m := m) (f := f) (l - 1) f hf hd'
  have hdl : ∀ (i t : Nat), (roundL p m)[i]? = some t → dl p m f m t = l - i := fun i t hi => by
    rw [hr] at hi
    cases i with
    | zero => simp only [List.getElem?_cons_zero, Option.some.injEq] at hi; subst hi; omega
    | succ i => rw [List.getElem?_cons_succ] at hi; have := hg i t hi; omega
  have hil : ∀ (i t : Nat), (roundL p m)[i]? = some t → i < l := fun i t hi => by
    have := (List.getElem?_eq_some_iff.1 hi).1; omega
  refine ⟨by omega, fun i t hi => ?_, fun i t u hi hu => ?_, fun i t u hi hu => ?_, fun i k t hi hk => ?_⟩
  · rw [hr] at hi
    cases i with
    | zero => simp only [List.getElem?_cons_zero, Option.some.injEq] at hi; subst hi; exact hf
    | succ i => rw [List.getElem?_cons_succ] at hi; exact (hg i t hi).2.1
  · rw [hr] at hi hu
    simp only [List.getElem?_cons_zero, Option.some.injEq] at hu
    subst hu
    cases i with
    | zero => simp only [List.getElem?_cons_zero, Option.some.injEq] at hi; subst hi; exact Nat.le_refl _
    | succ i => rw [List.getElem?_cons_succ] at hi; exact Nat.le_of_lt (hg i t hi).1
  · have hi' := hil i t hi
    rw [hlen] at hu
    by_cases hlast : i + 1 = l
    · rw [hlast, Nat.mod_self, hr] at hu
      simp only [List.getElem?_cons_zero, Option.some.injEq] at hu
      subst hu
      have h1 := hdl i t hi
      have h2 := dl_at m t 1 (show dl p m f m t = 1 by omega) (by omega)
      rw [dl_new] at h2
      simpa [stepB] using h2.2.2.2
    · rw [Nat.mod_eq_of_lt (by omega), hr, List.getElem?_cons_succ] at hu
      exact (hg i u hu).2.2.2 t (by rw [hr] at hi; exact hi)
  · have h1 := hdl i t hi
    have h2 := hdl k t hk
    have h3 := hil i t hi
    have h4 := hil k t hk
    omega
end
end Go.Rl
