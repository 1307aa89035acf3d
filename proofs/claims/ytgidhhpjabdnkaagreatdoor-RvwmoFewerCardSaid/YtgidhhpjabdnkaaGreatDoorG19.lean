import Derived.Test.YtgidhhpjabdnkaaGreatDoorG14
import Derived.Test.YtgidhhpjabdnkaaGreatDoorG02
import Derived.Test.YtgidhhpjabdnkaaGreatDoorG12
set_option linter.unusedSimpArgs false
set_option linter.unusedVariables false
section
/- Plain: rounds: in how many steps one comes to a thing by things above it. -/
namespace Go.Rl
open Go.Eng

/-- a step to what is n away -/
def stepB (p : Nat → Nat → Bool) (m s n : Nat) (f : Nat → Nat) (i : Nat) : Bool := if n = 0 then p i s else (List.range m).any fun j => decide (s < j) && p i j && decide (f j = n)
def dl (p : Nat → Nat → Bool) (m s : Nat) : Nat → Nat → Nat
  | 0 => fun _ => 0
  | n + 1 => fun i => if dl p m s n i ≠ 0 then dl p m s n i else if (decide (s ≤ i) && decide (i < m) && stepB p m s n (dl p m s n) i) = true then n + 1 else 0

section
variable {p : Nat → Nat → Bool} {m s : Nat}

theorem dl_succ (n i : Nat) : dl p m s (n + 1) i = if dl p m s n i ≠ 0 then dl p m s n i else if (decide (s ≤ i) && decide (i < m) && stepB p m s n (dl p m s n) i) = true then n + 1 else 0 := rfl

theorem stepB_iff (n : Nat) (f : Nat → Nat) (i : Nat) (hn : n ≠ 0) : stepB p m s n f i = true ↔ ∃ j, j < m ∧ s < j ∧ p i j = true ∧ f j = n := by
  unfold stepB
  rw [if_neg hn, List.any_eq_true]
  constructor
  · rintro ⟨j, hj, h⟩
    simp only [Bool.and_eq_true, decide_eq_true_eq] at h
    exact ⟨j, List.mem_range.1 hj, h.1.1, h.1.2, h.2⟩
  · rintro ⟨j, hj, h1, h2, h3⟩
    exact ⟨j, List.mem_range.2 hj, by simp [h1, h2, h3]⟩

theorem dl_le (n i : Nat) : dl p m s n i ≤ n := by
  induction n with
  | zero => simp [dl]
  | succ n ih =>
    rw [dl_succ]
    split
    · omega
    · split <;> omega

theorem dl_keep1 (n i : Nat) (h : dl p m s n i ≠ 0) : dl p m s (n + 1) i = dl p m s n i := by rw [dl_succ, if_pos h]
theorem dl_keep (n k i : Nat) (h : dl p m s n i ≠ 0) : dl p m s (n + k) i = dl p m s n i := by
  induction k with
  | zero => rfl
  | succ k ih =>
    rw [← Nat.add_assoc, dl_keep1 _ _ (by rw [ih]; exact h), ih]
theorem dl_new (n i : Nat) : dl p m s (n + 1) i = n + 1 ↔ dl p m s n i = 0 ∧ s ≤ i ∧ i < m ∧ stepB p m s n (dl p m s n) i = true := by
  have hle := dl_le (p := p) (m := m) (s := s) n i
  rw [dl_succ]
  by_cases h : dl p m s n i ≠ 0
  · rw [if_pos h]
    exact ⟨fun h' => by omega, fun h' => absurd h'.1 h⟩
  · rw [if_neg h]
    have h0 : dl p m s n i = 0 := by omega
    split
    · rename_i hc
      simp only [Bool.and_eq_true, decide_eq_true_eq] at hc
      exact ⟨fun _ => ⟨h0, hc.1.1, hc.1.2, hc.2⟩, fun _ => rfl⟩
    · rename_i hc
      refine ⟨fun h' => by omega, fun h' => absurd ?_ hc⟩
      simp [h'.2.1, h'.2.2.1, h'.2.2.2]
theorem dl_at (n i k : Nat) (hk : dl p m s n i = k) (h0 : k ≠ 0) : dl p m s k i = k := by
  induction n with
  | zero => simp [dl] at hk; omega
  | succ n ih =>
    by_cases h : dl p m s n i ≠ 0
    · rw [dl_keep1 n i h] at hk; exact ih hk
    · by_cases hk' : k = n + 1
      · subst hk'; exact hk
      · rw [dl_succ, if_neg h] at hk
        split at hk <;> omega
theorem dl_in (n i : Nat) (h : dl p m s n i ≠ 0) : s ≤ i ∧ i < m := by
  obtain ⟨k, hk⟩ : ∃ k, dl p m s n i = k + 1 := ⟨dl p m s n i - 1, by omega⟩
  have := dl_at n i (k + 1) hk (by omega)
  rw [dl_new] at this
  exact ⟨this.2.1, this.2.2.1⟩
theorem dl_one (n i : Nat) (hn : n ≠ 0) (h1 : s ≤ i) (h2 : i < m) (h : p i s = true) : dl p m s n i ≠ 0 := by
  have e : dl p m s 1 i = 1 := by rw [dl_new]; exact ⟨rfl, h1, h2, by simp [stepB, h]⟩
  obtain ⟨k, rfl⟩ : ∃ k, n = 1 + k := ⟨n - 1, by omega⟩
  rw [dl_keep 1 k i (by rw [e]; omega), e]; omega
/-- nobody is n away: nobody is further -/
theorem dl_stop (n : Nat) (hn : n ≠ 0) (h : ∀ i, dl p m s n i ≠ n) (k i : Nat) : dl p m s (n + k) i = dl p m s n i := by
  have key : ∀ k, (∀ i, dl p m s (n + k) i = dl p m s n i) ∧ ∀ i, dl p m s (n + k) i ≠ n + k := by
    intro k
    induction k with
    | zero => exact ⟨fun _ => rfl, h⟩
    | succ k ih =>
      have e : ∀ i, dl p m s (n + k + 1) i ≠ n + k + 1 := fun i hi => by
        rw [dl_new, stepB_iff _ _ _ (by omega)] at hi
        obtain ⟨_, _, _, j, _, _, _, hj⟩ := hi
        exact ih.2 j hj
      refine ⟨fun i => ?_, e⟩
      have := e i
      show dl p m s (n + k + 1) i = _
      by_cases h0 : dl p m s (n + k) i ≠ 0
      · rw [dl_keep1 _ _ h0, ih.1]
      · rw [dl_succ, if_neg h0] at this ⊢
        split at this
        · exact absurd rfl this
        · rename_i hc
          rw [if_neg hc, ← ih.1 i]; omega
  exact (key k).1 i

/-- what the program asks of a level -/
theorem dl_reach (n i : Nat) (h1 : s ≤ i) (h2 : i < m) (h0 : dl p m s n i = 0) : (∃ j, p i j = true ∧ (if n = 0 then j = s else dl p m s n j = n)) ↔ stepB p m s n (dl p m s n) i = true := by
  by_cases hn : n = 0
  · subst hn
    simp [stepB]
  · simp only [if_neg hn]
    rw [stepB_iff _ _ _ hn]
    constructor
    · rintro ⟨j, hp, hj⟩
      have h5 : dl p m s n j ≠ 0 := by omega
      obtain ⟨h3, h4⟩ := dl_in n j h5
      by_cases hjs : j = s
      · subst hjs
        exact absurd h0 (dl_one n i hn h1 h2 hp)
      · exact ⟨j, h4, by omega, hp, hj⟩
    · rintro ⟨j, h4, h3, hp, hj⟩
      exact ⟨j, hp, hj⟩

/-! within a level -/
def lv (p : Nat → Nat → Bool) (m s n q i : Nat) : Nat := if i < q then dl p m s (n + 1) i else dl p m s n i
theorem lv_start (n : Nat) : lv p m s n s = dl p m s n := by
  funext i
  unfold lv
  by_cases h : i < s
  · rw [if_pos h, dl_succ]
    by_cases h0 : dl p m s n i ≠ 0
    · rw [if_pos h0]
    · have hc : ¬ (decide (s ≤ i) && decide (i < m) && stepB p m s n (dl p m s n) i) = true := fun hc => by
        simp only [Bool.and_eq_true, decide_eq_true_eq] at hc; omega
      rw [if_neg h0, if_neg hc]; omega
  · rw [if_neg h]
theorem dl_out (n i : Nat) (h : ¬ i < m) : dl p m s n i = 0 := by
  by_cases h0 : dl p m s n i = 0
  · exact h0
  · exact absurd (dl_in n i h0).2 h
theorem lv_end (n : Nat) (q : Nat) (hq : m ≤ q) : lv p m s n q = dl p m s (n + 1) := by
  funext i
  unfold lv
  split
  · rfl
  · rw [dl_out _ _ (by omega), dl_out _ _ (by omega)]
theorem lv_skip (n q : Nat) (h : dl p m s (n + 1) q = dl p m s n q) : lv p m s n (q + 1) = lv p m s n q := by
  funext i
  unfold lv
  by_cases hi : i = q
  · subst hi; simp [h]
  · by_cases h1 : i < q
    · rw [if_pos h1, if_pos (by omega)]
    · rw [if_neg h1, if_neg (by omega)]
theorem lv_set (n q : Nat) (h : dl p m s (n + 1) q = n + 1) : lv p m s n (q + 1) = fun i => if i = q then n + 1 else lv p m s n q i := by
  funext i
  unfold lv
  by_cases hi : i = q
  · subst hi; simp [h]
  · rw [if_neg hi]
    by_cases h1 : i < q
    · rw [if_pos h1, if_pos (by omega)]
    · rw [if_neg h1, if_neg (by omega)]
theorem lv_at (n q : Nat) : lv p m s n q q = dl p m s n q := by unfold lv; simp
/-- whether one is n away is not turned within the level -/
theorem lv_eq (n q j : Nat) (hn : n ≠ 0) : lv p m s n q j = n ↔ dl p m s n j = n := by
  unfold lv
  split
  · constructor
    · intro h
      by_cases h0 : dl p m s n j ≠ 0
      · rw [dl_keep1 _ _ h0] at h; exact h
      · have := dl_at (n + 1) j n h hn; exact this
    · intro h
      rw [dl_keep1 _ _ (by omega)]; exact h
  · exact Iff.rfl
end

/-- numbers of things, as the program keeps them -/
def tab (m : Nat) (f : Nat → Nat) : List Int := (List.range m).map fun i => ((f i : Nat) : Int)
theorem tab_length (m : Nat) (f : Nat → Nat) : (tab m f).length = m := by simp [tab]
theorem tab_get (m : Nat) (f : Nat → Nat) (i : Nat) (hi : i < m) : (tab m f).getD i default = (f i : Int) := by
  unfold tab; rw [List.getD_eq_getElem?_getD, List.getElem?_map, List.getElem?_range hi]; rfl
theorem tab_set (m : Nat) (f : Nat → Nat) (i v : Nat) (hi : i < m) : (tab m f).set i (v : Int) = tab m fun j => if j = i then v else f j := by
  apply List.ext_getElem (by simp [tab])
  intro j h1 h2
  rw [List.getElem_set]
  simp only [tab, List.getElem_map, List.getElem_range]
  by_cases hj : i = j
  · subst hj; simp
  · rw [if_neg hj, if_neg (fun h => hj h.symm)]
theorem tab_zero (m : Nat) (p : Nat → Nat → Bool) (s : Nat) : List.replicate m (0 : Int) = tab m (dl p m s 0) := by
  apply List.ext_getElem (by simp [tab])
  intro j h1 h2
  simp [tab, dl]

/-! the least round -/
def dd (p : Nat → Nat → Bool) (m s : Nat) : Nat := dl p m s m s
def fstep (p : Nat → Nat → Bool) (m : Nat) (st : Option (Nat × Nat)) (s : Nat) : Option (Nat × Nat) :=
  if dd p m s = 0 then st else match st with
    | none => some (s, dd p m s)
    | some (f, l) => if dd p m s < l then some (s, dd p m s) else some (f, l)
def findR (p : Nat → Nat → Bool) (m n : Nat) : Option (Nat × Nat) := (List.range n).foldl (fstep p m) none
theorem findR_succ (p : Nat → Nat → Bool) (m n : Nat) : findR p m (n + 1) = fstep p m (findR p m n) n := by unfold findR; rw [List.range_succ, List.foldl_append]; rfl
theorem findR_some (p : Nat → Nat → Bool) (m n f l : Nat) (h : findR p m n = some (f, l)) : f < n ∧ l ≠ 0 ∧ dd p m f = l := by
  induction n with
  | zero => simp [findR] at h
  | succ n ih =>
    rw [findR_succ] at h
    unfold fstep at h
    by_cases h0 : dd p m n = 0
    · rw [if_pos h0] at h
      have := ih h; omega
    · rw [if_neg h0] at h
      cases hc : findR p m n with
      | none =>
        rw [hc] at h
        simp only [Option.some.injEq, Prod.mk.injEq] at h
        obtain ⟨rfl, rfl⟩ := h
        exact ⟨by omega, h0, rfl⟩
      | some fl =>
        obtain ⟨f', l'⟩ := fl
        rw [hc] at h
        simp only at h
        split at h
        · simp only [Option.some.injEq, Prod.mk.injEq] at h
          obtain ⟨rfl, rfl⟩ := h
          exact ⟨by omega, h0, rfl⟩
        · rw [hc] at ih
          have := ih h
          exact ⟨by omega, this.2⟩
theorem findR_none (p : Nat → Nat → Bool) (m n : Nat) : findR p m n = none ↔ ∀ s, s < n → dd p m s = 0 := by
  induction n with
  | zero => simp [findR]
  | succ n ih =>
    rw [findR_succ]
    unfold fstep
    by_cases h0 : dd p m n = 0
    · rw [if_pos h0, ih]
      constructor
      · intro h s hs
        by_cases hsn : s = n
        · subst hsn; exact h0
        · exact h s (by omega)
      · exact fun h s hs => h s (by omega)
    · rw [if_neg h0]
      constructor
      · intro h
        cases hc : findR p m n with
        | none => rw [hc] at h; cases h
        | some fl => rw [hc] at h; simp only at h; split at h <;> cases h
      · exact fun h => absurd (h n (by omega)) h0

/-- the next thing of the round -/
def nxt (p : Nat → Nat → Bool) (m f at' lf : Nat) : Option Nat := (List.range m).find? fun j => decide (f < j) && p at' j && decide (dl p m f m j = lf)
def pathR (p : Nat → Nat → Bool) (m f : Nat) : Nat → Nat → List Nat
  | 0, _ => []
  | lf + 1, a => ((nxt p m f a (lf + 1)).getD a) :: pathR p m f lf ((nxt p m f a (lf + 1)).getD a)
theorem nxt_some (p : Nat → Nat → Bool) (m f a lf : Nat) (h0 : lf ≠ 0) (h : dl p m f m a = lf + 1) : ∃ j, nxt p m f a lf = some j ∧ f < j ∧ j < m ∧ p a j = true ∧ dl p m f m j = lf := by
  have h1 := dl_at m a (lf + 1) h (by omega)
  rw [dl_new, stepB_iff _ _ _ h0] at h1
  obtain ⟨_, _, _, j, hj, hf, hp, hd⟩ := h1
  have hle := dl_le (p := p) (m := m) (s := f) m a
  have hd' : dl p m f m j = lf := by
    obtain ⟨k, rfl⟩ : ∃ k, m = lf + k := ⟨m - lf, by omega⟩
    rw [dl_keep _ _ _ (by omega), hd]
  cases hn : nxt p m f a lf with
  | none =>
    unfold nxt at hn
    rw [List.find?_eq_none] at hn
    have := hn j (List.mem_range.2 hj)
    simp [hf, hp, hd'] at this
  | some q =>
    unfold nxt at hn
    have h2 := List.find?_some hn
    have h3 := List.mem_of_find?_eq_some hn
    simp only [Bool.and_eq_true, decide_eq_true_eq] at h2
    exact ⟨q, rfl, h2.1.1, List.mem_range.1 h3, h2.1.2, h2.2⟩
def roundL (p : Nat → Nat → Bool) (m : Nat) : List Nat := match findR p m m with
  | none => []
  | some (f, l) => f :: pathR p m f (l - 1) f
end Go.Rl
end

section
/- The walks: away, far. -/
namespace Go.Rl
open Go.Eng
theorem and_ne (x y : W) : ¬ (x &&& y = 0#64) ↔ ∃ j, x.getLsbD j = true ∧ y.getLsbD j = true := by
  constructor
  · intro h
    apply Classical.byContradiction
    intro hn
    apply h
    refine BitVec.eq_of_getLsbD_eq fun j _ => ?_
    rw [BitVec.getLsbD_and, BitVec.getLsbD_zero]
    cases hx : x.getLsbD j
    · rfl
    · cases hy : y.getLsbD j
      · rfl
      · exact absurd ⟨j, hx, hy⟩ hn
  · rintro ⟨j, h1, h2⟩ h
    have := congrArg (fun z => z.getLsbD j) h
    simp [h1, h2] at this
theorem one_bit (s j : Nat) (hs : s < 64) : (1#64 <<< s).getLsbD j = decide (j = s) := by
  rw [BitVec.getLsbD_shiftLeft, BitVec.getLsbD_one]
  by_cases h : j = s
  · subst h; simp [hs]
  · simp [h]; omega
theorem zero_iff (x : W) : x = 0#64 ↔ ∀ j, x.getLsbD j = false := by
  constructor
  · rintro rfl j; exact BitVec.getLsbD_zero
  · intro h; exact BitVec.eq_of_getLsbD_eq fun j _ => by rw [h, BitVec.getLsbD_zero]
end Go.Rl
namespace Go.Proofs.YtgidhhpjabdnkaaGreatDoor
open Go Go.Eng Go.Rl
attribute [local irreducible] wpList Code.wp bodyPost Exit.then Exit.inBlock Calls

set_option maxHeartbeats 1600000 in
theorem away_spec (m s : Nat) (sv : Value) (rows : List W) (w : World) (h : Sl All w encW 1 sv rows) (ok : relOk m rows = true) (hs : s < m) :
    Mk Tryz.prog 94 [.agg #[.int .i64 m, sv], .int .i64 s] w fun _ v es _ => ∃ pv, SV pv ∧ v = pv ∧ es = [ownI pv (tab m (dl (bt rows) m s m))] := by
  obtain ⟨m', hm', h64, hlen⟩ := relOk_nat ok
  obtain rfl : m = m' := by omega
  refine enter_mk Tryz.func94 Tryz.ntmps94 rfl rfl ?_
  refine gO_ ?_
  refine wl_fx (fx_box (next := ?_)); intro ba
  refine gO_ ?_
  refine wl_fx (fx_make (next := ?_))
  intro ov hov
  refine gO_ ?_
  rw [ofInt_toNat s (by omega)]
  refine wc_loop (fun t : Nat × W => t.1 ≤ m ∧ ∀ j, t.2.getLsbD j = true ↔ (if t.1 = 0 then j = s else dl (bt rows) m s t.1 j = t.1)) (fun t => [(7, true, .int .i64 ((t.1 : Int) + 1)), (6, true, u64 t.2), (5, true, ov), (2, true, .pointer (some ⟨ba, 0, none⟩)), (1, true, .int .i64 s)])
    (fun t => Mem [(w, All)] [ownI ov (tab m (dl (bt rows) m s t.1)), .box ba [.int .i64 m, sv] 43]) (fun t => m - t.1) (0, 1#64 <<< s) ⟨Nat.zero_le _, fun j => by rw [one_bit s j (by omega)]; simp⟩ ⟨rfl, rfl, rfl, rfl, rfl, trivial⟩ (fun _ h => by dsimp only; rw [← tab_zero]; exact h.last rfl) ?_
  rintro ⟨k, rch⟩ ⟨hk, hr⟩
  dsimp only at hk hr ⊢
  refine gO_ ?_
  refine wc_cond_dec rfl (fun h1 => ?_) (fun h1 => ?_)
  · rw [← lv_start (p := bt rows) (m := m) (s := s) k]
    refine gO_ ?_
    refine wc_loop (fun t : Nat × W => s ≤ t.1 ∧ t.1 ≤ m ∧ ∀ j, t.2.getLsbD j = true ↔ (j < t.1 ∧ dl (bt rows) m s (k + 1) j = k + 1)) (fun t => [(9, true, .int .i64 t.1), (8, true, u64 t.2), (7, true, .int .i64 ((k : Int) + 1)), (6, true, u64 rch), (5, true, ov), (2, true, .pointer (some ⟨ba, 0, none⟩)), (1, true, .int .i64 s)])
      (fun t => Mem [(w, All)] [ownI ov (tab m (lv (bt rows) m s k t.1)), .box ba [.int .i64 m, sv] 43]) (fun t => m - t.1) (s, 0#64) ⟨Nat.le_refl _, by dsimp only; omega, fun j => by
        simp only [BitVec.getLsbD_zero, Bool.false_eq_true, false_iff]
        rintro ⟨h2, h3⟩; rw [dl_new] at h3; omega⟩ ⟨rfl, rfl, rfl, rfl, rfl, rfl, rfl, trivial⟩ (fun _ h => h.last rfl) ?_
    rintro ⟨q, more⟩ ⟨hsq, hq, hm⟩
    dsimp only at hsq hq hm ⊢
    refine gO_ ?_
    refine wc_cond_dec rfl (fun h2 => ?_) (fun h2 => ?_)
    · have hqm : q < m := by omega
      have hql : q < (tab m (lv (bt rows) m s k q)).length := by rw [tab_length]; omega
      have hqr : q < rows.length := by omega
      have hget : (tab m (lv (bt rows) m s k q)).getD q default = (dl (bt rows) m s k q : Int) := by rw [tab_get _ _ _ hqm, lv_at]
      have hnew : (dl (bt rows) m s k q = 0 ∧ ¬ (rows.getD q default &&& rch = 0#64)) ↔ dl (bt rows) m s (k + 1) q = k + 1 := by
        rw [dl_new, and_ne]
        constructor
        · rintro ⟨h3, j, h4, h5⟩
          exact ⟨h3, hsq, hqm, (dl_reach k q hsq hqm h3).1 ⟨j, h4, (hr j).1 h5⟩⟩
        · rintro ⟨h3, _, _, h4⟩
          obtain ⟨j, h5, h6⟩ := (dl_reach k q hsq hqm h3).2 h4
          exact ⟨h3, j, h5, (hr j).2 h6⟩
      refine gO_ ?_
      refine wc_cond rfl (fun h3 => ?_) (fun h3 => ?_)
      · rw [hget] at h3
        simp only [dc_eq, Bool.and_eq_true, decide_eq_true_eq, Bool.not_eq_true', decide_eq_false_iff_not] at h3
        have hn := hnew.1 ⟨by omega, h3.2⟩
        refine gO_ ?_
        refine wl_fx (fx_store_own (k := 0) (hk := rfl) (next := ?_))
        refine gO_ ?_
        rw [ofInt_toNat q (by omega)]
        refine po_loop (q + 1, more ||| 1#64 <<< q) ⟨by dsimp only; omega, by dsimp only; omega, fun j => ?_⟩ (by dsimp only; omega) ⟨rfl, rfl, rfl, rfl, rfl, rfl, rfl, trivial⟩ (fun _ h => ?_)
        · dsimp only
          rw [BitVec.getLsbD_or, one_bit q j (by omega), Bool.or_eq_true, hm, decide_eq_true_eq]
          constructor
          · rintro (⟨h4, h5⟩ | rfl)
            · exact ⟨by omega, h5⟩
            · exact ⟨by omega, hn⟩
          · rintro ⟨h4, h5⟩
            by_cases hjq : j = q
            · exact .inr hjq
            · exact .inl ⟨by omega, h5⟩
        · dsimp only
          rw [lv_set k q hn]
          have e := tab_set m (lv (bt rows) m s k q) q (k + 1) hqm
          rw [← e]; exact h.last rfl
      · have hn : dl (bt rows) m s (k + 1) q = dl (bt rows) m s k q := by
          by_cases h0 : dl (bt rows) m s k q ≠ 0
          · exact dl_keep1 _ _ h0
          · have h0 : dl (bt rows) m s k q = 0 := by omega
            have : ¬ dl (bt rows) m s (k + 1) q = k + 1 := fun hc => by
              have h4 := (hnew.2 hc).2
              rw [hget, h0] at h3
              simp [dc_eq] at h3
              exact h4 h3
            rw [dl_succ, if_neg (by omega)] at this ⊢
            split at this
            · exact absurd rfl this
            · rename_i hc; rw [if_neg hc, h0]
        refine gO_ ?_
        refine po_loop (q + 1, more) ⟨by dsimp only; omega, by dsimp only; omega, fun j => ?_⟩ (by dsimp only; omega) ⟨rfl, rfl, rfl, rfl, rfl, rfl, rfl, trivial⟩ (fun _ h => ?_)
        · dsimp only
          rw [hm]
          constructor
          · rintro ⟨h4, h5⟩; exact ⟨by omega, h5⟩
          · rintro ⟨h4, h5⟩
            refine ⟨?_, h5⟩
            by_cases hjq : j = q
            · subst hjq; have := dl_le (p := bt rows) (m := m) (s := s) k j; omega
            · omega
        · dsimp only
          rw [lv_skip k q hn]; exact h.last rfl
    · obtain rfl : q = m := by omega
      rw [lv_end k q (Nat.le_refl _)]
      refine gO_ ?_
      refine wc_cond_dec rfl (fun h4 => ?_) (fun h4 => ?_)
      · refine gO_ ?_
        refine mk_ret Tryz.results94 (.tmp rfl .nil) (.head _) [ownI ov _] [0] rfl (by decide) fun w' hw => ?_
        refine ⟨ov, hov, rfl, ?_⟩
        have hstop := dl_stop (p := bt rows) (m := q) (s := s) (k + 1) (by omega) (fun i hi => by
          have h5 := dl_in (p := bt rows) (m := q) (s := s) (k + 1) i (by omega)
          have := (hm i).2 ⟨h5.2, hi⟩
          rw [h4] at this; simp at this) (q - (k + 1))
        rw [show dl (bt rows) q s q = dl (bt rows) q s (k + 1) from funext fun i => by rw [← hstop i, show k + 1 + (q - (k + 1)) = q from by omega]]
      · refine gO_ ?_
        refine po_loop (k + 1, more) ⟨by dsimp only; omega, fun j => ?_⟩ (by dsimp only; omega) ⟨rfl, rfl, rfl, rfl, rfl, trivial⟩ (fun _ h => h.last rfl)
        dsimp only
        rw [hm, if_neg (by omega)]
        exact ⟨fun h5 => h5.2, fun h5 => ⟨(dl_in (p := bt rows) (m := q) (s := s) (k + 1) j (by omega)).2, h5⟩⟩
  · obtain rfl : k = m := by omega
    refine gO_ ?_
    exact mk_ret Tryz.results94 (.tmp rfl .nil) (.head _) [ownI ov _] [0] rfl (by decide) fun w' hw => ⟨ov, hov, rfl, rfl⟩
end Go.Proofs.YtgidhhpjabdnkaaGreatDoor
end

section
/- The walk of the reference's far. -/
namespace Go.Proofs.YtgidhhpjabdnkaaGreatDoor
open Go Go.Eng Go.Rl
attribute [local irreducible] wpList Code.wp bodyPost Exit.then Exit.inBlock Calls

/-- within a thing's search -/
def lw (p : Nat → Nat → Bool) (m s k q : Nat) (b : Bool) (x : Nat) : Nat := if x = q then (if b = true then k + 1 else 0) else lv p m s k q x

end Go.Proofs.YtgidhhpjabdnkaaGreatDoor
end

section
/- The walks: Round (both). -/
namespace Go.Rl
open Go.Eng
def bestP : Option (Nat × Nat) → Nat | none => 0 | some (_, l) => l
def fromP : Option (Nat × Nat) → Nat | none => 0 | some (f, _) => f
theorem best_step (p : Nat → Nat → Bool) (m q : Nat) : (0 < dd p m q ∧ (bestP (findR p m q) = 0 ∨ dd p m q < bestP (findR p m q)) → findR p m (q + 1) = some (q, dd p m q)) ∧ (¬ (0 < dd p m q ∧ (bestP (findR p m q) = 0 ∨ dd p m q < bestP (findR p m q))) → findR p m (q + 1) = findR p m q) := by
  rw [findR_succ]
  unfold fstep
  by_cases h0 : dd p m q = 0
  · rw [if_pos h0]
    exact ⟨fun h => by omega, fun _ => rfl⟩
  · rw [if_neg h0]
    cases hc : findR p m q with
    | none => exact ⟨fun _ => rfl, fun h => absurd ⟨by omega, .inl rfl⟩ h⟩
    | some fl =>
      obtain ⟨f, l⟩ := fl
      have := findR_some p m q f l hc
      simp only [bestP]
      by_cases h1 : dd p m q < l
      · rw [if_pos h1]
        exact ⟨fun _ => rfl, fun h => absurd ⟨by omega, .inr h1⟩ h⟩
      · rw [if_neg h1]
        exact ⟨fun h => by omega, fun _ => rfl⟩
theorem best_zero (p : Nat → Nat → Bool) (m : Nat) : bestP (findR p m m) = 0 ↔ findR p m m = none := by
  cases hc : findR p m m with
  | none => simp [bestP]
  | some fl =>
    obtain ⟨f, l⟩ := fl
    have := findR_some p m m f l hc
    simp [bestP]; omega
theorem nxt_first (p : Nat → Nat → Bool) (m f a lf j : Nat) (hf : f < j) (hj : j < m) (hp : p a j = true) (hd : dl p m f m j = lf) (hl : ∀ q, f < q → q < j → ¬ (p a q = true ∧ dl p m f m q = lf)) : nxt p m f a lf = some j := by
  unfold nxt
  rw [List.find?_range_eq_some]
  refine ⟨by simp [hf, hp, hd], by simpa using hj, fun q hq => ?_⟩
  by_cases hfq : f < q
  · have := hl q hfq hq
    simp only [Bool.not_eq_true', Bool.and_eq_false_iff, decide_eq_false_iff_not]
    by_cases h1 : p a q = true
    · exact .inr fun h2 => this ⟨h1, h2⟩
    · exact .inl (.inr (by simpa using h1))
  · simp [hfq]
theorem pathR_length (p : Nat → Nat → Bool) (m f lf a : Nat) : (pathR p m f lf a).length = lf := by
  induction lf generalizing a with
  | zero => rfl
  | succ lf ih => simp [pathR, ih]
end Go.Rl
namespace Go.Proofs.YtgidhhpjabdnkaaGreatDoor
open Go Go.Eng Go.Rl
attribute [local irreducible] wpList Code.wp bodyPost Exit.then Exit.inBlock Calls

def roundS (n : Int) (rows : List W) : List Int := if relOk n rows = true then ints (roundL (bt rows) n.toNat) else []
def roundE (n : Int) (rows : List W) : Int := if relOk n rows = true then (if findR (bt rows) n.toNat n.toNat = none then 4 else 0) else 10
def IntsΨ (xs : List Int) (e : Int) : Nat → Value → List Ent → World → Prop := fun _ v es _ => ∃ pv, SV pv ∧ v = .tuple #[pv, .int .i64 e] ∧ es = [ownI pv xs]

set_option maxHeartbeats 3200000 in
theorem round_all (n : Int) (sv : Value) (rows : List W) (w : World) (h : Sl All w encW 1 sv rows) :
    Mk Tryz.prog 63 [.agg #[.int .i64 n, sv]] w (IntsΨ (roundS n rows) (roundE n rows)) := by
  unfold roundS roundE
  refine enter_mk Tryz.func63 Tryz.ntmps63 rfl rfl ?_
  refine gO_ ?_
  refine wl_fx (fx_box (next := ?_)); intro ba
  refine gO_ ?_
  refine wl_fx (fx_call (spec := fun w' hw => check_spec n sv rows w' (hw.now h (.head _))) (next := ?_))
  rintro v n1 w1 rfl hn1
  by_cases hok : relOk n rows = true
  · simp only [if_pos hok]
    obtain ⟨m, rfl, hm64, hlen⟩ := relOk_nat hok
    rw [Int.toNat_natCast]
    let p := bt rows
    refine gO_ ?_
    refine wc_cond rfl (fun h1 => by simp [dc_eq] at h1) (fun _ => ?_)
    refine gO_ ?_
    refine wc_loop (fun s : Nat × Nat × Nat => s.1 ≤ m ∧ s.2.1 = fromP (findR p m s.1) ∧ s.2.2 = bestP (findR p m s.1)) (fun s => [(21, true, .int .i64 s.1), (20, true, .int .i64 m), (6, true, .int .i64 s.2.1), (5, true, .int .i64 s.2.2), (1, true, .pointer (some ⟨ba, 0, none⟩))])
      (fun s => Mem [(w, All)] [.box ba [.int .i64 m, sv] 43]) (fun s => m - s.1) (0, 0, 0) ⟨Nat.zero_le _, rfl, rfl⟩ ⟨rfl, rfl, rfl, rfl, rfl, trivial⟩ (fun _ h => h.last rfl) ?_
    rintro ⟨q, fr, be⟩ ⟨hq, hfr, hbe⟩
    dsimp only at hq hfr hbe ⊢
    refine gO_ ?_
    refine wc_cond_dec rfl (fun h2 => ?_) (fun h2 => ?_)
    · have hqm : q < m := by omega
      refine gO_ ?_
      refine wl_fx (fx_call_mk (spec := fun w' hw => away_spec m q sv rows w' (hw.now h (.head _)) hok hqm) (next := ?_))
      rintro v n2 es w2 ⟨pv, hpv, rfl, rfl⟩
      have hql : q < (tab m (dl (bt rows) m q m)).length := by rw [tab_length]; exact hqm
      have hget : (tab m (dl (bt rows) m q m)).getD q default = ((dd p m q : Nat) : Int) := tab_get _ _ _ hqm
      have hst := best_step p m q
      refine gO_ ?_
      rw [hget]
      refine wc_cond rfl (fun h3 => ?_) (fun h3 => ?_)
      · simp only [dc_eq, Bool.and_eq_true, Bool.or_eq_true, decide_eq_true_eq] at h3
        have hn := hst.1 (by rw [← hbe]; omega)
        refine gO_ ?_
        exact po_loop (q + 1, q, dd p m q) ⟨by dsimp only; omega, by dsimp only; rw [hn]; rfl, by dsimp only; rw [hn]; rfl⟩ (by dsimp only; omega) ⟨rfl, rfl, rfl, rfl, rfl, trivial⟩ (fun _ h => (h.last rfl).sel [1] rfl (by decide))
      · have hn := hst.2 (fun hc => by
          rw [← hbe] at hc
          simp only [dc_eq, Bool.and_eq_false_iff, Bool.or_eq_false_iff, decide_eq_false_iff_not] at h3
          omega)
        refine gO_ ?_
        exact po_loop (q + 1, fr, be) ⟨by dsimp only; omega, by dsimp only; rw [hn, hfr], by dsimp only; rw [hn, hbe]⟩ (by dsimp only; omega) ⟨rfl, rfl, rfl, rfl, rfl, trivial⟩ (fun _ h => (h.last rfl).sel [1] rfl (by decide))
    · obtain rfl : q = m := by omega
      refine gO_ ?_
      refine wc_cond_dec rfl (fun h4 => ?_) (fun h4 => ?_)
      · have hno := (best_zero p q).1 (by rw [← hbe]; omega)
        refine gO_ ?_
        refine kp_nil 3 1 encI ?_
        refine mk_ret Tryz.results63 (.tmp rfl (.tmp rfl .nil)) (.head _) [_] [0] rfl (by decide) fun w' hw => ?_
        rw [if_pos hno]
        refine ⟨_, sv_nil, rfl, ?_⟩
        unfold roundL; rw [hno]; rfl
      · obtain ⟨f, l, hR⟩ : ∃ f l, findR p q q = some (f, l) := by
          cases hc : findR p q q with
          | none => rw [hc] at hbe; exact absurd (show (be : Int) = 0 by rw [hbe]; rfl) h4
          | some fl => exact ⟨fl.1, fl.2, rfl⟩
        obtain ⟨hfm, hl0, hdd⟩ := findR_some p q q f l hR
        have hlm : l ≤ q := by rw [← hdd]; exact dl_le q f
        rw [hR] at hfr hbe
        simp only [fromP, bestP] at hfr hbe
        subst hfr hbe
        refine gO_ ?_
        refine wl_fx (fx_call_mk (spec := fun w' hw => away_spec q fr sv rows w' (hw.now h (.head _)) hok hfm) (next := ?_))
        rintro fv n3 es w3 ⟨_, hfv, rfl, rfl⟩
        refine gO_ ?_
        refine wl_fx (fx_lit (next := ?_))
        intro v50 hv50
        refine gO_ ?_
        refine wc_loop (fun s : Nat × Nat × Value × List Int => SV s.2.2.1 ∧ dl p q fr q s.2.1 = s.1 + 1 ∧ s.2.1 < q ∧ s.2.2.2.length + s.1 = be ∧ s.2.2.2 ++ ints (pathR p q fr s.1 s.2.1) = ints (roundL p q)) (fun s => [(12, true, .int .i64 s.1), (11, true, .int .i64 s.2.1), (10, true, s.2.2.1), (9, true, fv), (6, true, .int .i64 fr), (1, true, .pointer (some ⟨ba, 0, none⟩))])
          (fun s => Mem [(w, All)] [ownI s.2.2.1 s.2.2.2, ownI fv (tab q (dl (bt rows) q fr q)), .box ba [.int .i64 q, sv] 43]) (fun s => s.1) (be - 1, fr, v50, [(fr : Int)])
          ⟨hv50, by dsimp only; show dl p q fr q fr = _; unfold dd at hdd; omega, hfm, by simp; omega, by simp only [roundL, hR]; rfl⟩ ⟨by show _ = some (true, Value.int .i64 ((be - 1 : Nat) : Int)); rw [show ((be - 1 : Nat) : Int) = (be : Int) - 1 from by omega]; rfl, rfl, rfl, rfl, rfl, rfl, trivial⟩ (fun _ h => h.last rfl) ?_
        rintro ⟨lf, a, ov, xs⟩ ⟨hov, hda, ham, hxl, hxs⟩
        dsimp only at hov hda ham hxl hxs ⊢
        refine gO_ ?_
        refine wc_cond_dec rfl (fun h5 => ?_) (fun h5 => ?_)
        · obtain ⟨lf, rfl⟩ : ∃ z, lf = z + 1 := ⟨lf - 1, by omega⟩
          obtain ⟨nj, hnx, hfn, hnm, hpn, hdn⟩ := nxt_some p q fr a (lf + 1) (by omega) hda
          have har : a < rows.length := by omega
          refine gO_ ?_
          refine wc_loop (fun s : Nat => fr < s ∧ s ≤ nj ∧ ∀ z, fr < z → z < s → ¬ (p a z = true ∧ dl p q fr q z = lf + 1)) (fun s => [(13, true, .int .i64 s), (12, true, .int .i64 ((lf + 1 : Nat) : Int)), (11, true, .int .i64 a), (10, true, ov), (9, true, fv), (6, true, .int .i64 fr), (1, true, .pointer (some ⟨ba, 0, none⟩))])
            (fun s => Mem [(w, All)] [ownI ov xs, ownI fv (tab q (dl (bt rows) q fr q)), .box ba [.int .i64 q, sv] 43]) (fun s => q - s) (fr + 1) ⟨by omega, by omega, fun z h6 h7 => by omega⟩ ⟨rfl, rfl, rfl, rfl, rfl, rfl, rfl, trivial⟩ (fun _ h => h.last rfl) ?_
          rintro j ⟨hfj, hjn, hall⟩
          have hjm : j < q := by omega
          have hjl : j < (tab q (dl (bt rows) q fr q)).length := by rw [tab_length]; exact hjm
          have hjg : (tab q (dl (bt rows) q fr q)).getD j default = ((dl p q fr q j : Nat) : Int) := tab_get _ _ _ hjm
          refine gO_ ?_
          refine wc_cond_dec rfl (fun h6 => ?_) (fun h6 => absurd (by omega) h6)
          refine gO_ ?_
          refine wc_cond rfl (fun h7 => ?_) (fun h7 => ?_)
          · rw [dc_eq, bit_eq _ j (by omega), hjg] at h7
            simp only [dc_eq, Bool.and_eq_true, decide_eq_true_eq] at h7
            have hd : dl p q fr q j = lf + 1 := by omega
            have hx := nxt_first p q fr a (lf + 1) j hfj hjm h7.1 hd hall
            refine gO_ ?_
            refine wl_fx (fx_lit (next := ?_))
            intro v87 hv87
            refine gO_ ?_
            refine wl_fx (fx_append_own (k := 1) (hk := rfl) (hlen := by simp; omega) (next := ?_))
            intro v88 hv88
            refine gO_ ?_
            refine po_loop (lf, j, v88, xs ++ [(j : Int)]) ⟨hv88, hd, hjm, by simp; omega, ?_⟩ (by dsimp only; omega) ⟨by show _ = some (true, Value.int .i64 (lf : Int)); rw [show (lf : Int) = ((lf + 1 : Nat) : Int) - 1 from by omega]; rfl, rfl, rfl, rfl, rfl, rfl, trivial⟩ (fun _ h => (h.last rfl).sel [1, 2, 3] rfl (by decide))
            rw [← hxs]
            simp only [pathR, hx, ints, Option.getD_some, List.map_cons, List.append_assoc, List.singleton_append]
          · rw [dc_eq, bit_eq _ j (by omega), hjg] at h7
            simp only [dc_eq, Bool.and_eq_false_iff, decide_eq_false_iff_not] at h7
            have hno : ¬ (p a j = true ∧ dl p q fr q j = lf + 1) := by
              rintro ⟨h8, h9⟩
              rcases h7 with h7 | h7
              · have h8' : (rows.getD a default).getLsbD j = true := h8
                rw [h7] at h8'; cases h8'
              · omega
            refine gO_ ?_
            refine po_loop (j + 1) ⟨by omega, ?_, fun z h8 h9 => ?_⟩ (by omega) ⟨rfl, rfl, rfl, rfl, rfl, rfl, rfl, trivial⟩ (fun _ h => h.last rfl)
            · by_cases hjj : j = nj
              · subst hjj; exact absurd ⟨hpn, hdn⟩ hno
              · omega
            · by_cases hzj : z = j
              · subst hzj; exact hno
              · exact hall z h8 (by omega)
        · refine gO_ ?_
          refine mk_ret Tryz.results63 (.tmp rfl (.tmp rfl .nil)) (.head _) [ownI ov xs] [0] rfl (by decide) fun w' hw => ?_
          rw [if_neg (by rw [hR]; simp)]
          obtain rfl : lf = 0 := by omega
          refine ⟨ov, hov, rfl, ?_⟩
          rw [← hxs]; simp [pathR, ints]
  · simp only [if_neg hok]
    refine gO_ ?_
    refine wc_cond rfl (fun _ => ?_) (fun h1 => by simp [dc_eq] at h1)
    refine gO_ ?_
    refine kp_nil 3 1 encI ?_
    refine mk_ret Tryz.results63 (.tmp rfl (.tmp rfl .nil)) (.tail _ (.head _)) [_] [0] rfl (by decide) fun w' hw => ?_
    exact ⟨_, sv_nil, rfl, rfl⟩
end Go.Proofs.YtgidhhpjabdnkaaGreatDoor
end
