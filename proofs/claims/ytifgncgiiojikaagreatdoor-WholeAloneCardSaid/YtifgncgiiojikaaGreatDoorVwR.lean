/- From-reads are reads turned, then the order of writes, and the first values ahead of all; the order is total: plain. -/
import Derived.Test.YtifgncgiiojikaaGreatDoorVwP
set_option linter.unusedSimpArgs false
set_option linter.unusedVariables false
set_option linter.unusedSectionVars false
namespace Go.Proofs.YtifgncgiiojikaaGreatDoor
open Go Go.Eng Go.Tc Go.Rl Go.Vw
def firstB (t : Tr) (c : Cd) (i j : Nat) : Bool := ((decide ((evi t i).dir = 1) && decide ((evi t j).dir = 2)) && decide ((evi t i).loc = (evi t j).loc)) && decide (c.rf.getD i default = -1)
def bothB (t : Tr) (i j : Nat) : Bool := ((!decide (i = j) && decide ((evi t i).dir = 2)) && decide ((evi t j).dir = 2)) && decide ((evi t i).loc = (evi t j).loc)
theorem ix_of {l : List Int} {x y : Int} (hx : 0 ≤ ixI l x) (h : ixI l x = ixI l y) : x = y := by
  rw [← ixI_get hx, h, ixI_get (by omega)]
section
variable {t : Tr} {c : Cd} (h : cdE t c = 0)
include h
theorem in_col {i j : Nat} (hi : i < t.evs.length) (hj : j < t.evs.length) : 0 ≤ ixI (col t c i) (j : Int) ↔ ((evi t j).dir = 2 ∧ (evi t j).loc = (evi t i).loc) := by
  obtain ⟨ht, hc⟩ := cdE_ok h
  obtain ⟨k, hk, hkl⟩ := loc_nat ht hi
  rw [ixI_nonneg, col_eq hk, co_mem hc hkl, hk]
  constructor
  · rintro ⟨j', _, e, h1, h2⟩
    obtain rfl : j = j' := by omega
    exact ⟨h1, h2⟩
  · rintro ⟨h1, h2⟩; exact ⟨j, hj, rfl, h1, h2⟩
theorem col_same {i j : Nat} (e : (evi t i).loc = (evi t j).loc) : col t c i = col t c j := by unfold col; rw [e]
theorem fr_turned {i j : Nat} (hi : i < t.evs.length) (hj : j < t.evs.length) : frP t c i j = (thenP t.evs.length (bck t.evs.length (relOf t.evs.length (rfP t c))) (relOf t.evs.length (coP t c)) i j || firstB t c i j) := by
  obtain ⟨ht, hc⟩ := cdE_ok h
  have hb := (trOk_lens ht).1
  have hthen : thenP t.evs.length (bck t.evs.length (relOf t.evs.length (rfP t c))) (relOf t.evs.length (coP t c)) i j = true ↔ ∃ k : Nat, k < t.evs.length ∧ (evi t i).dir = 1 ∧ c.rf.getD i default = (k : Int) ∧ coP t c k j = true := by
    unfold thenP
    rw [List.any_eq_true]
    constructor
    · rintro ⟨k, hk, h2⟩
      rw [List.mem_range] at hk
      unfold bck at h2
      rw [relOf_bt _ _ hb _ _ hi hk, relOf_bt _ _ hb _ _ hk hi, relOf_bt _ _ hb _ _ hk hj, Bool.and_eq_true] at h2
      unfold rfP at h2
      rw [Bool.and_eq_true, decide_eq_true_eq, decide_eq_true_eq] at h2
      exact ⟨k, hk, h2.1.1, h2.1.2, h2.2⟩
    · rintro ⟨k, hk, h1, h2, h3⟩
      refine ⟨k, List.mem_range.2 hk, ?_⟩
      unfold bck
      rw [relOf_bt _ _ hb _ _ hi hk, relOf_bt _ _ hb _ _ hk hi, relOf_bt _ _ hb _ _ hk hj, Bool.and_eq_true]
      unfold rfP
      rw [Bool.and_eq_true, decide_eq_true_eq, decide_eq_true_eq]
      exact ⟨⟨h1, h2⟩, h3⟩
  rw [Bool.eq_iff_iff, Bool.or_eq_true, hthen]
  unfold frP firstB
  simp only [Bool.and_eq_true, decide_eq_true_eq]
  rcases rf_fact hc hi with h1 | ⟨hd, h1⟩
  · have hm : ixI (col t c i) (-1) = -1 := by
      have := ixI_ge (col t c i) (-1)
      by_cases q : 0 ≤ ixI (col t c i) (-1)
      · obtain ⟨k, hk, hkl⟩ := loc_nat ht hi
        rw [ixI_nonneg, col_eq hk, co_mem hc hkl] at q
        obtain ⟨j', _, e, _⟩ := q
        omega
      · omega
    rw [h1, hm]
    have hcol := in_col h hi hj
    constructor
    · rintro ⟨q1, q2⟩
      have := hcol.1 (by omega)
      exact .inr ⟨⟨⟨q1, this.1⟩, this.2.symm⟩, rfl⟩
    · rintro (⟨k, _, _, e, _⟩ | ⟨⟨⟨q1, q2⟩, q3⟩, _⟩)
      · omega
      · exact ⟨q1, by have := hcol.2 ⟨q2, q3.symm⟩; omega⟩
  · obtain ⟨k, hk, e, hkd, hkl⟩ := mem_wr.1 h1
    rw [e]
    have hik := (in_col h hi hk).2 ⟨hkd, hkl⟩
    have hs : col t c k = col t c i := col_same h hkl
    constructor
    · rintro ⟨_, q2⟩
      refine .inl ⟨k, hk, hd, rfl, ?_⟩
      unfold coP ahP
      rw [hs, Bool.and_eq_true, decide_eq_true_eq, decide_eq_true_eq]
      exact ⟨hik, q2⟩
    · rintro (⟨k', _, _, e', q⟩ | ⟨_, q⟩)
      · obtain rfl : k = k' := by omega
        unfold coP ahP at q
        rw [hs, Bool.and_eq_true, decide_eq_true_eq, decide_eq_true_eq] at q
        exact ⟨hd, q.2⟩
      · omega
theorem co_total {i j : Nat} (hi : i < t.evs.length) (hj : j < t.evs.length) : bothB t i j = (coP t c i j || coP t c j i) ∧ (coP t c i j && coP t c j i) = false := by
  have hij := in_col h hi hj
  have hji := in_col h hj hi
  have hii := in_col h hi hi
  have hjj := in_col h hj hj
  unfold bothB coP ahP
  by_cases e : (evi t i).loc = (evi t j).loc
  · have hs : col t c j = col t c i := (col_same h e).symm
    rw [hs] at hji hjj
    rw [hs]
    simp only [e, and_true] at hij hji hii hjj
    constructor
    · rw [Bool.eq_iff_iff]
      simp only [Bool.and_eq_true, Bool.or_eq_true, decide_eq_true_eq, Bool.not_eq_true', decide_eq_false_iff_not, e, and_true]
      constructor
      · rintro ⟨⟨q1, q2⟩, q3⟩
        have h1 := hji.2 q2
        have h2 := hij.2 q3
        have : ¬ ixI (col t c i) (i : Int) = ixI (col t c i) (j : Int) := fun q => q1 (by have := ix_of h1 q; omega)
        omega
      · rintro (⟨q1, q2⟩ | ⟨q1, q2⟩)
        · exact ⟨⟨fun q => by subst q; omega, hji.1 q1⟩, hij.1 (by omega)⟩
        · exact ⟨⟨fun q => by subst q; omega, hji.1 (by omega)⟩, hij.1 q1⟩
    · rw [Bool.eq_false_iff]
      simp only [ne_eq, Bool.and_eq_true, decide_eq_true_eq]
      omega
  · have h1 : ¬ 0 ≤ ixI (col t c i) (j : Int) := fun q => e ((hij.1 q).2.symm)
    have h2 : ¬ 0 ≤ ixI (col t c j) (i : Int) := fun q => e ((hji.1 q).2)
    constructor
    · rw [Bool.eq_iff_iff]
      simp only [Bool.and_eq_true, Bool.or_eq_true, decide_eq_true_eq, e, and_false, false_iff, Bool.false_eq_true]
      omega
    · rw [Bool.eq_false_iff]
      simp only [ne_eq, Bool.and_eq_true, decide_eq_true_eq]
      omega
end
end Go.Proofs.YtifgncgiiojikaaGreatDoor
