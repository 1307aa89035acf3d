import Derived.Test.YtifgncgiiojikaaGreatDoorG16
import Derived.Test.YtifgncgiiojikaaGreatDoorG14
set_option linter.unusedSimpArgs false
set_option linter.unusedVariables false
set_option linter.unusedSectionVars false
section
/- The walk: alembicref17.Of (printed by gen_rof.py). -/
namespace Go.Vw
open Go Go.Eng Go.Tc Go.Rl
/-- the document's -/
def rrfP (t : Tr) (c : Cd) (i j : Nat) : Bool := lcB t i j && (decide ((evi t j).dir = 1) && decide (c.rf.getD j default = (i : Int)))
def rcoP (t : Tr) (c : Cd) (i j : Nat) : Bool := lcB t i j && ((decide ((evi t i).dir = 2) && decide ((evi t j).dir = 2)) && bfB (col t c i) i j)
def rfrP (t : Tr) (c : Cd) (i j : Nat) : Bool := lcB t i j && ((decide ((evi t i).dir = 1) && decide ((evi t j).dir = 2)) && (decide (c.rf.getD i default = -1) || bfB (col t c i) (c.rf.getD i default) j))
section
variable {t : Tr} {c : Cd} (ht : trOk t = true) (hc : candB t c = true)
include ht hc
theorem rrf_eq {i j : Nat} (hi : i < t.evs.length) (hj : j < t.evs.length) : rrfP t c i j = rfP t c i j := by
  rw [Bool.eq_iff_iff]
  simp only [rrfP, rfP, lcB, Bool.and_eq_true, decide_eq_true_eq]
  constructor
  · exact fun h => h.2
  · rintro ⟨h1, h2⟩
    refine ⟨?_, h1, h2⟩
    rcases rf_fact hc hj with h | ⟨_, h⟩
    · omega
    · obtain ⟨i', _, e, _, hl⟩ := mem_wr.1 h
      obtain rfl : i = i' := by omega
      exact hl
theorem col_nodup {i : Nat} (hi : i < t.evs.length) : (col t c i).Nodup := by
  obtain ⟨k, hk, hkl⟩ := loc_nat ht hi
  rw [col_eq hk]; exact co_nodup hc hkl
theorem mem_col {i : Nat} (hi : i < t.evs.length) {x : Int} : x ∈ col t c i ↔ ∃ j : Nat, j < t.evs.length ∧ x = j ∧ (evi t j).dir = 2 ∧ (evi t j).loc = (evi t i).loc := by
  obtain ⟨k, hk, hkl⟩ := loc_nat ht hi
  rw [col_eq hk, co_mem hc hkl, hk]
theorem bf_ah {i : Nat} (hi : i < t.evs.length) (v u : Int) : bfB (col t c i) v u = ahP (col t c i) v u := by
  unfold bfB ahP
  rw [lastI_nodup (col_nodup ht hc hi), lastI_nodup (col_nodup ht hc hi)]
theorem rco_eq {i j : Nat} (hi : i < t.evs.length) (hj : j < t.evs.length) : rcoP t c i j = coP t c i j := by
  unfold rcoP coP
  rw [bf_ah ht hc hi, Bool.eq_iff_iff]
  simp only [lcB, Bool.and_eq_true, decide_eq_true_eq]
  constructor
  · exact fun h => h.2.2
  · intro h
    have h' := h
    simp only [ahP, Bool.and_eq_true, decide_eq_true_eq] at h'
    obtain ⟨i', _, e1, d1, l1⟩ := (mem_col ht hc hi).1 ((ixI_nonneg _ _).1 h'.1)
    obtain ⟨j', _, e2, d2, l2⟩ := (mem_col ht hc hi).1 ((ixI_nonneg (col t c i) (j : Int)).1 (by omega))
    obtain rfl : i = i' := by omega
    obtain rfl : j = j' := by omega
    exact ⟨l2.symm, ⟨d1, d2⟩, h⟩
theorem rfr_eq {i j : Nat} (hi : i < t.evs.length) (hj : j < t.evs.length) : rfrP t c i j = frP t c i j := by
  unfold rfrP frP
  rw [bf_ah ht hc hi, Bool.eq_iff_iff]
  simp only [lcB, ahP, Bool.and_eq_true, Bool.or_eq_true, decide_eq_true_eq]
  have hm1 : ¬ (-1 : Int) ∈ col t c i := fun hm => by obtain ⟨j', _, e, _⟩ := (mem_col ht hc hi).1 hm; omega
  constructor
  · rintro ⟨h1, ⟨h2, h3⟩, h4⟩
    refine ⟨h2, ?_⟩
    rcases h4 with h4 | h4
    · have hmj : (j : Int) ∈ col t c i := (mem_col ht hc hi).2 ⟨j, hj, rfl, h3, h1.symm⟩
      have := (ixI_nonneg _ _).2 hmj
      rw [h4, show ixI (col t c i) (-1) = -1 from if_neg hm1]; omega
    · exact h4.2
  · rintro ⟨h1, h2⟩
    obtain ⟨j', _, e2, d2, l2⟩ := fr_in ht hc hi h2
    obtain rfl : j = j' := by omega
    refine ⟨l2.symm, ⟨h1, d2⟩, ?_⟩
    rcases rf_fact hc hi with h | ⟨_, h⟩
    · exact .inl h
    · refine .inr ⟨(ixI_nonneg _ _).2 ((mem_col ht hc hi).2 ?_), h2⟩
      obtain ⟨r, h5, h6, h7, h8⟩ := mem_wr.1 h
      exact ⟨r, h5, h6, h7, h8⟩
end
end Go.Vw
namespace Go.Proofs.YtifgncgiiojikaaGreatDoor
open Go Go.Eng Go.Tc Go.Rl Go.Vw
attribute [local irreducible] wpList Code.wp bodyPost Exit.then Exit.inBlock Calls

end Go.Proofs.YtifgncgiiojikaaGreatDoor
end
