/- THE STAGE'S THEOREM, plain: coherent just if none of the five shapes is there. -/
import Derived.Test.YtifgncgiiojikaaGreatDoorVwR
set_option linter.unusedSimpArgs false
set_option linter.unusedVariables false
set_option linter.unusedSectionVars false
namespace Go.Proofs.YtifgncgiiojikaaGreatDoor
open Go Go.Eng Go.Tc Go.Rl Go.Vw
def lvl (t : Tr) (c : Cd) (w : Int) : Int := if w < 0 then 0 else ixI (col t c w.toNat) w + 1
def levE (t : Tr) (c : Cd) (i : Nat) : Int := if (evi t i).dir = 1 then lvl t c (c.rf.getD i default) else lvl t c i
def okP (t : Tr) (c : Cd) (i j : Nat) : Bool :=
  if (thB t i j && lcB t i j) = true then (if (evi t j).dir = 2 then decide (levE t c i < levE t c j) else decide (levE t c i ≤ levE t c j)) else true
theorem relOf_in {m : Nat} {p : Nat → Nat → Bool} (hm : m ≤ 64) {a b : Nat} (h : bt (relOf m p) a b = true) : a < m ∧ b < m ∧ p a b = true := by
  rw [relOf_bit m p hm] at h
  simp only [Bool.and_eq_true, decide_eq_true_eq] at h
  refine ⟨?_, ?_, ?_⟩
  · omega
  · omega
  · simp_all
section
variable {t : Tr} {c : Cd} (h : cdE t c = 0)
include h
/-- a write that a read reads from -/
theorem rf_at {i : Nat} (hi : i < t.evs.length) (hd : (evi t i).dir = 1) : (c.rf.getD i default = -1 ∧ levE t c i = 0) ∨
    ∃ k : Nat, k < t.evs.length ∧ c.rf.getD i default = (k : Int) ∧ (evi t k).dir = 2 ∧ (evi t k).loc = (evi t i).loc ∧ levE t c i = levE t c k ∧ levE t c i = ixI (col t c i) (k : Int) + 1 ∧ 0 ≤ ixI (col t c i) (k : Int) := by
  obtain ⟨ht, hc⟩ := cdE_ok h
  rcases rf_fact hc hi with h1 | ⟨_, h1⟩
  · refine .inl ⟨h1, ?_⟩
    unfold levE lvl; rw [if_pos hd, h1]; rfl
  · obtain ⟨k, hk, e, hkd, hkl⟩ := mem_wr.1 h1
    refine .inr ⟨k, hk, e, hkd, hkl, ?_, ?_, (in_col h hi hk).2 ⟨hkd, hkl⟩⟩
    · unfold levE; rw [if_pos hd, if_neg (by omega), e]
    · unfold levE lvl
      rw [if_pos hd, e, if_neg (by omega), Int.toNat_natCast, col_same h hkl]
theorem wr_at {i : Nat} (hi : i < t.evs.length) (hd : (evi t i).dir = 2) : levE t c i = ixI (col t c i) (i : Int) + 1 ∧ 0 ≤ ixI (col t c i) (i : Int) := by
  refine ⟨?_, (in_col h hi hi).2 ⟨hd, rfl⟩⟩
  unfold levE lvl
  rw [if_neg (by omega), if_neg (by omega), Int.toNat_natCast]
theorem lev_pos {i : Nat} (hi : i < t.evs.length) : 0 ≤ levE t c i := by
  obtain ⟨ht, hc⟩ := cdE_ok h
  rcases trOk_dir ht hi with hd | hd
  · rcases rf_at h hi hd with h1 | ⟨k, _, _, _, _, _, h2, h3⟩ <;> omega
  · have := wr_at h hi hd; omega
theorem rd_ix {i : Nat} (hi : i < t.evs.length) (hd : (evi t i).dir = 1) : levE t c i = ixI (col t c i) (c.rf.getD i default) + 1 := by
  obtain ⟨ht, hc⟩ := cdE_ok h
  rcases rf_at h hi hd with ⟨h1, h2⟩ | ⟨k, _, e, _, _, _, h2, _⟩
  · have : ixI (col t c i) (-1) = -1 := by
      have := ixI_ge (col t c i) (-1)
      by_cases q : 0 ≤ ixI (col t c i) (-1)
      · obtain ⟨p, hp, hpl⟩ := loc_nat ht hi
        rw [ixI_nonneg, col_eq hp, co_mem hc hpl] at q
        obtain ⟨j', _, e, _⟩ := q
        omega
      · omega
    rw [h1, h2, this]; rfl
  · rw [e, h2]
/-- a step raises the level, or goes from a write to a read of its level, or stays among reads, or goes on in the thread -/
def KeyUp (t : Tr) (c : Cd) (i j : Nat) : Prop := levE t c i < levE t c j ∨ (levE t c i = levE t c j ∧ (evi t j).dir = 1 ∧ ((evi t i).dir = 2 ∨ ((evi t i).dir = 1 ∧ i < j)))
theorem key_trans {i j k : Nat} (h1 : KeyUp t c i j) (h2 : KeyUp t c j k) : KeyUp t c i k := by
  unfold KeyUp at *
  omega
theorem key_step (hf : ∀ i j, i < j → j < t.evs.length → okP t c i j = true) {i j : Nat} (hi : i < t.evs.length) (hj : j < t.evs.length) (hs : hdP t c i j = true) : KeyUp t c i j := by
  obtain ⟨ht, hc⟩ := cdE_ok h
  unfold hdP cmP at hs
  simp only [Bool.or_eq_true] at hs
  rcases hs with hs | (hs | hs) | hs
  · unfold plP at hs
    rw [Bool.and_eq_true, po_lt ht hi hj, Bool.and_eq_true, decide_eq_true_eq] at hs
    have := hf i j hs.1.1 hj
    unfold okP at this
    rw [if_pos (by rw [hs.1.2, hs.2]; rfl)] at this
    unfold KeyUp
    rcases trOk_dir ht hj with hd | hd
    · rw [if_neg (by omega), decide_eq_true_eq] at this
      have := trOk_dir ht hi
      omega
    · rw [if_pos hd, decide_eq_true_eq] at this
      exact .inl this
  · unfold rfP at hs
    rw [Bool.and_eq_true, decide_eq_true_eq, decide_eq_true_eq] at hs
    rcases rf_at h hj hs.1 with ⟨h1, _⟩ | ⟨k, _, e, hkd, _, hl, _⟩
    · omega
    · obtain rfl : i = k := by omega
      exact .inr ⟨hl.symm, hs.1, .inl hkd⟩
  · unfold coP ahP at hs
    rw [Bool.and_eq_true, decide_eq_true_eq, decide_eq_true_eq] at hs
    obtain ⟨hid, _⟩ := (in_col h hi hi).1 hs.1
    obtain ⟨hjd, hjl⟩ := (in_col h hi hj).1 (by omega)
    have h1 := wr_at h hi hid
    have h2 := wr_at h hj hjd
    rw [col_same h hjl] at h2
    exact .inl (by omega)
  · unfold frP at hs
    rw [Bool.and_eq_true, decide_eq_true_eq, decide_eq_true_eq] at hs
    have h0 := ixI_ge (col t c i) (c.rf.getD i default)
    obtain ⟨hjd, hjl⟩ := (in_col h hi hj).1 (by omega)
    have h2 := wr_at h hj hjd
    rw [col_same h hjl] at h2
    have h3 := rd_ix h hi hs.1
    exact .inl (by omega)
theorem fr_of {i k : Nat} (hi : i < t.evs.length) (hk : k < t.evs.length) (hd : (evi t i).dir = 1) (hkd : (evi t k).dir = 2) (e : (evi t k).loc = (evi t i).loc) (hl : levE t c i < levE t c k) : frP t c i k = true := by
  have h2 := wr_at h hk hkd
  rw [col_same h e] at h2
  have h3 := rd_ix h hi hd
  unfold frP
  rw [Bool.and_eq_true, decide_eq_true_eq, decide_eq_true_eq]
  exact ⟨hd, by omega⟩
theorem co_of {i k : Nat} (hi : i < t.evs.length) (hk : k < t.evs.length) (hd : (evi t i).dir = 2) (hkd : (evi t k).dir = 2) (e : (evi t k).loc = (evi t i).loc) (hl : levE t c i < levE t c k) : coP t c i k = true := by
  have h2 := wr_at h hk hkd
  rw [col_same h e] at h2
  have h3 := wr_at h hi hd
  unfold coP ahP
  rw [Bool.and_eq_true, decide_eq_true_eq, decide_eq_true_eq]
  omega
theorem lev_inj {i k : Nat} (hi : i < t.evs.length) (hk : k < t.evs.length) (hd : (evi t i).dir = 2) (hkd : (evi t k).dir = 2) (e : (evi t k).loc = (evi t i).loc) (hl : levE t c i = levE t c k) : i = k := by
  have h2 := wr_at h hk hkd
  rw [col_same h e] at h2
  have h3 := wr_at h hi hd
  have := ix_of h3.2 (show ixI (col t c i) (i : Int) = ixI (col t c i) (k : Int) by omega)
  omega
theorem rf_of {i k : Nat} (hd : (evi t i).dir = 1) (e : c.rf.getD i default = (k : Int)) : rfP t c k i = true := by
  unfold rfP
  rw [Bool.and_eq_true, decide_eq_true_eq, decide_eq_true_eq]
  exact ⟨hd, e⟩
theorem five (hb : t.evs.length ≤ 64) : cohB t c = true ↔ ∀ i j, i < j → j < t.evs.length → okP t c i j = true := by
  obtain ⟨ht, hc⟩ := cdE_ok h
  have ok := relOk_relOf t.evs.length (hdP t c) hb
  unfold cohB acycS
  rw [if_pos h, if_pos ok, Bool.not_eq_true', Int.toNat_natCast, ← Bool.not_eq_true, turnsL_iff ok]
  constructor
  · intro hn i j hij hj
    have hi : i < t.evs.length := by omega
    apply Classical.byContradiction
    intro hbad
    apply hn
    refine ⟨i, hi, ?_⟩
    unfold okP at hbad
    have hs : (Vw.thB t i j && lcB t i j) = true := Classical.byContradiction fun hs => by rw [if_neg hs] at hbad; exact hbad rfl
    rw [if_pos hs] at hbad
    rw [Bool.and_eq_true] at hs
    have hle : (evi t i).loc = (evi t j).loc := by simpa [lcB] using hs.2
    have st : ∀ {a b : Nat}, a < t.evs.length → b < t.evs.length → hdP t c a b = true → Rch (bt (relOf t.evs.length (hdP t c))) a b := fun ha hb' hq => .one (by rw [relOf_bt _ _ hb _ _ ha hb']; exact hq)
    have hco : ∀ {a b : Nat}, coP t c a b = true → hdP t c a b = true := fun q => by unfold hdP cmP; rw [q]; simp
    have hrf : ∀ {a b : Nat}, rfP t c a b = true → hdP t c a b = true := fun q => by unfold hdP cmP; rw [q]; simp
    have hfr : ∀ {a b : Nat}, frP t c a b = true → hdP t c a b = true := fun q => by unfold hdP cmP; rw [q]; simp
    have hpo : hdP t c i j = true := by
      unfold hdP plP; rw [po_lt ht hi hj, hs.1, hs.2, decide_eq_true hij]; rfl
    have s1 := st hi hj hpo
    rcases trOk_dir ht hj with hjd | hjd
    · rw [if_neg (by omega), decide_eq_true_eq] at hbad
      rcases trOk_dir ht hi with hid | hid
      · rcases rf_at h hi hid with ⟨_, h0⟩ | ⟨k, hk, e, hkd, hkl, hl, _⟩
        · have := lev_pos h hj; omega
        · exact (s1.trans (st hj hk (hfr (fr_of h hj hk hjd hkd (by omega) (by omega))))).trans (st hk hi (hrf (rf_of h hid e)))
      · exact s1.trans (st hj hi (hfr (fr_of h hj hi hjd hid hle (by omega))))
    · rw [if_pos hjd, decide_eq_true_eq] at hbad
      rcases trOk_dir ht hi with hid | hid
      · have hj1 := wr_at h hj hjd
        rcases rf_at h hi hid with ⟨_, h0⟩ | ⟨k, hk, e, hkd, hkl, hl, _⟩
        · omega
        · by_cases hkj : k = j
          · subst hkj
            exact s1.trans (st hj hi (hrf (rf_of h hid e)))
          · have : ¬ levE t c j = levE t c k := fun q => hkj (lev_inj h hj hk hjd hkd (by omega) q).symm
            exact (s1.trans (st hj hk (hco (co_of h hj hk hjd hkd (by omega) (by omega))))).trans (st hk hi (hrf (rf_of h hid e)))
      · have : ¬ levE t c j = levE t c i := fun q => by have := lev_inj h hj hi hjd hid hle q; omega
        exact s1.trans (st hj hi (hco (co_of h hj hi hjd hid hle (by omega))))
  · rintro hf ⟨i, hi, hr⟩
    have key : ∀ {a b : Nat}, Rch (bt (relOf t.evs.length (hdP t c))) a b → KeyUp t c a b := fun q => by
      induction q with
      | one q => obtain ⟨ha, hb', hq⟩ := relOf_in hb q; exact key_step h hf ha hb' hq
      | more _ q ih => obtain ⟨ha, hb', hq⟩ := relOf_in hb q; exact key_trans h ih (key_step h hf ha hb' hq)
    have := key hr
    unfold KeyUp at this
    omega
end
end Go.Proofs.YtifgncgiiojikaaGreatDoor
