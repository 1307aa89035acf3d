/- Plain: the order that TSO keeps; sequential consistency; which lets what be. -/
import Derived.Test.YtifgncgiiojikaaGreatDoorVwU
set_option linter.unusedSimpArgs false
set_option linter.unusedVariables false
namespace Go.Proofs.YtifgncgiiojikaaGreatDoor
open Go Go.Eng Go.Tc Go.Rl Go.Vw
def halfB (p d : Int) : Bool := decide (p = 2) || decide (p = d - 1)
def ordB (f a b : Int) : Bool :=
  if (a = 1 ∨ a = 2) ∧ (b = 1 ∨ b = 2) then
    if f = 1 then true else if f = 2 then decide (a = 1) || decide (b = 2) else
    if f < 3 ∨ 11 < f then false else halfB ((f - 3).tdiv 3) a && halfB ((f - 3).tmod 3) b
  else false
def barB (x y : Ev) (b : Bar) : Bool := decide (b.thread = x.thread) && decide (x.place < b.place) && decide (b.place < y.place) && ordB b.fence x.dir y.dir
def fnB (bars : List Bar) (x y : Ev) : Bool := bars.any (barB x y)
def fnP (t : Tr) (i j : Nat) : Bool := poP t i j && fnB t.bars (evi t i) (evi t j)
def lateB (t : Tr) (i j : Nat) : Bool := decide ((evi t i).dir = 2) && decide ((evi t j).dir = 1)
def ppP (t : Tr) (i j : Nat) : Bool := poP t i j && (!lateB t i j || fnP t i j)
def tsP (t : Tr) (c : Cd) (i j : Nat) : Bool := ((ppP t i j || exP t (rfP t c) i j) || coP t c i j) || frP t c i j
def scP (t : Tr) (c : Cd) (i j : Nat) : Bool := poP t i j || cmP t c i j
/-- without a round -/
def acyP (t : Tr) (p : Nat → Nat → Bool) : Bool := acycS t.evs.length (relOf t.evs.length p)
def tsB (t : Tr) (c : Cd) : Bool := cohB t c && acyP t (tsP t c)
def scB (t : Tr) (c : Cd) : Bool := if cdE t c = 0 then acyP t (scP t c) else false
theorem acyP_iff {t : Tr} (hb : t.evs.length ≤ 64) (p : Nat → Nat → Bool) : acyP t p = true ↔ ¬ ∃ i, i < t.evs.length ∧ Rch (bt (relOf t.evs.length p)) i i := by
  have ok := relOk_relOf t.evs.length p hb
  unfold acyP acycS
  rw [if_pos ok, Bool.not_eq_true', Int.toNat_natCast, ← Bool.not_eq_true, turnsL_iff ok]
theorem rch_mono {n : Nat} (hb : n ≤ 64) {p q : Nat → Nat → Bool} (h : ∀ a b, a < n → b < n → p a b = true → q a b = true) {a b : Nat} (hr : Rch (bt (relOf n p)) a b) : Rch (bt (relOf n q)) a b := by
  have st : ∀ {a b : Nat}, bt (relOf n p) a b = true → bt (relOf n q) a b = true := fun hq => by
    obtain ⟨ha, hb', hq⟩ := relOf_in hb hq
    rw [relOf_bt _ _ hb _ _ ha hb']
    exact h _ _ ha hb' hq
  induction hr with
  | one h1 => exact .one (st h1)
  | more _ h2 ih => exact .more ih (st h2)
theorem acyP_mono {t : Tr} (hb : t.evs.length ≤ 64) {p q : Nat → Nat → Bool} (h : ∀ a b, a < t.evs.length → b < t.evs.length → p a b = true → q a b = true) (hq : acyP t q = true) : acyP t p = true := by
  rw [acyP_iff hb] at hq ⊢
  rintro ⟨i, hi, hr⟩
  exact hq ⟨i, hi, rch_mono hb h hr⟩
theorem acyP_congr {t : Tr} {p q : Nat → Nat → Bool} (h : ∀ a b, a < t.evs.length → b < t.evs.length → p a b = q a b) : acyP t p = acyP t q := by
  unfold acyP; rw [relOf_ext h]
theorem cohB_acy {t : Tr} {c : Cd} (h : cdE t c = 0) : cohB t c = acyP t (hdP t c) := by
  unfold cohB acyP; rw [if_pos h]
theorem cohB_bad {t : Tr} {c : Cd} (h : ¬ cdE t c = 0) : cohB t c = false := by
  unfold cohB; rw [if_neg h]
theorem tsP_sc {t : Tr} {c : Cd} {a b : Nat} (h : tsP t c a b = true) : scP t c a b = true := by
  unfold tsP ppP exP at h
  unfold scP cmP
  simp only [Bool.or_eq_true, Bool.and_eq_true] at h ⊢
  rcases h with ((h | h) | h) | h
  · exact .inl h.1
  · exact .inr (.inl (.inl h.1))
  · exact .inr (.inl (.inr h))
  · exact .inr (.inr h)
theorem hdP_sc {t : Tr} {c : Cd} {a b : Nat} (h : hdP t c a b = true) : scP t c a b = true := by
  unfold hdP plP at h
  unfold scP
  simp only [Bool.or_eq_true, Bool.and_eq_true] at h ⊢
  rcases h with h | h
  · exact .inl h.1
  · exact .inr h
theorem sc_coh {t : Tr} {c : Cd} (h : scB t c = true) : cohB t c = true := by
  unfold scB at h
  by_cases hz : cdE t c = 0
  · rw [if_pos hz] at h
    have hb := (trOk_lens (cdE_ok hz).1).1
    rw [cohB_acy hz]
    exact acyP_mono hb (fun a b _ _ q => hdP_sc q) h
  · rw [if_neg hz] at h; cases h
theorem sc_ts {t : Tr} {c : Cd} (h : scB t c = true) : tsB t c = true := by
  have hc := sc_coh h
  unfold scB at h
  by_cases hz : cdE t c = 0
  · rw [if_pos hz] at h
    have hb := (trOk_lens (cdE_ok hz).1).1
    unfold tsB
    rw [hc, acyP_mono hb (fun a b _ _ q => tsP_sc q) h]; rfl
  · rw [if_neg hz] at h; cases h
section
variable {t : Tr} {c : Cd} (h : cdE t c = 0) (hc : cohB t c = true)
include h hc
theorem rf_po {i j : Nat} (hi : i < t.evs.length) (hj : j < t.evs.length) (hr : rfP t c i j = true) (ht : Vw.thB t i j = true) : poP t i j = true ∧ i < j := by
  obtain ⟨hok, hcb⟩ := cdE_ok h
  have hb := (trOk_lens hok).1
  have hf := (five h hb).1 hc
  unfold rfP at hr
  rw [Bool.and_eq_true, decide_eq_true_eq, decide_eq_true_eq] at hr
  rcases rf_at h hj hr.1 with ⟨h1, _⟩ | ⟨k, _, e, hkd, hkl, hl, _⟩
  · omega
  obtain rfl : i = k := by omega
  have hlt : i < j := by
    rcases Nat.lt_trichotomy i j with q | q | q
    · exact q
    · subst q; omega
    · have := hf j i q hi
      unfold okP at this
      rw [if_pos (by
        simp only [Vw.thB, lcB, Bool.and_eq_true, decide_eq_true_eq] at ht ⊢
        exact ⟨ht.symm, hkl.symm⟩), if_pos hkd, decide_eq_true_eq] at this
      omega
  refine ⟨?_, hlt⟩
  rw [po_lt hok hi hj, decide_eq_true hlt, ht]; rfl
/-- if all of the program order is kept, TSO lets be what SC lets be -/
theorem ts_sc (hall : ∀ i j, i < t.evs.length → j < t.evs.length → poP t i j = true → fnP t i j = true) (ha : acyP t (tsP t c) = true) : scB t c = true := by
  have hb := (trOk_lens (cdE_ok h).1).1
  unfold scB
  rw [if_pos h]
  refine acyP_mono hb (fun a b hA hB q => ?_) ha
  have hpp : poP t a b = true → ppP t a b = true := fun q => by
    unfold ppP; rw [q, hall a b hA hB q]; simp
  unfold scP cmP at q
  unfold tsP
  simp only [Bool.or_eq_true] at q ⊢
  rcases q with q | (q | q) | q
  · exact .inl (.inl (.inl (hpp q)))
  · by_cases ht : Vw.thB t a b = true
    · exact .inl (.inl (.inl (hpp (rf_po h hc hA hB q ht).1)))
    · refine .inl (.inl (.inr ?_))
      unfold exP
      rw [q, Bool.eq_false_iff.2 ht]; rfl
  · exact .inl (.inr q)
  · exact .inr q
end

/-! a line of a relation without a round -/
theorem line_free {t : Tr} (hb : t.evs.length ≤ 64) {p : Nat → Nat → Bool} (ha : acyP t p = true) : lineE t.evs.length (relOf t.evs.length p) = 0 ∧
    lineS t.evs.length (relOf t.evs.length p) = ints (lN t.evs.length (bt (relOf t.evs.length p)) t.evs.length) ∧ Topo t.evs.length (bt (relOf t.evs.length p)) (lN t.evs.length (bt (relOf t.evs.length p)) t.evs.length) ∧ (lN t.evs.length (bt (relOf t.evs.length p)) t.evs.length).length = t.evs.length := by
  have ok := relOk_relOf t.evs.length p hb
  unfold acyP acycS at ha
  rw [if_pos ok, Bool.not_eq_true', Int.toNat_natCast] at ha
  refine ⟨?_, ?_, lN_topo _, lN_length ok ha _ (Nat.le_refl _)⟩
  · unfold lineE; rw [if_pos ok, Int.toNat_natCast, if_neg (by rw [ha]; simp)]
  · unfold lineS; rw [if_pos ok, Int.toNat_natCast, if_neg (by rw [ha]; simp)]
theorem line_turned {t : Tr} (hb : t.evs.length ≤ 64) {p : Nat → Nat → Bool} (ha : acyP t p = false) : lineE t.evs.length (relOf t.evs.length p) = 12 ∧ lineS t.evs.length (relOf t.evs.length p) = [] := by
  have ok := relOk_relOf t.evs.length p hb
  unfold acyP acycS at ha
  rw [if_pos ok, Bool.not_eq_false', Int.toNat_natCast] at ha
  constructor
  · unfold lineE; rw [if_pos ok, Int.toNat_natCast, if_pos ha]
  · unfold lineS; rw [if_pos ok, Int.toNat_natCast, if_pos ha]
/-- where a thing stands -/
def posN (ts : List Nat) (x : Nat) : Nat := ts.idxOf x
theorem topo_pos {m : Nat} {p : Nat → Nat → Bool} {ts : List Nat} (hT : Topo m p ts) (hl : ts.length = m) {a b : Nat} (ha : a < m) (hb : b < m) (h : p a b = true) : posN ts a < posN ts b := by
  have hbm := hT.all hl b hb
  have hbl := List.idxOf_lt_length_of_mem hbm
  have e : ts[ts.idxOf b]? = some b := by rw [List.getElem?_eq_getElem hbl]; simp
  obtain ⟨k, hk, hka⟩ := hT.prec _ _ e a ha h
  have ham := hT.all hl a ha
  have hal := List.idxOf_lt_length_of_mem ham
  have e2 : ts[ts.idxOf a]? = some a := by rw [List.getElem?_eq_getElem hal]; simp
  have := (List.getElem?_inj (List.getElem?_eq_some_iff.1 hka).1 hT.nodup).1 (hka.trans e2.symm)
  unfold posN; omega
/-- the last in a list of which something holds -/
def lstTo (q : Int → Bool) (l : List Int) : Nat → Int
  | 0 => -1
  | k + 1 => if q (l.getD k default) = true then l.getD k default else lstTo q l k
theorem lst_from {q : Int → Bool} {l : List Int} (m : Nat) : ∀ (k : Nat), m ≤ k → (∀ i, m ≤ i → i < k → q (l.getD i default) = false) → lstTo q l k = lstTo q l m
  | 0, h, _ => by (obtain rfl : m = 0 := by omega); rfl
  | k + 1, h, hq => by
    by_cases e : m = k + 1
    · rw [e]
    · show (if q (l.getD k default) = true then _ else _) = _
      rw [if_neg (by rw [hq k (by omega) (by omega)]; simp)]
      exact lst_from m k (by omega) fun i h1 h2 => hq i h1 (by omega)
theorem lst_is {q : Int → Bool} {l : List Int} {x : Int} (hx : x = -1 ∨ 0 ≤ ixI l x) (h1 : ∀ i, i < l.length → ixI l x < i → q (l.getD i default) = false) (h2 : 0 ≤ ixI l x → q x = true) (hn : ixI l (-1) = -1) : lstTo q l l.length = x := by
  by_cases h0 : 0 ≤ ixI l x
  · have hlt := ixI_lt ((ixI_nonneg l x).1 h0)
    have hg := ixI_get h0
    rw [lst_from ((ixI l x).toNat + 1) _ (by omega) fun i a b => h1 i b (by omega)]
    show (if q (l.getD (ixI l x).toNat default) = true then _ else _) = _
    rw [hg, if_pos (h2 h0)]
  · obtain rfl := hx.resolve_right h0
    rw [lst_from 0 _ (Nat.zero_le _) fun i a b => h1 i b (by omega)]; rfl
section
variable {t : Tr} {c : Cd} (h : cdE t c = 0) (hc : cohB t c = true)
include h hc
/-- a read reads the last write that stands ahead of it in the line, or in its thread -/
theorem explains {f : Nat → Nat} (hf : ∀ a b, a < t.evs.length → b < t.evs.length → tsP t c a b = true → f a < f b) {r : Nat} (hr : r < t.evs.length) (hd : (evi t r).dir = 1) :
    lstTo (fun w => decide (f w.toNat < f r) || (decide (w < (r : Int)) && decide ((evi t w.toNat).thread = (evi t r).thread))) (col t c r) (col t c r).length = c.rf.getD r default := by
  obtain ⟨hok, hcb⟩ := cdE_ok h
  have hb := (trOk_lens hok).1
  have hfv := (five h hb).1 hc
  obtain ⟨p, hp, hpl⟩ := loc_nat hok hr
  have hcol : col t c r = c.co.getD p default := col_eq hp
  have hnd : (col t c r).Nodup := by rw [hcol]; exact co_nodup hcb hpl
  have hlv := rd_ix h hr hd
  have hmem : ∀ i, i < (col t c r).length → ∃ k : Nat, k < t.evs.length ∧ (col t c r).getD i default = (k : Int) ∧ (evi t k).dir = 2 ∧ (evi t k).loc = (evi t r).loc ∧ ixI (col t c r) (k : Int) = i := fun i hi => by
    have hm : (col t c r).getD i default ∈ col t c r := mem_getD.2 ⟨i, hi, rfl⟩
    have hm2 := hm
    rw [hcol, co_mem hcb hpl] at hm2
    obtain ⟨k, hk, e, h1, h2⟩ := hm2
    rw [← hcol] at e
    exact ⟨k, hk, e, h1, by omega, by rw [← e]; exact ixI_at hnd hi⟩
  refine lst_is ?_ ?_ ?_ ?_
  · rcases rf_at h hr hd with ⟨h1, _⟩ | ⟨k, _, e, _, _, _, _, h0⟩
    · exact .inl h1
    · exact .inr (by rw [e]; exact h0)
  · intro i hi hlt
    obtain ⟨k, hk, e, hkd, hkl, hki⟩ := hmem i hi
    rw [e, Int.toNat_natCast, Bool.or_eq_false_iff, Bool.and_eq_false_iff, decide_eq_false_iff_not, decide_eq_false_iff_not, decide_eq_false_iff_not]
    have hfr : frP t c r k = true := by
      unfold frP
      rw [Bool.and_eq_true, decide_eq_true_eq, decide_eq_true_eq]
      exact ⟨hd, by omega⟩
    constructor
    · have := hf r k hr hk (by unfold tsP; rw [hfr]; simp)
      omega
    · by_cases hkr : k < r
      · refine .inr fun hth => ?_
        have := hfv k r hkr hr
        have hw := wr_at h hk hkd
        rw [col_same h hkl] at hw
        unfold okP at this
        rw [if_pos (by
          simp only [Vw.thB, lcB, Bool.and_eq_true, decide_eq_true_eq]
          exact ⟨hth, hkl⟩), if_neg (by omega), decide_eq_true_eq] at this
        omega
      · exact .inl (by omega)
  · intro h0
    rcases rf_at h hr hd with ⟨h1, _⟩ | ⟨k, hk, e, hkd, hkl, _, _, _⟩
    · exfalso
      rw [h1, ixI_nonneg, hcol, co_mem hcb hpl] at h0
      obtain ⟨j', _, e, _⟩ := h0
      omega
    · rw [e, Int.toNat_natCast, Bool.or_eq_true, Bool.and_eq_true, decide_eq_true_eq, decide_eq_true_eq, decide_eq_true_eq]
      have hrf := rf_of h hd e
      by_cases ht : Vw.thB t k r = true
      · have := (rf_po h hc hk hr hrf ht).2
        simp only [Vw.thB, decide_eq_true_eq] at ht
        exact .inr ⟨by omega, ht⟩
      · refine .inl (hf k r hk hr ?_)
        unfold tsP exP
        rw [hrf, Bool.eq_false_iff.2 ht]; simp
  · have := ixI_ge (col t c r) (-1)
    by_cases q : 0 ≤ ixI (col t c r) (-1)
    · rw [ixI_nonneg, hcol, co_mem hcb hpl] at q
      obtain ⟨j', _, e, _⟩ := q
      omega
    · omega
end
end Go.Proofs.YtifgncgiiojikaaGreatDoor
