/- Plain: the order that RVWMO keeps; what an order explains. -/
import Derived.Test.YtifgncgiiojikaaGreatDoorScA
set_option linter.unusedSimpArgs false
set_option linter.unusedVariables false
set_option linter.unusedSectionVars false
namespace Go.Proofs.YtifgncgiiojikaaGreatDoor
open Go Go.Eng Go.Tc Go.Rl Go.Vw
def btwP (t : Tr) (a m b : Nat) : Bool := poP t a m && poP t m b
def overB (t : Tr) (a b : Nat) : Bool := decide ((evi t b).dir = 2) && lcB t a b
def gapB (t : Tr) (a b : Nat) : Bool := (List.range t.evs.length).any fun m => btwP t a m b && decide ((evi t m).dir = 2) && lcB t a m
def unlB (t : Tr) (c : Cd) (a b : Nat) : Bool := decide ((evi t a).dir = 1) && decide ((evi t b).dir = 1) && lcB t a b && !decide (c.rf.getD a default = c.rf.getD b default) && !gapB t a b
def pasB (t : Tr) (c : Cd) (a b : Nat) : Bool := decide ((evi t b).dir = 1) && decide (0 ≤ c.rf.getD b default) && btwP t a (c.rf.getD b default).toNat b && (memb t.addr a (c.rf.getD b default).toNat || memb t.data a (c.rf.getD b default).toNat)
def behB (t : Tr) (a b : Nat) : Bool := decide ((evi t b).dir = 2) && (List.range t.evs.length).any fun m => btwP t a m b && memb t.addr a m
/-- what a rule asks for, of a pair of the program order -/
def ruleB (t : Tr) (c : Cd) (k : Int) (a b : Nat) : Bool :=
  if k = 1 then overB t a b else if k = 2 then unlB t c a b else if k = 4 then fnB t.bars (evi t a) (evi t b) else if k = 9 then memb t.addr a b else if k = 10 then memb t.data a b else
  if k = 11 then decide ((evi t b).dir = 2) && memb t.ctrl a b else if k = 12 then pasB t c a b else if k = 13 then behB t a b else false
def ruleP (t : Tr) (c : Cd) (k : Int) (a b : Nat) : Bool := poP t a b && ruleB t c k a b
/-- the rules from one on, so many -/
def rulesTo (t : Tr) (c : Cd) (f : Int) (n : Nat) (a b : Nat) : Bool := (List.range n).any fun i => ruleP t c (f + i) a b
def rvP (t : Tr) (c : Cd) (a b : Nat) : Bool := rulesTo t c 1 13 a b
def rhP (t : Tr) (c : Cd) (a b : Nat) : Bool := ((rvP t c a b || exP t (rfP t c) a b) || coP t c a b) || frP t c a b
def rvB (t : Tr) (c : Cd) : Bool := cohB t c && acyP t (rhP t c)
theorem rule_rv {t : Tr} {c : Cd} {k a b : Nat} (h1 : 1 ≤ k) (h2 : k ≤ 13) (h : ruleP t c k a b = true) : rvP t c a b = true := by
  unfold rvP rulesTo
  rw [List.any_eq_true]
  exact ⟨k - 1, List.mem_range.2 (by omega), by rw [show (1 : Int) + ((k - 1 : Nat) : Int) = (k : Int) by omega]; exact h⟩
theorem rv_rule {t : Tr} {c : Cd} {a b : Nat} (h : rvP t c a b = true) : ∃ k : Int, ruleP t c k a b = true := by
  unfold rvP rulesTo at h
  rw [List.any_eq_true] at h
  obtain ⟨i, _, h⟩ := h
  exact ⟨_, h⟩
theorem rv_po {t : Tr} {c : Cd} {a b : Nat} (h : rvP t c a b = true) : poP t a b = true := by
  obtain ⟨k, h⟩ := rv_rule h
  unfold ruleP at h
  rw [Bool.and_eq_true] at h; exact h.1
theorem pair_fact {t : Tr} {l : List Pair} {w : Bool} (h : pairedB t l w = true) {a b : Nat} (hm : memb l a b = true) : a < b ∧ b < t.evs.length ∧ (evi t a).dir = 1 ∧ Vw.thB t a b = true := by
  unfold memb at hm
  rw [decide_eq_true_eq] at hm
  obtain ⟨i, hi⟩ := List.getElem?_of_mem hm
  have hil := (List.getElem?_eq_some_iff.1 hi).1
  unfold pairedB at h
  rw [all_range] at h
  have h1 := h i hil
  have e : l.getD i default = ⟨(a : Int), (b : Int)⟩ := by rw [List.getD_eq_getElem?_getD, hi]; rfl
  unfold pairAt pairOne at h1
  rw [e] at h1
  simp only [Bool.and_eq_true, decide_eq_true_eq, Tc.ev, Int.toNat_natCast] at h1
  unfold Vw.thB
  rw [decide_eq_true_eq]
  unfold evi
  obtain ⟨⟨⟨⟨⟨⟨q1, q2⟩, q3⟩, q4⟩, q5⟩, -⟩, -⟩ := h1
  exact ⟨by omega, by omega, of_decide_eq_true q4, of_decide_eq_true q5⟩
theorem trOk_pairs {t : Tr} (h : trOk t = true) : pairedB t t.addr false = true ∧ pairedB t t.data true = true ∧ pairedB t t.ctrl false = true := by
  unfold trOk at h
  simp only [Bool.and_eq_true] at h
  exact ⟨h.1.1.1.2, h.1.1.2, h.1.2⟩
/-- what RVWMO keeps TSO keeps -/
theorem rv_pp {t : Tr} {c : Cd} (ht : trOk t = true) {a b : Nat} (h : rvP t c a b = true) : ppP t a b = true := by
  have hp := rv_po h
  obtain ⟨k, h⟩ := rv_rule h
  obtain ⟨g1, g2, g3⟩ := trOk_pairs ht
  unfold ppP
  rw [hp, Bool.true_and, Bool.or_eq_true, Bool.not_eq_true']
  unfold ruleP ruleB at h
  rw [hp, Bool.true_and] at h
  have late1 : ¬ (evi t b).dir = 1 → lateB t a b = false := fun q => by unfold lateB; rw [decide_eq_false q, Bool.and_false]
  have late2 : ¬ (evi t a).dir = 2 → lateB t a b = false := fun q => by unfold lateB; rw [decide_eq_false q, Bool.false_and]
  by_cases k1 : k = 1
  · rw [if_pos k1] at h
    simp only [overB, Bool.and_eq_true, decide_eq_true_eq] at h
    exact .inl (late1 (by omega))
  by_cases k2 : k = 2
  · rw [if_neg k1, if_pos k2] at h
    simp only [unlB, Bool.and_eq_true, decide_eq_true_eq] at h
    exact .inl (late2 (by omega))
  by_cases k4 : k = 4
  · rw [if_neg k1, if_neg k2, if_pos k4] at h
    right; unfold fnP; rw [hp, h]; rfl
  by_cases k9 : k = 9
  · rw [if_neg k1, if_neg k2, if_neg k4, if_pos k9] at h
    have := (pair_fact g1 h).2.2.1
    exact .inl (late2 (by omega))
  by_cases k10 : k = 10
  · rw [if_neg k1, if_neg k2, if_neg k4, if_neg k9, if_pos k10] at h
    have := (pair_fact g2 h).2.2.1
    exact .inl (late2 (by omega))
  by_cases k11 : k = 11
  · rw [if_neg k1, if_neg k2, if_neg k4, if_neg k9, if_neg k10, if_pos k11] at h
    simp only [Bool.and_eq_true, decide_eq_true_eq] at h
    exact .inl (late1 (by omega))
  by_cases k12 : k = 12
  · rw [if_neg k1, if_neg k2, if_neg k4, if_neg k9, if_neg k10, if_neg k11, if_pos k12] at h
    simp only [pasB, Bool.and_eq_true, Bool.or_eq_true] at h
    rcases h.2 with q | q
    · have := (pair_fact g1 q).2.2.1
      exact .inl (late2 (by omega))
    · have := (pair_fact g2 q).2.2.1
      exact .inl (late2 (by omega))
  by_cases k13 : k = 13
  · rw [if_neg k1, if_neg k2, if_neg k4, if_neg k9, if_neg k10, if_neg k11, if_neg k12, if_pos k13] at h
    simp only [behB, Bool.and_eq_true, decide_eq_true_eq] at h
    exact .inl (late1 (by omega))
  · rw [if_neg k1, if_neg k2, if_neg k4, if_neg k9, if_neg k10, if_neg k11, if_neg k12, if_neg k13] at h
    cases h
theorem ts_rv {t : Tr} {c : Cd} (h : tsB t c = true) : rvB t c = true := by
  unfold tsB at h
  rw [Bool.and_eq_true] at h
  have hz : cdE t c = 0 := by
    by_cases q : cdE t c = 0
    · exact q
    · rw [cohB_bad q] at h; cases h.1
  have ht := (cdE_ok hz).1
  unfold rvB
  rw [h.1, Bool.true_and]
  refine acyP_mono (trOk_lens ht).1 (fun a b _ _ q => ?_) h.2
  unfold rhP at q
  unfold tsP
  simp only [Bool.or_eq_true] at q ⊢
  rcases q with ((q | q) | q) | q
  · exact .inl (.inl (.inl (rv_pp ht q)))
  · exact .inl (.inl (.inr q))
  · exact .inl (.inr q)
  · exact .inr q

/-! what an order explains by its loads -/
def seesB (t : Tr) (f : Nat → Nat) (r w : Nat) : Bool := decide ((evi t w).dir = 2) && lcB t w r && (decide (f w < f r) || poP t w r)
def lstW (q : Nat → Bool) (f : Nat → Nat) : Nat → Int
  | 0 => -1
  | w + 1 => if (q w && (decide (lstW q f w < 0) || decide (f (lstW q f w).toNat < f w))) = true then (w : Int) else lstW q f w
theorem lstW_is (q : Nat → Bool) (f : Nat → Nat) : ∀ n, (lstW q f n = -1 ∧ ∀ w, w < n → q w = false) ∨ ∃ k : Nat, k < n ∧ lstW q f n = (k : Int) ∧ q k = true ∧ ∀ w, w < n → q w = true → f w ≤ f k
  | 0 => .inl ⟨rfl, fun w hw => absurd hw (Nat.not_lt_zero _)⟩
  | n + 1 => by
    have ih := lstW_is q f n
    unfold lstW
    by_cases hq : q n = true
    · rcases ih with ⟨h1, h2⟩ | ⟨k, hk, h1, h2, h3⟩
      · refine .inr ⟨n, by omega, ?_, hq, fun w hw hqw => ?_⟩
        · rw [if_pos (by rw [hq, h1]; rfl)]
        · rcases Nat.lt_or_ge w n with g | g
          · rw [h2 w g] at hqw; cases hqw
          · obtain rfl : w = n := by omega
            exact Nat.le_refl _
      · by_cases hf : f k < f n
        · refine .inr ⟨n, by omega, ?_, hq, fun w hw hqw => ?_⟩
          · rw [if_pos (by rw [hq, h1, Int.toNat_natCast, decide_eq_true hf, Bool.or_true]; rfl)]
          · rcases Nat.lt_or_ge w n with g | g
            · have := h3 w g hqw; omega
            · obtain rfl : w = n := by omega
              exact Nat.le_refl _
        · refine .inr ⟨k, by omega, ?_, h2, fun w hw hqw => ?_⟩
          · rw [if_neg (by rw [hq, h1, Int.toNat_natCast, decide_eq_false hf, decide_eq_false (by omega)]; simp)]; exact h1
          · rcases Nat.lt_or_ge w n with g | g
            · exact h3 w g hqw
            · obtain rfl : w = n := by omega
              omega
    · rw [if_neg (by rw [Bool.eq_false_iff.2 hq]; simp)]
      rw [Bool.not_eq_true] at hq
      rcases ih with ⟨h1, h2⟩ | ⟨k, hk, h1, h2, h3⟩
      · refine .inl ⟨h1, fun w hw => ?_⟩
        rcases Nat.lt_or_ge w n with g | g
        · exact h2 w g
        · obtain rfl : w = n := by omega
          exact hq
      · refine .inr ⟨k, by omega, h1, h2, fun w hw hqw => ?_⟩
        rcases Nat.lt_or_ge w n with g | g
        · exact h3 w g hqw
        · obtain rfl : w = n := by omega
          rw [hq] at hqw; cases hqw
def upB (f : Nat → Nat) (l : List Int) (i : Nat) : Bool := !decide (f (l.getD (i + 1) default).toNat < f (l.getD i default).toNat)
def upsB (f : Nat → Nat) (l : List Int) : Bool := (List.range (l.length - 1)).all (upB f l)
def readB (t : Tr) (c : Cd) (f : Nat → Nat) (r : Nat) : Bool := !decide ((evi t r).dir = 1) || decide (c.rf.getD r default = lstW (seesB t f r) f t.evs.length)
def loadsB (t : Tr) (c : Cd) (f : Nat → Nat) : Bool := ((List.range c.co.length).all fun k => upsB f (c.co.getD k default)) && (List.range t.evs.length).all (readB t c f)
section
variable {t : Tr} {c : Cd} (h : cdE t c = 0) {f : Nat → Nat} (hinj : ∀ a b, a < t.evs.length → b < t.evs.length → f a = f b → a = b)
include h hinj
theorem ups_co {k : Nat} (hk : k < t.locs.length) (hu : upsB f (c.co.getD k default) = true) : ∀ (d i : Nat), i + d + 1 < (c.co.getD k default).length → f ((c.co.getD k default).getD i default).toNat < f ((c.co.getD k default).getD (i + d + 1) default).toNat := by
  obtain ⟨ht, hc⟩ := cdE_ok h
  have hnd := co_nodup hc hk
  have step : ∀ i, i + 1 < (c.co.getD k default).length → f ((c.co.getD k default).getD i default).toNat < f ((c.co.getD k default).getD (i + 1) default).toNat := fun i hi => by
    unfold upsB at hu
    rw [all_range] at hu
    have h1 := hu i (by omega)
    unfold upB at h1
    rw [Bool.not_eq_true', decide_eq_false_iff_not] at h1
    obtain ⟨x, hx, ex, _⟩ := (co_mem hc hk).1 (mem_getD.2 ⟨i, by omega, rfl⟩)
    obtain ⟨y, hy, ey, _⟩ := (co_mem hc hk).1 (mem_getD.2 ⟨i + 1, hi, rfl⟩)
    have hne : x ≠ y := fun q => by
      have g1 := ixI_at hnd (show i < (c.co.getD k default).length by omega)
      have g2 := ixI_at hnd hi
      rw [ex] at g1; rw [ey] at g2; rw [q] at g1; omega
    rw [ex, ey, Int.toNat_natCast, Int.toNat_natCast] at h1 ⊢
    have : f x ≠ f y := fun q => hne (hinj x y hx hy q)
    omega
  intro d
  induction d with
  | zero => exact fun i hi => step i hi
  | succ d ih =>
    intro i hi
    have h1 := ih i (by omega)
    have h2 := step (i + d + 1) (by omega)
    rw [show i + (d + 1) + 1 = i + d + 1 + 1 by omega]
    omega
theorem loads_co (hl : loadsB t c f = true) {a b : Nat} (ha : a < t.evs.length) (hb : b < t.evs.length) (hs : coP t c a b = true) : f a < f b := by
  obtain ⟨ht, hc⟩ := cdE_ok h
  obtain ⟨p, hp, hpl⟩ := loc_nat ht ha
  unfold loadsB at hl
  rw [Bool.and_eq_true, all_range, all_range] at hl
  have hu := hl.1 p (by have := ((candB_iff t c).1 hc).2.1; omega)
  unfold coP ahP at hs
  rw [Bool.and_eq_true, decide_eq_true_eq, decide_eq_true_eq, col_eq hp] at hs
  have h1 := ixI_lt ((ixI_nonneg _ _).1 hs.1)
  have h2 := ixI_lt ((ixI_nonneg _ _).1 (show 0 ≤ ixI (c.co.getD p default) b by omega))
  have := ups_co h hinj hpl hu ((ixI (c.co.getD p default) b).toNat - (ixI (c.co.getD p default) a).toNat - 1) (ixI (c.co.getD p default) a).toNat (by omega)
  rw [ixI_get hs.1, show (ixI (c.co.getD p default) a).toNat + ((ixI (c.co.getD p default) b).toNat - (ixI (c.co.getD p default) a).toNat - 1) + 1 = (ixI (c.co.getD p default) b).toNat by omega, ixI_get (by omega)] at this
  simpa using this
theorem loads_read (hl : loadsB t c f = true) {r : Nat} (hr : r < t.evs.length) (hd : (evi t r).dir = 1) : (c.rf.getD r default = -1 ∧ ∀ w, w < t.evs.length → seesB t f r w = false) ∨
    ∃ k : Nat, k < t.evs.length ∧ c.rf.getD r default = (k : Int) ∧ seesB t f r k = true ∧ ∀ w, w < t.evs.length → seesB t f r w = true → f w ≤ f k := by
  unfold loadsB at hl
  rw [Bool.and_eq_true, all_range, all_range] at hl
  have h1 := hl.2 r hr
  unfold readB at h1
  rw [hd, decide_eq_true (rfl : (1 : Int) = 1), Bool.not_true, Bool.false_or, decide_eq_true_eq] at h1
  rw [h1]
  exact lstW_is (seesB t f r) f t.evs.length
/-- what an order explains that keeps the preserved order may be -/
theorem loads_rv (hl : loadsB t c f = true) (hk : ∀ a b, a < t.evs.length → b < t.evs.length → rvP t c a b = true → f a < f b) : rvB t c = true := by
  obtain ⟨ht, hc⟩ := cdE_ok h
  have hb := (trOk_lens ht).1
  have co : ∀ {a b : Nat}, a < t.evs.length → b < t.evs.length → coP t c a b = true → f a < f b := fun ha hb' hs => loads_co h hinj hl ha hb' hs
  have one : ∀ {a b : Nat}, a < t.evs.length → b < t.evs.length → poP t a b = true → (evi t b).dir = 2 → (evi t a).loc = (evi t b).loc → f a < f b := fun ha hb' hp hd hlc =>
    hk _ _ ha hb' (rule_rv (k := 1) (by omega) (by omega) (by
      show (poP t _ _ && overB t _ _) = true
      unfold overB lcB; rw [hp, hd, hlc]; simp))
  have lv : ∀ {a b : Nat}, a < t.evs.length → b < t.evs.length → (evi t a).dir = 2 → (evi t b).dir = 2 → (evi t b).loc = (evi t a).loc → f a < f b → levE t c a < levE t c b := fun {a b} ha hb' hda hdb hlc hf => by
    rcases Int.lt_trichotomy (levE t c a) (levE t c b) with q | q | q
    · exact q
    · have := lev_inj h ha hb' hda hdb hlc q; subst this; omega
    · have := co hb' ha (co_of h hb' ha hdb hda hlc.symm q); omega
  have lve : ∀ {a b : Nat}, a < t.evs.length → b < t.evs.length → (evi t a).dir = 2 → (evi t b).dir = 2 → (evi t b).loc = (evi t a).loc → f a ≤ f b → levE t c a ≤ levE t c b := fun {a b} ha hb' hda hdb hlc hf => by
    by_cases q : a = b
    · subst q; exact Int.le_refl _
    · have := lv ha hb' hda hdb hlc (by have : f a ≠ f b := fun e => q (hinj _ _ ha hb' e); omega)
      omega
  have sees : ∀ {r w : Nat}, (evi t w).dir = 2 → (evi t w).loc = (evi t r).loc → (f w < f r ∨ poP t w r = true) → seesB t f r w = true := fun hd hlc q => by
    unfold seesB lcB
    simp only [Bool.and_eq_true, Bool.or_eq_true, decide_eq_true_eq]
    exact ⟨⟨hd, hlc⟩, q⟩
  have rfl_ : ∀ {r : Nat}, r < t.evs.length → (evi t r).dir = 1 → (c.rf.getD r default = -1 ∧ levE t c r = 0 ∧ ∀ w, w < t.evs.length → seesB t f r w = false) ∨
      ∃ k : Nat, k < t.evs.length ∧ c.rf.getD r default = (k : Int) ∧ (evi t k).dir = 2 ∧ (evi t k).loc = (evi t r).loc ∧ levE t c r = levE t c k ∧ (f k < f r ∨ poP t k r = true) ∧ ∀ w, w < t.evs.length → seesB t f r w = true → f w ≤ f k := fun {r} hr hd => by
    rcases loads_read h hinj hl hr hd with ⟨e, h2⟩ | ⟨k, hkl, e, h2, h3⟩
    · rcases rf_at h hr hd with ⟨_, q⟩ | ⟨k', _, e', _⟩
      · exact .inl ⟨e, q, h2⟩
      · omega
    · rcases rf_at h hr hd with ⟨e', _⟩ | ⟨k', _, e', g1, g2, g3, _⟩
      · omega
      · obtain rfl : k = k' := by omega
        refine .inr ⟨k, hkl, e, g1, g2, g3, ?_, h3⟩
        unfold seesB at h2
        simp only [Bool.and_eq_true, Bool.or_eq_true, decide_eq_true_eq] at h2
        exact h2.2
  unfold rvB
  rw [Bool.and_eq_true]
  constructor
  · refine (five h hb).2 fun i j hij hj => ?_
    have hi : i < t.evs.length := by omega
    unfold okP
    by_cases hs : (Vw.thB t i j && lcB t i j) = true
    · rw [if_pos hs]
      rw [Bool.and_eq_true] at hs
      have hlc : (evi t i).loc = (evi t j).loc := by simpa [lcB] using hs.2
      have hp : poP t i j = true := by rw [po_lt ht hi hj, hs.1, decide_eq_true hij]; rfl
      have ptr : ∀ {k : Nat}, k < t.evs.length → poP t k i = true → poP t k j = true := fun {k} hkl q => by
        simp only [poP, Vw.thB, Bool.and_eq_true, decide_eq_true_eq] at hp q ⊢
        omega
      by_cases hjd : (evi t j).dir = 2
      · rw [if_pos hjd, decide_eq_true_eq]
        rcases trOk_dir ht hi with hid | hid
        · rcases rfl_ hi hid with ⟨_, q, _⟩ | ⟨k, hkl, e, g1, g2, g3, g4, _⟩
          · have := wr_at h hj hjd; omega
          · rw [g3]
            refine lv hkl hj g1 hjd (by omega) ?_
            rcases g4 with g | g
            · have := one hi hj hp hjd hlc; omega
            · exact one hkl hj (ptr hkl g) hjd (by omega)
        · exact lv hi hj hid hjd hlc.symm (one hi hj hp hjd hlc)
      · have hjr : (evi t j).dir = 1 := by have := trOk_dir ht hj; omega
        rw [if_neg hjd, decide_eq_true_eq]
        rcases trOk_dir ht hi with hid | hid
        · rcases rfl_ hi hid with ⟨_, q, _⟩ | ⟨k, hkl, e, g1, g2, g3, g4, g5⟩
          · have := lev_pos h hj; omega
          · rcases rfl_ hj hjr with ⟨e', q', n'⟩ | ⟨k', hkl', e', g1', g2', g3', g4', g5'⟩
            · exfalso
              -- some write is seen
              by_cases g : poP t k i = true
              · have := n' k hkl
                rw [sees g1 (by omega) (.inr (ptr hkl g))] at this; cases this
              · have hki := g4.resolve_right g
                by_cases gap : gapB t i j = true
                · unfold gapB at gap
                  rw [List.any_eq_true] at gap
                  obtain ⟨m, hm, gm⟩ := gap
                  rw [List.mem_range] at hm
                  simp only [btwP, lcB, Bool.and_eq_true, decide_eq_true_eq] at gm
                  have := n' m hm
                  rw [sees gm.1.2 (by omega) (.inr gm.1.1.2)] at this; cases this
                · have hij2 := hk i j hi hj (rule_rv (k := 2) (by omega) (by omega) (by
                    show (poP t i j && unlB t c i j) = true
                    unfold unlB
                    rw [hp, hs.2, hid, hjr, Bool.eq_false_iff.2 gap, e, e', decide_eq_false (p := ((k : Int) = _)) (by omega)]; rfl))
                  have := n' k hkl
                  rw [sees g1 (by omega) (.inl (by omega))] at this; cases this
            · rw [g3, g3']
              by_cases hkk : k = k'
              · subst hkk; exact Int.le_refl _
              refine lve hkl hkl' g1 g1' (by omega) ?_
              by_cases g : poP t k i = true
              · exact g5' k hkl (sees g1 (by omega) (.inr (ptr hkl g)))
              · have hki := g4.resolve_right g
                by_cases gap : gapB t i j = true
                · unfold gapB at gap
                  rw [List.any_eq_true] at gap
                  obtain ⟨m, hm, gm⟩ := gap
                  rw [List.mem_range] at hm
                  simp only [btwP, lcB, Bool.and_eq_true, decide_eq_true_eq] at gm
                  have h1 := one hi hm gm.1.1.1 gm.1.2 gm.2
                  have h2 := g5' m hm (sees gm.1.2 (by omega) (.inr gm.1.1.2))
                  omega
                · have hij2 := hk i j hi hj (rule_rv (k := 2) (by omega) (by omega) (by
                    show (poP t i j && unlB t c i j) = true
                    unfold unlB
                    rw [hp, hs.2, hid, hjr, Bool.eq_false_iff.2 gap, e, e', decide_eq_false (p := ((k : Int) = _)) (by omega)]; rfl))
                  exact g5' k hkl (sees g1 (by omega) (.inl (by omega)))
        · rcases rfl_ hj hjr with ⟨e', q', n'⟩ | ⟨k', hkl', e', g1', g2', g3', g4', g5'⟩
          · exfalso
            have := n' i hi
            rw [sees hid hlc (.inr hp)] at this; cases this
          · rw [g3']
            exact lve hi hkl' hid g1' (by omega) (g5' i hi (sees hid hlc (.inr hp)))
    · rw [if_neg hs]
  · refine up_acy (f := f) hb fun a b ha hb' hs => ?_
    unfold rhP exP at hs
    simp only [Bool.or_eq_true, Bool.and_eq_true, Bool.not_eq_true'] at hs
    rcases hs with ((hs | hs) | hs) | hs
    · exact hk a b ha hb' hs
    · obtain ⟨hs, hth⟩ := hs
      unfold rfP at hs
      rw [Bool.and_eq_true, decide_eq_true_eq, decide_eq_true_eq] at hs
      rcases rfl_ hb' hs.1 with ⟨e, _⟩ | ⟨k, hkl, e, g1, g2, g3, g4, _⟩
      · omega
      · obtain rfl : a = k := by omega
        refine g4.resolve_right fun q => ?_
        unfold poP at q
        rw [hth] at q; cases q
    · exact co ha hb' hs
    · have hd : (evi t a).dir = 1 := by unfold frP at hs; rw [Bool.and_eq_true, decide_eq_true_eq] at hs; exact hs.1
      have hlt : ixI (col t c a) (c.rf.getD a default) < ixI (col t c a) b := by unfold frP at hs; rw [Bool.and_eq_true, decide_eq_true_eq, decide_eq_true_eq] at hs; exact hs.2
      obtain ⟨j, hj, e, hjd, hjl⟩ := fr_in ht hc ha hlt
      obtain rfl : b = j := by omega
      apply Classical.byContradiction
      intro hno
      have hne : f a ≠ f b := fun q => by have := hinj _ _ ha hb' q; subst this; omega
      have hsee := sees hjd hjl (.inl (show f b < f a by omega))
      rcases rfl_ ha hd with ⟨e, q, n'⟩ | ⟨k, hkl, e, g1, g2, g3, g4, g5⟩
      · have := n' b hb'; rw [hsee] at this; cases this
      · have h1 := g5 b hb' hsee
        have h2 := lve hb' hkl hjd g1 (by omega) h1
        have h3 := wr_at h hb' hjd
        have h4 := rd_ix h ha hd
        rw [col_same h hjl] at h3
        omega
end
/-- the line of what may be explains it -/
theorem rv_loads {t : Tr} {c : Cd} (h : cdE t c = 0) (hc : cohB t c = true) {f : Nat → Nat} (hf : ∀ a b, a < t.evs.length → b < t.evs.length → rhP t c a b = true → f a < f b) : loadsB t c f = true := by
  obtain ⟨ht, hcb⟩ := cdE_ok h
  have hb := (trOk_lens ht).1
  have hfv := (five h hb).1 hc
  have co : ∀ {a b : Nat}, a < t.evs.length → b < t.evs.length → coP t c a b = true → f a < f b := fun ha hb' q => hf _ _ ha hb' (by unfold rhP; rw [q]; simp)
  have fr : ∀ {a b : Nat}, a < t.evs.length → b < t.evs.length → frP t c a b = true → f a < f b := fun ha hb' q => hf _ _ ha hb' (by unfold rhP; rw [q]; simp)
  unfold loadsB
  rw [Bool.and_eq_true, all_range, all_range]
  constructor
  · intro k hk
    have hkl : k < t.locs.length := by have := ((candB_iff t c).1 hcb).2.1; omega
    unfold upsB
    rw [all_range]
    intro i hi
    unfold upB
    have hnd := co_nodup hcb hkl
    obtain ⟨x, hx, ex, _, lx⟩ := (co_mem hcb hkl).1 (mem_getD.2 ⟨i, by omega, rfl⟩)
    obtain ⟨y, hy, ey, _, ly⟩ := (co_mem hcb hkl).1 (mem_getD.2 ⟨i + 1, by omega, rfl⟩)
    have g1 := ixI_at hnd (show i < (c.co.getD k default).length by omega)
    have g2 := ixI_at hnd (show i + 1 < (c.co.getD k default).length by omega)
    rw [ex] at g1; rw [ey] at g2
    rw [ex, ey, Int.toNat_natCast, Int.toNat_natCast, Bool.not_eq_true', decide_eq_false_iff_not]
    have := co hx hy (by
      unfold coP ahP
      rw [col_eq lx, g1, g2, Bool.and_eq_true, decide_eq_true_eq, decide_eq_true_eq]; omega)
    omega
  · intro r hr
    unfold readB
    rcases trOk_dir ht hr with hd | hd
    · rw [Bool.or_eq_true, decide_eq_true_eq]
      right
      have hlv := rd_ix h hr hd
      have seen : ∀ {w : Nat}, w < t.evs.length → seesB t f r w = true → (evi t w).dir = 2 ∧ (evi t w).loc = (evi t r).loc ∧ levE t c w ≤ levE t c r := fun {w} hw hs => by
        unfold seesB lcB at hs
        simp only [Bool.and_eq_true, Bool.or_eq_true, decide_eq_true_eq] at hs
        obtain ⟨⟨h1, h2⟩, h3⟩ := hs
        refine ⟨h1, h2, ?_⟩
        rcases h3 with h3 | h3
        · apply Classical.byContradiction
          intro hno
          have := fr hr hw (fr_of h hr hw hd h1 h2 (by omega))
          omega
        · rw [po_lt ht hw hr, Bool.and_eq_true, decide_eq_true_eq] at h3
          have := hfv w r h3.1 hr
          unfold okP at this
          rw [if_pos (by rw [h3.2]; exact decide_eq_true h2), if_neg (by omega), decide_eq_true_eq] at this
          exact this
      rcases rf_at h hr hd with ⟨e, h0⟩ | ⟨k, hk, e, hkd, hkl, hl, _⟩
      · rw [e]
        rcases lstW_is (seesB t f r) f t.evs.length with ⟨q, _⟩ | ⟨w, hw, _, q, _⟩
        · exact q.symm
        · exfalso
          obtain ⟨h1, _, h3⟩ := seen hw q
          have := wr_at h hw h1
          omega
      · rw [e]
        have hrf := rf_of h hd e
        have hsk : seesB t f r k = true := by
          unfold seesB lcB
          simp only [Bool.and_eq_true, Bool.or_eq_true, decide_eq_true_eq]
          refine ⟨⟨hkd, hkl⟩, ?_⟩
          by_cases hth : Vw.thB t k r = true
          · exact .inr (rf_po h hc hk hr hrf hth).1
          · refine .inl (hf k r hk hr ?_)
            unfold rhP exP
            rw [hrf, Bool.eq_false_iff.2 hth]; simp
        rcases lstW_is (seesB t f r) f t.evs.length with ⟨_, q⟩ | ⟨w, hw, q, hsw, hmax⟩
        · rw [q k hk] at hsk; cases hsk
        · rw [q]
          obtain ⟨h1, h2, h3⟩ := seen hw hsw
          have h4 := hmax k hk hsk
          have : w = k := by
            rcases Int.lt_trichotomy (levE t c w) (levE t c k) with g | g | g
            · have := co hw hk (co_of h hw hk h1 hkd (by omega) g)
              omega
            · exact lev_inj h hw hk h1 hkd (by omega) g
            · omega
          omega
    · rw [hd]; rfl
end Go.Proofs.YtifgncgiiojikaaGreatDoor
