/- The laws SeqcExplains, SeqcCoherent, walked. -/
import Derived.Test.YtifgncgiiojikaaGreatDoorScG
set_option linter.unusedSimpArgs false
set_option linter.unusedVariables false
namespace Go.Proofs.YtifgncgiiojikaaGreatDoor
open Go Go.Eng Go.Tc Go.Rl Go.Vw
attribute [local irreducible] wpList Code.wp bodyPost Exit.then Exit.inBlock Calls
theorem sc_irr {t : Tr} {c : Cd} (hz : cdE t c = 0) {a : Nat} (ha : a < t.evs.length) : scP t c a a = false := by
  rw [Bool.eq_false_iff]
  intro h
  obtain ⟨ht, hcb⟩ := cdE_ok hz
  unfold scP cmP at h
  simp only [Bool.or_eq_true] at h
  rcases h with h | (h | h) | h
  · rw [po_lt ht ha ha] at h; simp at h
  · unfold rfP at h
    rw [Bool.and_eq_true, decide_eq_true_eq, decide_eq_true_eq] at h
    rcases rf_at hz ha h.1 with ⟨e, _⟩ | ⟨k, _, e, hd, _⟩
    · omega
    · obtain rfl : a = k := by omega
      omega
  · unfold coP ahP at h
    rw [Bool.and_eq_true, decide_eq_true_eq, decide_eq_true_eq] at h
    omega
  · unfold frP at h
    rw [Bool.and_eq_true, decide_eq_true_eq, decide_eq_true_eq] at h
    have hge := ixI_ge (col t c a) (c.rf.getD a default)
    obtain ⟨hd, _⟩ := (in_col hz ha ha).1 (by omega)
    omega
/-- the numbers of a trace's events, rising -/
theorem range_ord (n : Nat) : IsOrd n (List.range n) := ⟨List.nodup_range, fun _ h => List.mem_range.1 h, List.length_range⟩
theorem range_pos {n x : Nat} (hx : x < n) : posN (List.range n) x = x := pos_at List.nodup_range (List.getElem?_range hx)
/-- without a round: what is come to does not come back -/
theorem acy_no_back {t : Tr} (hb : t.evs.length ≤ 64) {p : Nat → Nat → Bool} (ha : acyP t p = true) {a b : Nat} (hA : a < t.evs.length) (hB : b < t.evs.length) (h1 : p a b = true) (h2 : p b a = true) : False := by
  rw [acyP_iff hb] at ha
  exact ha ⟨a, hA, .more (.one (by rw [relOf_bt _ _ hb _ _ hA hB]; exact h1)) (by rw [relOf_bt _ _ hb _ _ hB hA]; exact h2)⟩
section
variable {t : Tr} {c : Cd} (hz : cdE t c = 0) (hone : ∀ i j, i < t.evs.length → j < t.evs.length → Vw.thB t i j = true)
include hz hone
theorem one_sc_up (h : scB t c = true) {a b : Nat} (ha : a < t.evs.length) (hb : b < t.evs.length) (hs : scP t c a b = true) : a < b := by
  have ht := (cdE_ok hz).1
  have h64 := (trOk_lens ht).1
  rcases Nat.lt_trichotomy a b with q | q | q
  · exact q
  · subst q; rw [sc_irr hz ha] at hs; cases hs
  · exfalso
    refine acy_no_back h64 (by rw [← scB_ok hz]; exact h) ha hb hs ?_
    unfold scP
    rw [po_lt ht hb ha, decide_eq_true q, hone b a hb ha]; rfl
theorem one_coh_up (h : cohB t c = true) {a b : Nat} (ha : a < t.evs.length) (hb : b < t.evs.length) (hs : scP t c a b = true) : a < b := by
  obtain ⟨ht, hcb⟩ := cdE_ok hz
  have h64 := (trOk_lens ht).1
  rcases Nat.lt_trichotomy a b with q | q | q
  · exact q
  · subst q; rw [sc_irr hz ha] at hs; cases hs
  · exfalso
    unfold scP at hs
    rw [Bool.or_eq_true] at hs
    rcases hs with hs | hs
    · rw [po_lt ht ha hb, Bool.and_eq_true, decide_eq_true_eq] at hs; omega
    · have hlc : (evi t b).loc = (evi t a).loc := by
        unfold cmP at hs
        simp only [Bool.or_eq_true] at hs
        rcases hs with (hs | hs) | hs
        · unfold rfP at hs
          rw [Bool.and_eq_true, decide_eq_true_eq, decide_eq_true_eq] at hs
          rcases rf_at hz hb hs.1 with ⟨e, _⟩ | ⟨k, _, e, _, hl, _⟩
          · omega
          · obtain rfl : a = k := by omega
            omega
        · unfold coP ahP at hs
          rw [Bool.and_eq_true, decide_eq_true_eq, decide_eq_true_eq] at hs
          exact ((in_col hz ha hb).1 (by omega)).2
        · unfold frP at hs
          rw [Bool.and_eq_true, decide_eq_true_eq, decide_eq_true_eq] at hs
          have hge := ixI_ge (col t c a) (c.rf.getD a default)
          exact ((in_col hz ha hb).1 (by omega)).2
      refine acy_no_back h64 (by rw [← cohB_acy hz]; exact h) ha hb (show hdP t c a b = true by unfold hdP; rw [hs, Bool.or_true]) ?_
      unfold hdP plP lcB
      rw [po_lt ht hb ha, decide_eq_true q, hone b a hb ha, decide_eq_true hlc]; rfl
theorem one_same : scB t c = decide (c.rf = (candO t (List.range t.evs.length)).rf ∧ c.co = (candO t (List.range t.evs.length)).co) ∧ cohB t c = scB t c := by
  have ht := (cdE_ok hz).1
  have h64 := (trOk_lens ht).1
  have hO := range_ord t.evs.length
  constructor
  · rw [Bool.eq_iff_iff, decide_eq_true_eq]
    constructor
    · intro h
      have := candO_eq hz hO fun a b ha hb hs => by rw [range_pos ha, range_pos hb]; exact one_sc_up hz hone h ha hb hs
      rw [this]; exact ⟨rfl, rfl⟩
    · rintro ⟨h1, h2⟩
      have hsc := candO_sc ht hO fun a b ha hb hp => by
        rw [range_pos ha, range_pos hb]
        rw [po_lt ht ha hb, Bool.and_eq_true, decide_eq_true_eq] at hp
        exact hp.1
      have : ∀ x y : Cd, x.rf = y.rf → x.co = y.co → x = y := fun x y => by cases x; cases y; rintro rfl rfl; rfl
      rw [this _ _ h1 h2]; exact hsc
  · rw [Bool.eq_iff_iff]
    constructor
    · intro h
      rw [scB_ok hz]
      exact up_acy (f := fun x => x) h64 fun a b ha hb hs => one_coh_up hz hone h ha hb hs
    · exact sc_coh
end
theorem kind_step {t : Tr} {c : Cd} (hb : t.evs.length ≤ 64) {x y : Nat} (hx : x < t.evs.length) (hy : y < t.evs.length) (h : scP t c x y = true) : StepIs t c x y (kindOf (whyR t c) x y) := by
  have e0 : hasR (whyR t c) 0 x y = poP t x y := hasR_at (p := poP t) (by rfl) hb hx hy
  have e2 : hasR (whyR t c) 2 x y = rfP t c x y := hasR_at (p := rfP t c) (by rfl) hb hx hy
  have e4 : hasR (whyR t c) 4 x y = coP t c x y := hasR_at (p := coP t c) (by rfl) hb hx hy
  have e6 : hasR (whyR t c) 6 x y = frP t c x y := hasR_at (p := frP t c) (by rfl) hb hx hy
  have g9 : (whyR t c).getD 9 default = ((t.evs.length : Int), List.replicate t.evs.length 0#64) := rfl
  have g10 : (whyR t c).getD 10 default = ((t.evs.length : Int), List.replicate t.evs.length 0#64) := rfl
  have e9 : hasR (whyR t c) 9 x y = false := by unfold hasR; rw [g9]; exact has_none
  have e10 : hasR (whyR t c) 10 x y = false := by unfold hasR; rw [g10]; exact has_none
  unfold kindOf StepIs
  rw [e0, e2, e4, e6, e9, e10]
  unfold scP cmP at h
  by_cases k2 : rfP t c x y = true
  · rw [if_pos k2]; exact .inr (.inl ⟨rfl, k2⟩)
  by_cases k4 : coP t c x y = true
  · rw [if_neg k2, if_pos k4]; exact .inr (.inr (.inl ⟨rfl, k4⟩))
  by_cases k6 : frP t c x y = true
  · rw [if_neg k2, if_neg k4, if_pos k6]; exact .inr (.inr (.inr ⟨rfl, k6⟩))
  have hp : poP t x y = true := by
    simp only [Bool.or_eq_true] at h
    rcases h with h | (h | h) | h
    · exact h
    · exact absurd h k2
    · exact absurd h k4
    · exact absurd h k6
  rw [if_neg k2, if_neg k4, if_neg k6, if_neg (by simp), if_neg (by simp), if_pos hp]
  exact .inl ⟨rfl, hp⟩
theorem step_ne {t : Tr} {c : Cd} {x y : Nat} {k : Int} (h : StepIs t c x y k) : ¬ k = 0 := by
  rcases h with ⟨h, _⟩ | ⟨h, _⟩ | ⟨h, _⟩ | ⟨h, _⟩ <;> omega
theorem whyR_ok {t : Tr} {c : Cd} (hb : t.evs.length ≤ 64) : okR (whyR t c) = true ∧ sameN (whyR t c) = true := by
  constructor
  · unfold okR
    rw [List.all_eq_true]
    intro i hi
    have hi' : i < 11 := by rw [List.mem_range] at hi; exact hi
    have hz : relOk (t.evs.length : Int) (List.replicate t.evs.length 0#64) = true := by
      have := relOk_relOf t.evs.length (fun _ _ => false) hb
      rwa [relOf_zero] at this
    have : ∀ p, relOk (t.evs.length : Int) (relOf t.evs.length p) = true := fun p => relOk_relOf t.evs.length p hb
    unfold whyR
    rcases i with _ | _ | _ | _ | _ | _ | _ | _ | _ | _ | _ | i
    all_goals first | exact this _ | exact hz | omega
  · unfold sameN
    rw [List.all_eq_true]
    intro i hi
    have hi' : i < 11 := by rw [List.mem_range] at hi; exact hi
    unfold whyR
    rcases i with _ | _ | _ | _ | _ | _ | _ | _ | _ | _ | _ | i
    all_goals first | exact decide_eq_true rfl | omega
/-- an irreflexive one of the same pairs -/
theorem sc_round {t : Tr} {c : Cd} (hz : cdE t c = 0) (h : scB t c = false) : swhyE t c = 0 ∧ 2 ≤ (swhyL t c).length ∧ (swhyL t c).length ≤ 65 ∧
    ∀ i, i < (swhyL t c).length → ∃ a b : Nat, a < t.evs.length ∧ b < t.evs.length ∧ StepIs t c a b (kindOf (whyR t c) a b) ∧ (swhyL t c).getD i default = ⟨a, b, kindOf (whyR t c) a b⟩ ∧ ((swhyL t c).getD ((i + 1) % (swhyL t c).length) default).src = b := by
  have hb := (trOk_lens (cdE_ok hz).1).1
  obtain ⟨h1, h2⟩ := whyR_ok (t := t) (c := c) hb
  have hE : relOf t.evs.length (fun i j => decide (i < t.evs.length) && scP t c i j) = relOf t.evs.length (scP t c) := relOf_ext fun a b ha _ => by rw [decide_eq_true ha]; rfl
  have hr := arcs_round (t := t) (p := fun i j => decide (i < t.evs.length) && scP t c i j) (R := whyR t c) hb rfl h1 h2
    (fun a b ha hb' q => by
      rw [Bool.and_eq_true] at q
      exact step_ne (kind_step hb ha hb' q.2))
    (fun a => by
      by_cases ha : a < t.evs.length
      · rw [sc_irr hz ha, Bool.and_false]
      · rw [decide_eq_false ha]; rfl)
    (by unfold acyP; rw [hE]; rw [← h, scB_ok hz]; rfl)
  rw [hE] at hr
  obtain ⟨_, r2, r3, r4, r5⟩ := hr
  have eL : swhyL t c = arcsL (whyR t c) (roundS t.evs.length (relOf t.evs.length (scP t c))) := by
    unfold swhyL; rw [if_pos hz, if_neg (by rw [h]; simp)]
  rw [eL]
  refine ⟨?_, r3, r4, fun i hi => ?_⟩
  · unfold swhyE; rw [if_pos hz, if_neg (by rw [h]; simp)]; exact r2
  · obtain ⟨a, b, ha, hb', hp, e1, e2⟩ := r5 i hi
    rw [Bool.and_eq_true] at hp
    exact ⟨a, b, ha, hb', kind_step hb ha hb' hp.2, e1, e2⟩

theorem ints_range_succ (k : Nat) : ints (List.range (k + 1)) = ints (List.range k) ++ [(k : Int)] := by
  unfold ints; rw [List.range_succ, List.map_append]; rfl

end Go.Proofs.YtifgncgiiojikaaGreatDoor
