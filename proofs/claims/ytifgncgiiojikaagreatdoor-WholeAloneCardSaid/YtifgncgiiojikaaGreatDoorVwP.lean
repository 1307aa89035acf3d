/- What view.Why tells is a round of steps that are there: plain. -/
import Derived.Test.YtifgncgiiojikaaGreatDoorG23
import Derived.Test.YtifgncgiiojikaaGreatDoorRop
set_option linter.unusedSimpArgs false
set_option linter.unusedVariables false
namespace Go.Proofs.YtifgncgiiojikaaGreatDoor
open Go Go.Eng Go.Tc Go.Rl Go.Vw
theorem hasR_at {R : Rs} {k n : Nat} {p : Nat → Nat → Bool} (h : R.getD k default = ((n : Int), relOf n p)) (hn : n ≤ 64) {a b : Nat} (ha : a < n) (hb : b < n) : hasR R k a b = p a b := by
  unfold hasR
  rw [h]
  show has (n : Int) (relOf n p) a b = _
  rw [Go.Vw.has_bt (relOk_relOf n p hn) ha hb, relOf_bt n p hn a b ha hb]
theorem has_none {n : Nat} {a b : Int} : has n (List.replicate n (0#64)) a b = false := by
  unfold has
  by_cases h : a.toNat < n
  · rw [List.getD_eq_getElem?_getD, List.getElem?_replicate]
    simp [h]
  · rw [List.getD_eq_getElem?_getD, List.getElem?_replicate]
    simp [h]
    intros
    show ((default : W)).getLsbD _ = false
    exact BitVec.getLsbD_zero
/-- the step is there -/
def thereB (t : Tr) (c : Cd) (x : Arc) : Bool :=
  (((decide (x.kind = 1) && has t.evs.length (relOf t.evs.length (plP t)) x.src x.dst) || (decide (x.kind = 2) && has t.evs.length (relOf t.evs.length (rfP t c)) x.src x.dst)) ||
    (decide (x.kind = 3) && has t.evs.length (relOf t.evs.length (coP t c)) x.src x.dst)) || (decide (x.kind = 4) && has t.evs.length (relOf t.evs.length (frP t c)) x.src x.dst)
theorem why_held {t : Tr} {c : Cd} (h : cdE t c = 0) (hc : cohB t c = true) : whyE t c = 4 ∧ whyL t c = [] := by
  obtain ⟨ht, _⟩ := cdE_ok h
  have hb := (trOk_lens ht).1
  have ok := relOk_relOf t.evs.length (hdP t c) hb
  have hr : roundE t.evs.length (relOf t.evs.length (hdP t c)) = 4 := by
    unfold roundE
    unfold cohB acycS at hc
    rw [if_pos h, if_pos ok, Bool.not_eq_true', ] at hc
    rw [if_pos ok, Int.toNat_natCast, if_pos ((findR_turns ok).2 (by rwa [Int.toNat_natCast] at hc))]
  constructor
  · unfold whyE; rw [if_pos h, if_neg (by rw [hr]; decide), hr]
  · unfold whyL; rw [if_neg (fun q => by rw [hr] at q; exact absurd q.2 (by decide))]
theorem ints_getD {ts : List Nat} {i : Nat} (h : i < ts.length) : (ints ts).getD i default = ((ts.getD i default : Nat) : Int) := by
  unfold ints
  rw [List.getD_eq_getElem?_getD, List.getElem?_map, List.getElem?_eq_getElem h, List.getD_eq_getElem?_getD, List.getElem?_eq_getElem h]; rfl
theorem getD_some {α : Type} [Inhabited α] {l : List α} {i : Nat} (h : i < l.length) : l[i]? = some (l.getD i default) := by
  rw [List.getD_eq_getElem?_getD, List.getElem?_eq_getElem h]; rfl
theorem why_round {t : Tr} {c : Cd} (h : cdE t c = 0) (hc : cohB t c = false) : whyE t c = 0 ∧ 0 < (whyL t c).length ∧ (whyL t c).length ≤ 65 ∧
    ∀ i, i < (whyL t c).length → ((whyL t c).getD ((i + 1) % (whyL t c).length) default).src = ((whyL t c).getD i default).dst ∧ thereB t c ((whyL t c).getD i default) = true := by
  obtain ⟨ht, _⟩ := cdE_ok h
  have hb := (trOk_lens ht).1
  have ok := relOk_relOf t.evs.length (hdP t c) hb
  unfold cohB acycS at hc
  rw [if_pos h, if_pos ok, Bool.not_eq_false'] at hc
  have hf : ¬ findR (bt (relOf t.evs.length (hdP t c))) t.evs.length t.evs.length = none := fun q => by
    have := (findR_turns ok).1 q
    rw [Int.toNat_natCast] at hc
    rw [hc] at this; cases this
  have hr : roundE t.evs.length (relOf t.evs.length (hdP t c)) = 0 := by
    unfold roundE
    rw [if_pos ok, Int.toNat_natCast, if_neg hf]
  obtain ⟨⟨f, l⟩, hfl⟩ := Option.ne_none_iff_exists'.1 hf
  have hR := round_is hfl
  have hS : roundS t.evs.length (relOf t.evs.length (hdP t c)) = ints (roundL (bt (relOf t.evs.length (hdP t c))) t.evs.length) := by
    unfold roundS; rw [if_pos ok, Int.toNat_natCast]
  have hle := roundS_len t.evs.length (relOf t.evs.length (hdP t c)) ok
  have hwE : whyE t c = arcsE (whyR t c) (ints (roundL (bt (relOf t.evs.length (hdP t c))) t.evs.length)) := by
    unfold whyE; rw [if_pos h, if_pos hr, hS]
  have hwL : whyL t c = arcsL (whyR t c) (ints (roundL (bt (relOf t.evs.length (hdP t c))) t.evs.length)) := by
    unfold whyL; rw [if_pos ⟨h, hr⟩, hS]
  rw [hS] at hle
  generalize roundL (bt (relOf t.evs.length (hdP t c))) t.evs.length = ts at *
  generalize hn : t.evs.length = n at *
  have hil : (ints ts).length = ts.length := by unfold ints; rw [List.length_map]
  have hlt : ∀ i, i < ts.length → ts.getD i default < n := fun i hi => hR.lt i _ (getD_some hi)
  have hmod : ∀ i, i < ts.length → (i + 1) % ts.length < ts.length := fun i hi => Nat.mod_lt _ (by omega)
  have hstep : ∀ i, i < ts.length → hdP t c (ts.getD i default) (ts.getD ((i + 1) % ts.length) default) = true := fun i hi => by
    have := hR.step i _ _ (getD_some hi) (getD_some (hmod i hi))
    rwa [relOf_bt n _ hb _ _ (hlt i hi) (hlt _ (hmod i hi))] at this
  have hnx : ∀ i, i < ts.length → Go.Vw.nxt (ints ts) i = ((ts.getD ((i + 1) % ts.length) default : Nat) : Int) := fun i hi => by
    unfold Go.Vw.nxt; rw [hil, ints_getD (hmod i hi)]
  have g0 : (whyR t c).getD 0 default = ((n : Int), relOf n (poP t)) := by unfold whyR; rw [hn]; rfl
  have g2 : (whyR t c).getD 2 default = ((n : Int), relOf n (rfP t c)) := by unfold whyR; rw [hn]; rfl
  have g4 : (whyR t c).getD 4 default = ((n : Int), relOf n (coP t c)) := by unfold whyR; rw [hn]; rfl
  have g6 : (whyR t c).getD 6 default = ((n : Int), relOf n (frP t c)) := by unfold whyR; rw [hn]; rfl
  have g9 : (whyR t c).getD 9 default = ((n : Int), List.replicate n 0#64) := by unfold whyR; rw [hn]; rfl
  have g10 : (whyR t c).getD 10 default = ((n : Int), List.replicate n 0#64) := by unfold whyR; rw [hn]; rfl
  have hkind : ∀ a b : Nat, a < n → b < n → hdP t c a b = true → ¬ kindOf (whyR t c) a b = 0 ∧ thereB t c ⟨a, b, kindOf (whyR t c) a b⟩ = true := fun a b ha hb' hd => by
    have e0 := hasR_at g0 hb ha hb'
    have e2 := hasR_at g2 hb ha hb'
    have e4 := hasR_at g4 hb ha hb'
    have e6 := hasR_at g6 hb ha hb'
    have e9 : hasR (whyR t c) 9 a b = false := by unfold hasR; rw [g9]; exact has_none
    have e10 : hasR (whyR t c) 10 a b = false := by unfold hasR; rw [g10]; exact has_none
    have q : ∀ p : Nat → Nat → Bool, has (n : Int) (relOf n p) a b = p a b := fun p => by rw [Go.Vw.has_bt (relOk_relOf n p hb) ha hb', relOf_bt n p hb a b ha hb']
    unfold thereB
    simp only [hn, q]
    unfold kindOf
    rw [e0, e2, e4, e6, e9, e10]
    unfold hdP cmP at hd
    by_cases k2 : rfP t c a b = true
    · rw [if_pos k2]; simp [k2]
    by_cases k4 : coP t c a b = true
    · rw [if_neg k2, if_pos k4]; simp [k4]
    by_cases k6 : frP t c a b = true
    · rw [if_neg k2, if_neg k4, if_pos k6]; simp [k6]
    rw [Bool.not_eq_true] at k2 k4 k6
    rw [k2, k4, k6] at hd
    have hp : plP t a b = true := by simpa using hd
    have h0 : poP t a b = true := by unfold plP at hp; rw [Bool.and_eq_true] at hp; exact hp.1
    rw [k2, k4, k6, h0, hp]
    simp
  have hnil : ¬ ts.length = 0 := by have := hR.pos; omega
  have hokR : okR (whyR t c) = true := by
    unfold okR
    rw [List.all_eq_true]
    intro i hi
    have hi' : i < 11 := by rw [List.mem_range] at hi; exact hi
    have hz : relOk (n : Int) (List.replicate n 0#64) = true := by
      have := relOk_relOf n (fun _ _ => false) hb
      rwa [relOf_zero] at this
    have : ∀ p, relOk (n : Int) (relOf n p) = true := fun p => relOk_relOf n p hb
    unfold whyR
    rw [hn]
    rcases i with _ | _ | _ | _ | _ | _ | _ | _ | _ | _ | _ | i
    all_goals first | exact this _ | exact hz | omega
  have hsame : sameN (whyR t c) = true := by
    unfold sameN
    rw [List.all_eq_true]
    intro i hi
    have hi' : i < 11 := by rw [List.mem_range] at hi; exact hi
    unfold whyR
    rcases i with _ | _ | _ | _ | _ | _ | _ | _ | _ | _ | _ | i
    all_goals first | exact decide_eq_true rfl | omega
  have hrng : rngL ((whyR t c).getD 0 default).1 (ints ts) = true := by
    unfold rngL
    rw [List.all_eq_true, g0]
    intro i hi
    rw [List.mem_range, hil] at hi
    rw [ints_getD hi]
    have := hlt i hi
    simp only [Bool.not_eq_true', Bool.or_eq_false_iff, decide_eq_false_iff_not]
    omega
  have hnamed : named (whyR t c) (ints ts) = true := by
    unfold named
    rw [List.all_eq_true]
    intro i hi
    rw [List.mem_range, hil] at hi
    rw [decide_eq_true_eq, ints_getD hi, hnx i hi]
    exact (hkind _ _ (hlt i hi) (hlt _ (hmod i hi)) (hstep i hi)).1
  have hE : arcsE (whyR t c) (ints ts) = 0 := by
    unfold arcsE
    rw [if_pos hokR, if_pos hsame, if_pos hrng, if_neg (by rw [hil]; exact hnil), if_pos hnamed]
  have hL : whyL t c = (List.range ts.length).map (arc1 (whyR t c) (ints ts)) := by
    rw [hwL]; unfold arcsL arcsTo; rw [if_pos hE, hil]
  have hLl : (whyL t c).length = ts.length := by rw [hL, List.length_map, List.length_range]
  have hat : ∀ i, i < ts.length → (whyL t c).getD i default = ⟨(ts.getD i default : Nat), (ts.getD ((i + 1) % ts.length) default : Nat), kindOf (whyR t c) (ts.getD i default : Nat) (ts.getD ((i + 1) % ts.length) default : Nat)⟩ := fun i hi => by
    rw [hL, List.getD_eq_getElem?_getD, List.getElem?_map, List.getElem?_range hi]
    show arc1 _ _ _ = _
    unfold arc1
    rw [ints_getD hi, hnx i hi]
  refine ⟨by rw [hwE, hE], by rw [hLl]; exact hR.pos, by rw [hLl, ← hil]; exact hle, fun i hi => ?_⟩
  rw [hLl] at hi
  rw [hLl, hat i hi, hat _ (hmod i hi)]
  exact ⟨rfl, (hkind _ _ (hlt i hi) (hlt _ (hmod i hi)) (hstep i hi)).2⟩
end Go.Proofs.YtifgncgiiojikaaGreatDoor
