/- Plain: the arcs of a round, for any relation whose steps have a kind. -/
import Derived.Test.YtifgncgiiojikaaGreatDoorScA
import Derived.Test.YtifgncgiiojikaaGreatDoorVwQ
set_option linter.unusedSimpArgs false
set_option linter.unusedVariables false
namespace Go.Proofs.YtifgncgiiojikaaGreatDoor
open Go Go.Eng Go.Tc Go.Rl Go.Vw
theorem arcs_round {t : Tr} {p : Nat → Nat → Bool} {R : Rs} (hb : t.evs.length ≤ 64) (hR0 : (R.getD 0 default).1 = t.evs.length) (hokR : okR R = true) (hsame : sameN R = true)
    (hkind : ∀ a b : Nat, a < t.evs.length → b < t.evs.length → p a b = true → ¬ kindOf R a b = 0) (hirr : ∀ a, p a a = false) (hc : acyP t p = false) :
    roundE t.evs.length (relOf t.evs.length p) = 0 ∧ arcsE R (roundS t.evs.length (relOf t.evs.length p)) = 0 ∧ 2 ≤ (arcsL R (roundS t.evs.length (relOf t.evs.length p))).length ∧ (arcsL R (roundS t.evs.length (relOf t.evs.length p))).length ≤ 65 ∧
    ∀ i, i < (arcsL R (roundS t.evs.length (relOf t.evs.length p))).length → ∃ a b : Nat, a < t.evs.length ∧ b < t.evs.length ∧ p a b = true ∧ (arcsL R (roundS t.evs.length (relOf t.evs.length p))).getD i default = ⟨a, b, kindOf R a b⟩ ∧
      ((arcsL R (roundS t.evs.length (relOf t.evs.length p))).getD ((i + 1) % (arcsL R (roundS t.evs.length (relOf t.evs.length p))).length) default).src = b := by
  have ok := relOk_relOf t.evs.length p hb
  unfold acyP acycS at hc
  rw [if_pos ok, Bool.not_eq_false'] at hc
  have hf : ¬ findR (bt (relOf t.evs.length p)) t.evs.length t.evs.length = none := fun q => by
    have := (findR_turns ok).1 q
    rw [Int.toNat_natCast] at hc
    rw [hc] at this; cases this
  have hr : roundE t.evs.length (relOf t.evs.length p) = 0 := by
    unfold roundE
    rw [if_pos ok, Int.toNat_natCast, if_neg hf]
  obtain ⟨⟨f, l⟩, hfl⟩ := Option.ne_none_iff_exists'.1 hf
  have hRd := round_is hfl
  have hS : roundS t.evs.length (relOf t.evs.length p) = ints (roundL (bt (relOf t.evs.length p)) t.evs.length) := by
    unfold roundS; rw [if_pos ok, Int.toNat_natCast]
  have hle := roundS_len t.evs.length (relOf t.evs.length p) ok
  rw [hS] at hle ⊢
  refine ⟨hr, ?_⟩
  clear hr hS
  generalize roundL (bt (relOf t.evs.length p)) t.evs.length = ts at *
  generalize hn : t.evs.length = n at *
  have hil : (ints ts).length = ts.length := by unfold ints; rw [List.length_map]
  have hlt : ∀ i, i < ts.length → ts.getD i default < n := fun i hi => hRd.lt i _ (getD_some hi)
  have hmod : ∀ i, i < ts.length → (i + 1) % ts.length < ts.length := fun i hi => Nat.mod_lt _ (by omega)
  have hstep : ∀ i, i < ts.length → p (ts.getD i default) (ts.getD ((i + 1) % ts.length) default) = true := fun i hi => by
    have := hRd.step i _ _ (getD_some hi) (getD_some (hmod i hi))
    rwa [relOf_bt n _ hb _ _ (hlt i hi) (hlt _ (hmod i hi))] at this
  have hnx : ∀ i, i < ts.length → Go.Vw.nxt (ints ts) i = ((ts.getD ((i + 1) % ts.length) default : Nat) : Int) := fun i hi => by
    unfold Go.Vw.nxt; rw [hil, ints_getD (hmod i hi)]
  have hpos := hRd.pos
  have hnil : ¬ ts.length = 0 := by omega
  have htwo : 2 ≤ ts.length := by
    rcases Nat.lt_or_ge ts.length 2 with q | q
    · exfalso
      have e : ts.length = 1 := by omega
      have := hstep 0 hpos
      rw [e] at this
      have h2 := hirr (ts.getD 0 default)
      have e2 : (0 + 1) % 1 = 0 := rfl
      rw [e2, h2] at this
      cases this
    · exact q
  have hrng : rngL (R.getD 0 default).1 (ints ts) = true := by
    unfold rngL
    rw [List.all_eq_true, hR0]
    intro i hi
    rw [List.mem_range, hil] at hi
    rw [ints_getD hi]
    have := hlt i hi
    simp only [Bool.not_eq_true', Bool.or_eq_false_iff, decide_eq_false_iff_not]
    omega
  have hnamed : named R (ints ts) = true := by
    unfold named
    rw [List.all_eq_true]
    intro i hi
    rw [List.mem_range, hil] at hi
    rw [decide_eq_true_eq, ints_getD hi, hnx i hi]
    exact hkind _ _ (hlt i hi) (hlt _ (hmod i hi)) (hstep i hi)
  have hE : arcsE R (ints ts) = 0 := by
    unfold arcsE
    rw [if_pos hokR, if_pos hsame, if_pos hrng, if_neg (by rw [hil]; exact hnil), if_pos hnamed]
  have hL : arcsL R (ints ts) = (List.range ts.length).map (arc1 R (ints ts)) := by
    unfold arcsL arcsTo; rw [if_pos hE, hil]
  have hLl : (arcsL R (ints ts)).length = ts.length := by rw [hL, List.length_map, List.length_range]
  have hat : ∀ i, i < ts.length → (arcsL R (ints ts)).getD i default = ⟨(ts.getD i default : Nat), (ts.getD ((i + 1) % ts.length) default : Nat), kindOf R (ts.getD i default : Nat) (ts.getD ((i + 1) % ts.length) default : Nat)⟩ := fun i hi => by
    rw [hL, List.getD_eq_getElem?_getD, List.getElem?_map, List.getElem?_range hi]
    show arc1 _ _ _ = _
    unfold arc1
    rw [ints_getD hi, hnx i hi]
  refine ⟨hE, by omega, by omega, fun i hi => ?_⟩
  rw [hLl] at hi ⊢
  refine ⟨ts.getD i default, ts.getD ((i + 1) % ts.length) default, hlt i hi, hlt _ (hmod i hi), hstep i hi, hat i hi, ?_⟩
  rw [hat _ (hmod i hi)]
end Go.Proofs.YtifgncgiiojikaaGreatDoor
