/- Of one thread: plain; the walks: alembicref07.SameLists, alembictop.same. -/
import Derived.Test.YtifgncgiiojikaaGreatDoorCpy
import Derived.Test.YtifgncgiiojikaaGreatDoorScH
import Derived.Test.YtifgncgiiojikaaGreatDoorRvA
import Derived.Test.YtifgncgiiojikaaGreatDoorG12
set_option linter.unusedSimpArgs false
set_option linter.unusedVariables false
namespace Go.Eng
open Go Go.RowKit
/-- the ways meet again, the block being entered -/
theorem wc_cutB {P : Program} {N : Nat} {Q Q' : Exit → Act → World → Prop} {tm : Tm} {A : World → Prop} {x y : Code} {σ : Type} {id : Nat} (J : σ → Prop) (T : σ → Tm) (I : σ → World → Prop)
    (h : WC P N x (Exit.inBlock id (Exit.then (CQ N J T I) Q')) tm A) (hy : ∀ s, J s → WC P N y Q (T s) (I s)) : WC P N x (Exit.inBlock id (Exit.then (fun a w => y.wp P Q a w) Q')) tm A := by
  unfold WC KP at *
  intro a w hs hw
  have key : ∀ a' w', CQ N J T I a' w' → y.wp P Q a' w' := fun a' w' q => by
    unfold CQ at q
    obtain ⟨s, hJ, hsim, hI⟩ := q
    exact hy s hJ a' w' hsim hI
  refine wp_mono (h a w hs hw) fun e a' w' q => ?_
  cases e with
  | normal => exact key a' w' q
  | exit id' =>
    have q' : (if id' = id then CQ N J T I a' w' else Q' (.exit id') a' w') := q
    show (if id' = id then y.wp P Q a' w' else Q' (.exit id') a' w')
    by_cases e : id' = id
    · rw [if_pos e] at q' ⊢; exact key a' w' q'
    · rw [if_neg e] at q' ⊢; exact q'
  | _ => exact q
end Go.Eng
namespace Go.Vw
open Go Go.Eng Go.Tc Go.Rl
/-- the first so many events alone -/
def aloneT (t : Tr) (n : Nat) : Tr := { t with evs := t.evs.take n, bars := [], addr := [], data := [], ctrl := [], things := [], ends := [] }
end Go.Vw
namespace Go.Proofs.YtifgncgiiojikaaGreatDoor
open Go Go.Eng Go.Tc Go.Rl Go.Vw
attribute [local irreducible] wpList Code.wp bodyPost Exit.then Exit.inBlock Calls
theorem alone_one {t : Tr} {n : Nat} (hI : ∀ j, j < n → (evi t j).thread = (evi t 0).thread) : ∀ i j, i < (aloneT t n).evs.length → j < (aloneT t n).evs.length → Vw.thB (aloneT t n) i j = true := by
  have e : ∀ i, i < (aloneT t n).evs.length → i < n ∧ evi (aloneT t n) i = evi t i := fun i hi => by
    have hi' : i < n := by
      have : (aloneT t n).evs.length = (t.evs.take n).length := rfl
      rw [this, List.length_take] at hi; omega
    refine ⟨hi', ?_⟩
    show (t.evs.take n).getD i default = t.evs.getD i default
    rw [List.getD_eq_getElem?_getD, List.getElem?_take, if_pos hi', ← List.getD_eq_getElem?_getD]
  intro i j hi hj
  unfold Vw.thB
  rw [(e i hi).2, (e j hj).2, decide_eq_true_eq, hI i (e i hi).1, hI j (e j hj).1]
theorem one_all {t : Tr} {c : Cd} (hz : cdE t c = 0) (hone : ∀ i j, i < t.evs.length → j < t.evs.length → Vw.thB t i j = true) :
    scB t c = decide (c.rf = (candO t (List.range t.evs.length)).rf ∧ c.co = (candO t (List.range t.evs.length)).co) ∧ tsB t c = scB t c ∧ rvB t c = scB t c := by
  obtain ⟨h1, h2⟩ := one_same hz hone
  have hts : tsB t c = scB t c := by
    rw [Bool.eq_iff_iff]
    refine ⟨fun h => ?_, sc_ts⟩
    unfold tsB at h
    rw [Bool.and_eq_true] at h
    rw [← h2]; exact h.1
  refine ⟨h1, hts, ?_⟩
  rw [Bool.eq_iff_iff]
  refine ⟨fun h => ?_, fun h => ts_rv (hts ▸ h)⟩
  unfold rvB at h
  rw [Bool.and_eq_true] at h
  rw [← h2]; exact h.1

set_option maxHeartbeats 400000 in
theorem sameInts07_spec (sa sb : Value) (xs ys : List Int) (w : World) (ha : Sl All w Eng.encI 1 sa xs) (hb : Sl All w Eng.encI 1 sb ys) :
    Pur Tryz.prog 51 [sa, sb] w fun _ v _ => v = .bool (decide (xs = ys)) := by
  have hla := ha.le
  have hlb := hb.le
  refine enter_pur Tryz.func51 Tryz.ntmps51 rfl rfl ?_
  refine gO_ ?_
  refine wc_cond rfl (fun h1 => ?_) (fun h1 => ?_)
  · refine gO_ ?_
    refine pur_ret Tryz.results51 (.tmp rfl .nil) (.head _) fun w' hw => ?_
    simp only [Bool.not_eq_true', dc_false] at h1
    have : ¬ (xs = ys) := by rintro h3; subst h3; omega
    rw [decide_eq_false this]; rfl
  · simp only [Bool.not_eq_false', dc_true] at h1
    have hlen' : xs.length = ys.length := by omega
    refine gO_ ?_
    refine wc_loop (fun k : Nat => k ≤ xs.length ∧ ∀ i, i < k → xs.getD i default = ys.getD i default) (fun k => [(5, true, .int .i64 k), (0, true, sa), (1, true, sb)])
      (fun _ => Mem [(w, All)] []) (fun k => xs.length - k) 0 ⟨by omega, fun i hi => by omega⟩ ⟨rfl, rfl, rfl, trivial⟩ (fun _ h => h) ?_
    rintro k ⟨hk, hall⟩
    refine gO_ ?_
    refine wc_cond_dec rfl (fun h2 => ?_) (fun h2 => ?_)
    · have hk1 : k < xs.length := by omega
      have hk2 : k < ys.length := by omega
      refine gO_ ?_
      refine wc_draw [0, 1, 2, 3, 4, 5, 6, 7, 8] mixed ?_
      refine kG_ ?_
      refine gO_ ?_
      refine wc_cond rfl (fun h3 => ?_) (fun h3 => ?_)
      · refine gO_ ?_
        refine pur_ret Tryz.results51 (.tmp rfl .nil) (.head _) fun w' hw => ?_
        simp only [Bool.not_eq_true', dc_false] at h3
        have : ¬ (xs = ys) := by rintro h4; subst h4; exact h3 rfl
        rw [decide_eq_false this]; rfl
      · simp only [Bool.not_eq_false', dc_true] at h3
        refine gO_ ?_
        refine po_loop (k + 1) ⟨by omega, fun i hi => ?_⟩ (by omega) ⟨rfl, rfl, rfl, trivial⟩ (fun _ h => h)
        by_cases hik : i < k
        · exact hall i hik
        · obtain rfl : i = k := by omega
          exact h3
    · refine gO_ ?_
      refine pur_ret Tryz.results51 (.tmp rfl .nil) (.head _) fun w' hw => ?_
      rw [decide_eq_true (getD_eq_of hlen' fun i hi => hall i (by omega))]; rfl


theorem listext2 {xs ys : List (List Int)} (hl : xs.length = ys.length) (h : ∀ i, i < xs.length → xs.getD i default = ys.getD i default) : xs = ys := by
  apply List.ext_getElem hl
  intro i h1 h2
  have := h i h1
  rwa [List.getD_eq_getElem?_getD, List.getD_eq_getElem?_getD, List.getElem?_eq_getElem h1, List.getElem?_eq_getElem h2] at this
set_option maxHeartbeats 1600000 in
theorem samelists_spec (sa sb : Value) (xs ys : List (List Int)) (w : World) (ha : Sl2 All w sa xs) (hb : Sl2 All w sb ys) :
    Pur Tryz.prog 29 [sa, sb] w fun _ v _ => v = .bool (decide (xs = ys)) := by
  obtain ⟨va, hva, hal, hai⟩ := ha
  obtain ⟨vb, hvb, hbl, hbi⟩ := hb
  have hla := hva.le
  have hlb := hvb.le
  have s1 := hva.sv; have s2 := hvb.sv
  refine enter_pur Tryz.func29 Tryz.ntmps29 rfl rfl ?_
  refine gO_ ?_
  refine wc_cond rfl (fun h1 => ?_) (fun h1 => ?_)
  · rw [Bool.not_eq_true', dc_false] at h1
    refine gO_ ?_
    refine pur_ret Tryz.results29 (.tmp rfl .nil) (.head _) fun w' hw => ?_
    have : ¬ (xs = ys) := by rintro h3; subst h3; omega
    rw [decide_eq_false this]; rfl
  · rw [Bool.not_eq_false', dc_true] at h1
    have hlen : va.length = vb.length := by omega
    refine gO_ ?_
    refine wc_loop (fun k : Nat => k ≤ xs.length ∧ ∀ i, i < k → xs.getD i default = ys.getD i default) (fun k => [(5, true, .int .i64 k), (0, true, sa), (1, true, sb)])
      (fun _ => Mem [(w, All)] []) (fun k => xs.length - k) 0 ⟨by omega, fun i hi => by omega⟩ ⟨rfl, rfl, rfl, trivial⟩ (fun _ h => h) ?_
    rintro k ⟨hk, hall⟩
    refine gO_ ?_
    refine wc_cond rfl (fun h2 => ?_) (fun h2 => ?_)
    · have h2' : k < va.length := by rw [dc_true] at h2; omega
      have h2b : k < vb.length := by omega
      have hx := hai k (by omega)
      have hy := hbi k (by omega)
      have sx := hx.sv; have sy := hy.sv
      refine gO_ ?_
      refine wc_draw [0, 1, 2, 3, 4, 5, 6, 7, 8, 9] mixed ?_
      refine kG_ ?_
      refine kg_f _ (h := fx_call (spec := fun w' hw => sameInts07_spec _ _ _ _ w' (hw.now hx (.head _)) (hw.now hy (.head _))) (next := ?_)) (hSS := fun _ h => h)
      rintro v n1 w1 rfl hn1
      refine kp_S ?_ (fun _ h => h.last rfl)
      refine kG_ ?_
      refine gO_ ?_
      refine wc_cond rfl (fun h3 => ?_) (fun h3 => ?_)
      · rw [Bool.not_eq_true', decide_eq_false_iff_not] at h3
        refine gO_ ?_
        refine pur_ret Tryz.results29 (.tmp rfl .nil) (.tail _ (.head _)) fun w' hw => ?_
        have : ¬ (xs = ys) := by rintro h4; subst h4; exact h3 rfl
        rw [decide_eq_false this]; rfl
      · rw [Bool.not_eq_false', decide_eq_true_eq] at h3
        refine gO_ ?_
        refine po_loop (k + 1) ⟨by omega, fun i hi => ?_⟩ (by omega) ⟨rfl, rfl, rfl, trivial⟩ (fun _ h => h.last rfl)
        by_cases hik : i < k
        · exact hall i hik
        · obtain rfl : i = k := by omega
          exact h3
    · refine gO_ ?_
      refine pur_ret Tryz.results29 (.tmp rfl .nil) (.head _) fun w' hw => ?_
      rw [dc_false] at h2
      rw [decide_eq_true (listext2 (by omega) fun i hi => hall i (by omega))]; rfl

set_option maxHeartbeats 1600000 in
theorem same_top_spec (fa oa fb ob : Value) (a b : Cd) (w : World) (ha : CdIn All w fa oa a) (hb : CdIn All w fb ob b) :
    Pur Tryz.prog 11 [.agg #[fa, oa], .agg #[fb, ob]] w fun _ v _ => v = .bool (decide (a.rf = b.rf ∧ a.co = b.co)) := by
  have s1 := ha.rf.sv; have s2 := hb.rf.sv; have s3 := ha.cosv; have s4 := hb.cosv
  have g1 := ha.rf; have g2 := hb.rf; have g3 := ha.co; have g4 := hb.co
  refine enter_pur Tryz.func11 Tryz.ntmps11 rfl rfl ?_
  refine gO_ ?_
  refine wl_fx (fx_box (next := ?_)); intro ba
  refine gO_ ?_
  refine wl_fx (fx_box (next := ?_)); intro bb
  refine gO_ ?_
  refine wl_fx (fx_call (spec := fun w' hw => sameInts_spec fa fb a.rf b.rf w' (hw.now g1 (.head _)) (hw.now g2 (.head _))) (next := ?_))
  rintro v n1 w1 rfl hn1
  refine gO_ ?_
  refine wl_gx (h := gx_call (spec := fun _ w' hw => samelists_spec oa ob a.co b.co w' (hw.now2 g3 (.tail _ (.head _))) (hw.now2 g4 (.tail _ (.head _))))) (next := ?_)
  refine gO_ ?_
  refine pur_ret Tryz.results11 (.tmp rfl .nil) (.tail _ (.head _)) fun w' hw => ?_
  by_cases e1 : a.rf = b.rf <;> by_cases e2 : a.co = b.co <;> simp [e1, e2] <;> rfl
end Go.Proofs.YtifgncgiiojikaaGreatDoor
