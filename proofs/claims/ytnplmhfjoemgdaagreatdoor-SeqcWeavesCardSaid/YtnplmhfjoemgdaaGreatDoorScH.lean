/- The laws SeqcExplains, SeqcCoherent, walked. -/
import Derived.Test.YtnplmhfjoemgdaaGreatDoorScG
set_option linter.unusedSimpArgs false
set_option linter.unusedVariables false
namespace Go.Proofs.YtnplmhfjoemgdaaGreatDoor
open Go Go.Eng Go.Tc Go.Rl Go.Vw
attribute [local irreducible] wpList Code.wp bodyPost Exit.then Exit.inBlock Calls
theorem sc_irr {t : Tr} {c : Cd} (hz : cdE t c = 0) {a : Nat} (ha : a < t.evs.length) : scP t c a a = false := by
  rw [Bool.eq_false_iff]
  intro h
  obtain ⟨ht, hcb⟩ := cdE_ok hz
  unfold scP cmP at h
  simp only [Bool.or_eq_true] at h
  rcases h with h | (h | h) | h
  · rw [po_lt ht ha ha] at h; simp at h
  · unfold rfP at h
    rw [Bool.and_eq_true, decide_eq_true_eq, decide_eq_true_eq] at h
    rcases rf_at hz ha h.1 with ⟨e, _⟩ | ⟨k, _, e, hd, _⟩
    · omega
    · obtain rfl : a = k := by omega
      omega
  · unfold coP ahP at h
    rw [Bool.and_eq_true, decide_eq_true_eq, decide_eq_true_eq] at h
    omega
  · unfold frP at h
    rw [Bool.and_eq_true, decide_eq_true_eq, decide_eq_true_eq] at h
    have hge := ixI_ge (col t c a) (c.rf.getD a default)
    obtain ⟨hd, _⟩ := (in_col hz ha ha).1 (by omega)
    omega
/-- the numbers of a trace's events, rising -/
theorem range_ord (n : Nat) : IsOrd n (List.range n) := ⟨List.nodup_range, fun _ h => List.mem_range.1 h, List.length_range⟩
theorem range_pos {n x : Nat} (hx : x < n) : posN (List.range n) x = x := pos_at List.nodup_range (List.getElem?_range hx)
/-- without a round: what is come to does not come back -/
theorem acy_no_back {t : Tr} (hb : t.evs.length ≤ 64) {p : Nat → Nat → Bool} (ha : acyP t p = true) {a b : Nat} (hA : a < t.evs.length) (hB : b < t.evs.length) (h1 : p a b = true) (h2 : p b a = true) : False := by
  rw [acyP_iff hb] at ha
  exact ha ⟨a, hA, .more (.one (by rw [relOf_bt _ _ hb _ _ hA hB]; exact h1)) (by rw [relOf_bt _ _ hb _ _ hB hA]; exact h2)⟩
section
variable {t : Tr} {c : Cd} (hz : cdE t c = 0) (hone : ∀ i j, i < t.evs.length → j < t.evs.length → Vw.thB t i j = true)
include hz hone
theorem one_sc_up (h : scB t c = true) {a b : Nat} (ha : a < t.evs.length) (hb : b < t.evs.length) (hs : scP t c a b = true) : a < b := by
  have ht := (cdE_ok hz).1
  have h64 := (trOk_lens ht).1
  rcases Nat.lt_trichotomy a b with q | q | q
  · exact q
  · subst q; rw [sc_irr hz ha] at hs; cases hs
  · exfalso
    refine acy_no_back h64 (by rw [← scB_ok hz]; exact h) ha hb hs ?_
    unfold scP
    rw [po_lt ht hb ha, decide_eq_true q, hone b a hb ha]; rfl
theorem one_coh_up (h : cohB t c = true) {a b : Nat} (ha : a < t.evs.length) (hb : b < t.evs.length) (hs : scP t c a b = true) : a < b := by
  obtain ⟨ht, hcb⟩ := cdE_ok hz
  have h64 := (trOk_lens ht).1
  rcases Nat.lt_trichotomy a b with q | q | q
  · exact q
  · subst q; rw [sc_irr hz ha] at hs; cases hs
  · exfalso
    unfold scP at hs
    rw [Bool.or_eq_true] at hs
    rcases hs with hs | hs
    · rw [po_lt ht ha hb, Bool.and_eq_true, decide_eq_true_eq] at hs; omega
    · have hlc : (evi t b).loc = (evi t a).loc := by
        unfold cmP at hs
        simp only [Bool.or_eq_true] at hs
        rcases hs with (hs | hs) | hs
        · unfold rfP at hs
          rw [Bool.and_eq_true, decide_eq_true_eq, decide_eq_true_eq] at hs
          rcases rf_at hz hb hs.1 with ⟨e, _⟩ | ⟨k, _, e, _, hl, _⟩
          · omega
          · obtain rfl : a = k := by omega
            omega
        · unfold coP ahP at hs
          rw [Bool.and_eq_true, decide_eq_true_eq, decide_eq_true_eq] at hs
          exact ((in_col hz ha hb).1 (by omega)).2
        · unfold frP at hs
          rw [Bool.and_eq_true, decide_eq_true_eq, decide_eq_true_eq] at hs
          have hge := ixI_ge (col t c a) (c.rf.getD a default)
          exact ((in_col hz ha hb).1 (by omega)).2
      refine acy_no_back h64 (by rw [← cohB_acy hz]; exact h) ha hb (show hdP t c a b = true by unfold hdP; rw [hs, Bool.or_true]) ?_
      unfold hdP plP lcB
      rw [po_lt ht hb ha, decide_eq_true q, hone b a hb ha, decide_eq_true hlc]; rfl
theorem one_same : scB t c = decide (c.rf = (candO t (List.range t.evs.length)).rf ∧ c.co = (candO t (List.range t.evs.length)).co) ∧ cohB t c = scB t c := by
  have ht := (cdE_ok hz).1
  have h64 := (trOk_lens ht).1
  have hO := range_ord t.evs.length
  constructor
  · rw [Bool.eq_iff_iff, decide_eq_true_eq]
    constructor
    · intro h
      have := candO_eq hz hO fun a b ha hb hs => by rw [range_pos ha, range_pos hb]; exact one_sc_up hz hone h ha hb hs
      rw [this]; exact ⟨rfl, rfl⟩
    · rintro ⟨h1, h2⟩
      have hsc := candO_sc ht hO fun a b ha hb hp => by
        rw [range_pos ha, range_pos hb]
        rw [po_lt ht ha hb, Bool.and_eq_true, decide_eq_true_eq] at hp
        exact hp.1
      have : ∀ x y : Cd, x.rf = y.rf → x.co = y.co → x = y := fun x y => by cases x; cases y; rintro rfl rfl; rfl
      rw [this _ _ h1 h2]; exact hsc
  · rw [Bool.eq_iff_iff]
    constructor
    · intro h
      rw [scB_ok hz]
      exact up_acy (f := fun x => x) h64 fun a b ha hb hs => one_coh_up hz hone h ha hb hs
    · exact sc_coh
end
theorem kind_step {t : Tr} {c : Cd} (hb : t.evs.length ≤ 64) {x y : Nat} (hx : x < t.evs.length) (hy : y < t.evs.length) (h : scP t c x y = true) : StepIs t c x y (kindOf (whyR t c) x y) := by
  have e0 : hasR (whyR t c) 0 x y = poP t x y := hasR_at (p := poP t) (by rfl) hb hx hy
  have e2 : hasR (whyR t c) 2 x y = rfP t c x y := hasR_at (p := rfP t c) (by rfl) hb hx hy
  have e4 : hasR (whyR t c) 4 x y = coP t c x y := hasR_at (p := coP t c) (by rfl) hb hx hy
  have e6 : hasR (whyR t c) 6 x y = frP t c x y := hasR_at (p := frP t c) (by rfl) hb hx hy
  have g9 : (whyR t c).getD 9 default = ((t.evs.length : Int), List.replicate t.evs.length 0#64) := rfl
  have g10 : (whyR t c).getD 10 default = ((t.evs.length : Int), List.replicate t.evs.length 0#64) := rfl
  have e9 : hasR (whyR t c) 9 x y = false := by unfold hasR; rw [g9]; exact has_none
  have e10 : hasR (whyR t c) 10 x y = false := by unfold hasR; rw [g10]; exact has_none
  unfold kindOf StepIs
  rw [e0, e2, e4, e6, e9, e10]
  unfold scP cmP at h
  by_cases k2 : rfP t c x y = true
  · rw [if_pos k2]; exact .inr (.inl ⟨rfl, k2⟩)
  by_cases k4 : coP t c x y = true
  · rw [if_neg k2, if_pos k4]; exact .inr (.inr (.inl ⟨rfl, k4⟩))
  by_cases k6 : frP t c x y = true
  · rw [if_neg k2, if_neg k4, if_pos k6]; exact .inr (.inr (.inr ⟨rfl, k6⟩))
  have hp : poP t x y = true := by
    simp only [Bool.or_eq_true] at h
    rcases h with h | (h | h) | h
    · exact h
    · exact absurd h k2
    · exact absurd h k4
    · exact absurd h k6
  rw [if_neg k2, if_neg k4, if_neg k6, if_neg (by simp), if_neg (by simp), if_pos hp]
  exact .inl ⟨rfl, hp⟩
theorem step_ne {t : Tr} {c : Cd} {x y : Nat} {k : Int} (h : StepIs t c x y k) : ¬ k = 0 := by
  rcases h with ⟨h, _⟩ | ⟨h, _⟩ | ⟨h, _⟩ | ⟨h, _⟩ <;> omega
theorem whyR_ok {t : Tr} {c : Cd} (hb : t.evs.length ≤ 64) : okR (whyR t c) = true ∧ sameN (whyR t c) = true := by
  constructor
  · unfold okR
    rw [List.all_eq_true]
    intro i hi
    have hi' : i < 11 := by rw [List.mem_range] at hi; exact hi
    have hz : relOk (t.evs.length : Int) (List.replicate t.evs.length 0#64) = true := by
      have := relOk_relOf t.evs.length (fun _ _ => false) hb
      rwa [relOf_zero] at this
    have : ∀ p, relOk (t.evs.length : Int) (relOf t.evs.length p) = true := fun p => relOk_relOf t.evs.length p hb
    unfold whyR
    rcases i with _ | _ | _ | _ | _ | _ | _ | _ | _ | _ | _ | i
    all_goals first | exact this _ | exact hz | omega
  · unfold sameN
    rw [List.all_eq_true]
    intro i hi
    have hi' : i < 11 := by rw [List.mem_range] at hi; exact hi
    unfold whyR
    rcases i with _ | _ | _ | _ | _ | _ | _ | _ | _ | _ | _ | i
    all_goals first | exact decide_eq_true rfl | omega
/-- an irreflexive one of the same pairs -/
theorem sc_round {t : Tr} {c : Cd} (hz : cdE t c = 0) (h : scB t c = false) : swhyE t c = 0 ∧ 2 ≤ (swhyL t c).length ∧ (swhyL t c).length ≤ 65 ∧
    ∀ i, i < (swhyL t c).length → ∃ a b : Nat, a < t.evs.length ∧ b < t.evs.length ∧ StepIs t c a b (kindOf (whyR t c) a b) ∧ (swhyL t c).getD i default = ⟨a, b, kindOf (whyR t c) a b⟩ ∧ ((swhyL t c).getD ((i + 1) % (swhyL t c).length) default).src = b := by
  have hb := (trOk_lens (cdE_ok hz).1).1
  obtain ⟨h1, h2⟩ := whyR_ok (t := t) (c := c) hb
  have hE : relOf t.evs.length (fun i j => decide (i < t.evs.length) && scP t c i j) = relOf t.evs.length (scP t c) := relOf_ext fun a b ha _ => by rw [decide_eq_true ha]; rfl
  have hr := arcs_round (t := t) (p := fun i j => decide (i < t.evs.length) && scP t c i j) (R := whyR t c) hb rfl h1 h2
    (fun a b ha hb' q => by
      rw [Bool.and_eq_true] at q
      exact step_ne (kind_step hb ha hb' q.2))
    (fun a => by
      by_cases ha : a < t.evs.length
      · rw [sc_irr hz ha, Bool.and_false]
      · rw [decide_eq_false ha]; rfl)
    (by unfold acyP; rw [hE]; rw [← h, scB_ok hz]; rfl)
  rw [hE] at hr
  obtain ⟨_, r2, r3, r4, r5⟩ := hr
  have eL : swhyL t c = arcsL (whyR t c) (roundS t.evs.length (relOf t.evs.length (scP t c))) := by
    unfold swhyL; rw [if_pos hz, if_neg (by rw [h]; simp)]
  rw [eL]
  refine ⟨?_, r3, r4, fun i hi => ?_⟩
  · unfold swhyE; rw [if_pos hz, if_neg (by rw [h]; simp)]; exact r2
  · obtain ⟨a, b, ha, hb', hp, e1, e2⟩ := r5 i hi
    rw [Bool.and_eq_true] at hp
    exact ⟨a, b, ha, hb', kind_step hb ha hb' hp.2, e1, e2⟩

set_option maxRecDepth 8000 in
set_option maxHeartbeats 12800000 in
theorem seqcExplains_spec {lv iv ev bv av dv cv tv nv : Value} {t : Tr} (fv ov : Value) (c : Cd) (w : World) (h : TrIn All w lv iv ev bv av dv cv tv nv t) (hc : CdIn All w fv ov c) (hT : Tab w) :
    Pur Tryz.prog 7 [.agg #[lv, iv, ev, bv, av, dv, cv, tv, nv], .agg #[fv, ov]] w fun _ v _ => v = .bool true := by
  have hfs := hc.rf.sv
  have hos := hc.cosv
  refine enter_pur Tryz.func7 Tryz.ntmps7 rfl rfl ?_
  refine gO_ ?_
  refine wl_fx (fx_box (next := ?_)); intro bT
  refine gO_ ?_
  refine wl_fx (fx_box (next := ?_)); intro bC
  refine gO_ ?_
  refine wl_fx (fx_call (spec := fun w' hw => scons_spec fv ov c w' (h.now hw (.head _)) (hc.now hw (.head _)) (hT.now hw (.head _))) (next := ?_))
  rintro v n1 w1 rfl hn1
  refine gO_ ?_
  refine wc_cond rfl (fun h1 => ?_) (fun h1 => ?_)
  · rw [Bool.not_eq_true', dc_false] at h1
    rw [scB_bad h1]
    refine gO_ ?_
    refine wl_fx (fx_call (spec := fun w' hw => rCheck_spec fv ov c w' (h.now hw (.tail _ (.head _))) (hc.now hw (.tail _ (.head _)))) (next := ?_))
    rintro v n2 w2 rfl hn2
    refine gO_ ?_
    refine wl_gx (h := gx_call (spec := fun _ w' hw => sawake_spec w' (hT.now hw (.tail _ (.tail _ (.head _)))))) (next := ?_)
    refine gO_ ?_
    refine pur_ret Tryz.results7 (.tmp rfl .nil) (.tail _ (.tail _ (.head _))) fun w' hw => ?_
    simp [dc_eq]
    rfl
  · rw [Bool.not_eq_false', dc_true] at h1
    have hz := h1
    have ht := (cdE_ok hz).1
    have hb := (trOk_lens ht).1
    refine gO_ ?_
    refine wl_fx (fx_call_mk (spec := fun w' hw => sord_spec fv ov c w' (h.now hw (.tail _ (.head _))) (hc.now hw (.tail _ (.head _))) (hT.now hw (.tail _ (.head _)))) (next := ?_))
    rintro v n2 es w2 ⟨pv, hpv, rfl, rfl⟩
    refine gO_ ?_
    refine wl_fx (fx_call_mk (spec := fun w' hw => swhy_spec fv ov c w' (h.now hw (.tail _ (.tail _ (.head _)))) (hc.now hw (.tail _ (.tail _ (.head _)))) (hT.now hw (.tail _ (.tail _ (.head _))))) (next := ?_))
    rintro v n3 es w3 ⟨a1, ha1, rfl, rfl⟩
    refine gO_ ?_
    refine wc_cond rfl (fun h2 => ?_) (fun h2 => ?_)
    · have hac : acyP t (scP t c) = true := by rw [← scB_ok hz]; exact h2
      obtain ⟨_, hlS, hTp, hlen⟩ := line_free hb hac
      have hoE : sordE t c = 0 := by unfold sordE; rw [if_pos hz, if_pos h2]
      have hoL : sordL t c = ints (lN t.evs.length (Rl.bt (relOf t.evs.length (scP t c))) t.evs.length) := by unfold sordL; rw [if_pos h2, hlS]
      have hwE : swhyE t c = 4 := by unfold swhyE; rw [if_pos hz, if_pos h2]
      have hwL : swhyL t c = [] := by unfold swhyL; rw [if_pos hz, if_pos h2]
      rw [hoE, hoL, hwE, hwL]
      generalize lN t.evs.length (Rl.bt (relOf t.evs.length (scP t c))) t.evs.length = ts at *
      have hO : IsOrd t.evs.length ts := ⟨hTp.nodup, hTp.lt, hlen⟩
      have hup : ∀ a b, a < t.evs.length → b < t.evs.length → scP t c a b = true → posN ts a < posN ts b := fun a b ha hb' q => topo_pos hTp hlen ha hb' (by rw [relOf_bt _ _ hb _ _ ha hb']; exact q)
      have hk : ∀ a b, a < t.evs.length → b < t.evs.length → poP t a b = true → posN ts a < posN ts b := fun a b ha hb' q => hup a b ha hb' (by unfold scP; rw [q]; rfl)
      have hcand := candO_eq hz hO hup
      refine gO_ ?_
      refine wl_fx (fx_call (spec := fun w' hw => scand_ok pv ts w' (h.now hw (.tail _ (.tail _ (.tail _ (.head _))))) (hw.lend (.tail _ (.head _))) ht hO hk) (next := ?_))
      rintro v n4 w4 ⟨rv, qv, rfl, hCd⟩ hn4
      rw [hcand] at hCd
      have hsr := hCd.rf.sv
      have hsq := hCd.cosv
      refine gO_ ?_
      refine wl_fx (fx_alloc (next := ?_)); intro b11
      refine gO_ ?_
      refine wl_fx (fx_store_box (i := 0) (hi := rfl) (next := ?_))
      refine gO_ ?_
      refine wl_gx (h := gx_call (spec := fun _ w' hw => isorder_ok pv ts w' (h.now hw (.tail _ (.tail _ (.tail _ (.tail _ (.head _)))))) (hw.lend (.tail _ (.tail _ (.head _)))) hO hb)) (next := ?_)
      refine gO_ ?_
      refine wl_gx (h := gx_call (spec := fun _ w' hw => keeps_ok pv ts w' (h.now hw (.tail _ (.tail _ (.tail _ (.tail _ (.head _)))))) (hw.lend (.tail _ (.tail _ (.head _)))) hO hk)) (next := ?_)
      refine gO_ ?_
      refine wl_gx (h := gx_call (spec := fun _ w' hw => same16_spec rv qv fv ov c c w' (hCd.now hw (.head _)) (hc.now hw (.tail _ (.tail _ (.tail _ (.tail _ (.head _)))))))) (next := ?_)
      refine gO_ ?_
      refine wl_gx (h := gx_call (spec := fun _ w' hw => sawake_spec w' (hT.now hw (.tail _ (.tail _ (.tail _ (.tail _ (.head _)))))))) (next := ?_)
      refine gO_ ?_
      refine pur_ret Tryz.results7 (.tmp rfl .nil) (.tail _ (.tail _ (.tail _ (.tail _ (.head _))))) fun w' hw => ?_
      simp [dc_eq]
      rfl
    · obtain ⟨hwE, hl2, hl65, hstep⟩ := sc_round hz h2
      have hoE : sordE t c = 181 := by unfold sordE; rw [if_pos hz, if_neg (by rw [h2]; simp)]
      have hoL : sordL t c = [] := by unfold sordL; rw [if_neg (by rw [h2]; simp)]
      rw [hoE, hoL, hwE]
      generalize swhyL t c = L at *
      refine gO_ ?_
      refine wc_cond rfl (fun h3 => ?_) (fun h3 => ?_)
      · exfalso
        simp [dc_eq] at h3
        omega
      clear h3
      refine gO_ ?_
      refine wc_loop (fun i : Nat => i ≤ L.length) (fun i => [(13, true, .int .i64 i), (9, true, a1), (3, true, .pointer (some ⟨bC, 0, none⟩)), (2, true, .pointer (some ⟨bT, 0, none⟩))])
        (fun i => Mem [(w, All)] [.own a1 62 3 encArc L, .box bC [fv, ov] 42, .box bT [lv, iv, ev, bv, av, dv, cv, tv, nv] 30]) (fun i => L.length - i) 0 (Nat.zero_le _) ⟨rfl, rfl, rfl, rfl, trivial⟩ (fun _ h => (h.last rfl).sel [0, 2, 3] rfl (by decide)) ?_
      intro i hi
      refine gO_ ?_
      refine wc_cond rfl (fun h4 => ?_) (fun h4 => ?_)
      · have h4' : i < L.length := by rw [dc_true] at h4; omega
        have hm : (i + 1) % L.length < L.length := Nat.mod_lt _ (by omega)
        obtain ⟨a, b, ha, hb', hst, e1, e2⟩ := hstep i h4'
        have e3 : (L.getD i default).dst = (b : Int) := by rw [e1]
        refine gO_ ?_
        refine wc_drawS (Mem [(w, All)] [.own a1 62 3 encArc L, .box bC [fv, ov] 42, .box bT [lv, iv, ev, bv, av, dv, cv, tv, nv] 30]) [0, 1, 2, 3, 4, 5, 6, 7, 8, 9, 10, 11, 12, 13, 14, 15, 16, 17, 18, 19, 20, 21, 22, 23, 24] mixed (fun _ h => h) ?_
        refine kG_ ?_
        rw [e2, e3, show dc ((b : Int) = (b : Int)) = true by rw [dc_true]]
        refine kG_ ?_
        rw [e1]
        refine kg_gyes _ (hb := by simp [dc_eq]) (hSS := fun _ h => h) (h := fx_call (spec := fun w' hw => step_ok fv ov c a b (kindOf (whyR t c) a b) w' (h.now hw (.head _)) (hc.now hw (.head _)) hz ha hb' hst) (next := ?_))
        rintro v n5 w5 rfl hn5
        refine kp_S ?_ (fun _ h => h.tailB)
        refine kG_ ?_
        refine gO_ ?_
        refine wc_cond rfl (fun h5 => ?_) (fun h5 => ?_)
        · simp [dc_eq] at h5
        · refine gO_ ?_
          exact po_loop (i + 1) (by omega) (by omega) ⟨rfl, rfl, rfl, rfl, trivial⟩ (fun _ h => h.last rfl)
      · refine gO_ ?_
        refine wl_fx (fx_call (spec := fun w' hw => sawake_spec w' (hT.now hw (.head _))) (next := ?_))
        rintro v n6 w6 rfl hn6
        refine gO_ ?_
        refine pur_ret Tryz.results7 (.tmp rfl .nil) (.tail _ (.head _)) fun w' hw => ?_
        rfl

theorem ints_range_succ (k : Nat) : ints (List.range (k + 1)) = ints (List.range k) ++ [(k : Int)] := by
  unfold ints; rw [List.range_succ, List.map_append]; rfl

set_option maxRecDepth 8000 in
set_option maxHeartbeats 12800000 in
theorem seqcCoherent_spec {lv iv ev bv av dv cv tv nv : Value} {t : Tr} (fv ov : Value) (c : Cd) (w : World) (h : TrIn All w lv iv ev bv av dv cv tv nv t) (hc : CdIn All w fv ov c) (hT : Tab w) :
    Pur Tryz.prog 9 [.agg #[lv, iv, ev, bv, av, dv, cv, tv, nv], .agg #[fv, ov]] w fun _ v _ => v = .bool true := by
  have hfs := hc.rf.sv
  have hos := hc.cosv
  have hE := h.evs; have hEl := hE.le
  refine enter_pur Tryz.func9 Tryz.ntmps9 rfl rfl ?_
  refine gO_ ?_
  refine wl_fx (fx_box (next := ?_)); intro bT
  refine gO_ ?_
  refine wl_fx (fx_box (next := ?_)); intro bC
  refine gO_ ?_
  refine wl_fx (fx_call (spec := fun w' hw => scons_spec fv ov c w' (h.now hw (.head _)) (hc.now hw (.head _)) (hT.now hw (.head _))) (next := ?_))
  rintro v n1 w1 rfl hn1
  refine gO_ ?_
  refine wl_fx (fx_call (spec := fun w' hw => vcoh_spec fv ov c w' (h.now hw (.tail _ (.head _))) (hc.now hw (.tail _ (.head _))) (hT.now hw (.tail _ (.head _)))) (next := ?_))
  rintro v n2 w2 rfl hn2
  refine gO_ ?_
  refine wc_cond rfl (fun h1 => ?_) (fun h1 => ?_)
  · simp [dc_eq] at h1
  clear h1
  refine gO_ ?_
  refine wc_cond rfl (fun h1 => ?_) (fun h1 => ?_)
  · refine gO_ ?_
    refine wl_fx (fx_call (spec := fun w' hw => rCheck_spec fv ov c w' (h.now hw (.tail _ (.tail _ (.head _)))) (hc.now hw (.tail _ (.tail _ (.head _))))) (next := ?_))
    rintro v n3 w3 rfl hn3
    refine gO_ ?_
    refine wl_gx (h := gx_call (spec := fun _ w' hw => sawake_spec w' (hT.now hw (.tail _ (.tail _ (.tail _ (.head _))))))) (next := ?_)
    refine gO_ ?_
    refine pur_ret Tryz.results9 (.tmp rfl .nil) (.tail _ (.tail _ (.tail _ (.head _)))) fun w' hw => ?_
    simp [dc_eq]
    rfl
  · rw [Bool.not_eq_false', dc_true] at h1
    have hz := h1
    have ht := (cdE_ok hz).1
    have hb := (trOk_lens ht).1
    refine gO_ ?_
    refine wc_cond rfl (fun h2 => ?_) (fun h2 => ?_)
    · exfalso
      rw [Bool.and_eq_true, Bool.not_eq_true'] at h2
      rw [sc_coh h2.1] at h2
      cases h2.2
    clear h2
    refine gO_ ?_
    refine wc_loop (fun i : Nat => i ≤ t.evs.length ∧ ∀ j, j < i → (evi t j).thread = (evi t 0).thread) (fun i => [(9, true, .int .i64 i), (7, true, .bool (cohB t c)), (5, true, .bool (scB t c)), (3, true, .pointer (some ⟨bC, 0, none⟩)), (2, true, .pointer (some ⟨bT, 0, none⟩))])
      (fun i => Mem [(w, All)] [.box bC [fv, ov] 42, .box bT [lv, iv, ev, bv, av, dv, cv, tv, nv] 30]) (fun i => t.evs.length - i) 0 ⟨Nat.zero_le _, fun j hj => absurd hj (Nat.not_lt_zero _)⟩ ⟨rfl, rfl, rfl, rfl, rfl, trivial⟩ (fun _ h => h.last rfl) ?_
    rintro i ⟨hi, hI⟩
    refine gO_ ?_
    refine wc_cond rfl (fun h3 => ?_) (fun h3 => ?_)
    · have h3' : i < t.evs.length := by rw [dc_true] at h3; omega
      have h30 : 0 < t.evs.length := by omega
      refine gO_ ?_
      refine wc_draw [0, 1, 2, 3, 4, 5, 6, 7, 8, 9, 10, 11] mixed ?_
      refine kG_ ?_
      refine gO_ ?_
      refine wc_cond rfl (fun h4 => ?_) (fun h4 => ?_)
      · refine gO_ ?_
        refine wl_fx (fx_call (spec := fun w' hw => sawake_spec w' (hT.now hw (.head _))) (next := ?_))
        rintro v n3 w3 rfl hn3
        refine gO_ ?_
        refine pur_ret Tryz.results9 (.tmp rfl .nil) (.tail _ (.head _)) fun w' hw => ?_
        rfl
      · rw [Bool.not_eq_false', dc_true] at h4
        refine gO_ ?_
        refine po_loop (i + 1) ⟨by omega, fun j hj => ?_⟩ (by omega) ⟨rfl, rfl, rfl, rfl, rfl, trivial⟩ (fun _ h => h)
        by_cases q : j < i
        · exact hI j q
        · obtain rfl : j = i := by omega
          exact h4
    · have hin : i = t.evs.length := by rw [dc_false] at h3; omega
      have hone : ∀ a b, a < t.evs.length → b < t.evs.length → Vw.thB t a b = true := fun a b ha hb' => by
        unfold Vw.thB
        rw [decide_eq_true_eq, hI a (by omega), hI b (by omega)]
      obtain ⟨hs1, hs2⟩ := one_same hz hone
      refine gO_ ?_
      refine kp_nil 3 1 Eng.encI ?_
      refine wc_loop (fun s : Nat × Value => s.1 ≤ t.evs.length ∧ SV s.2) (fun s => [(11, true, .int .i64 s.1), (10, true, s.2), (7, true, .bool (cohB t c)), (5, true, .bool (scB t c)), (3, true, .pointer (some ⟨bC, 0, none⟩)), (2, true, .pointer (some ⟨bT, 0, none⟩))])
        (fun s => Mem [(w, All)] [ownI s.2 (ints (List.range s.1)), .box bC [fv, ov] 42, .box bT [lv, iv, ev, bv, av, dv, cv, tv, nv] 30]) (fun s => t.evs.length - s.1) (0, .slice none 0 0) ⟨Nat.zero_le _, sv_nil⟩ ⟨rfl, rfl, rfl, rfl, rfl, rfl, trivial⟩ (fun _ h => h) ?_
      rintro ⟨k, va⟩ ⟨hk, hva⟩
      dsimp only at hk hva ⊢
      have hkl : (ints (List.range k)).length = k := by unfold ints; rw [List.length_map, List.length_range]
      refine gO_ ?_
      refine wc_cond rfl (fun h5 => ?_) (fun h5 => ?_)
      · have h5' : k < t.evs.length := by rw [dc_true] at h5; omega
        refine gO_ ?_
        refine wl_fx (fx_lit (next := ?_))
        intro v5 hv5
        refine gO_ ?_
        refine wl_fx (fx_append_own (k := 1) (hk := rfl) (hm := .head _) (hlen := by simp only [List.length_map, List.length_cons, List.length_nil]; omega) (next := ?_))
        intro v6 hv6
        refine gO_ ?_
        refine po_loop (k + 1, v6) ⟨by dsimp only; omega, hv6⟩ (by dsimp only; omega) ⟨rfl, rfl, rfl, rfl, rfl, rfl, trivial⟩ (fun _ h => ?_)
        dsimp only
        rw [ints_range_succ]
        exact h.tail
      · obtain rfl : k = t.evs.length := by rw [dc_false] at h5; omega
        have hO := range_ord t.evs.length
        have hkp : ∀ a b, a < t.evs.length → b < t.evs.length → poP t a b = true → posN (List.range t.evs.length) a < posN (List.range t.evs.length) b := fun a b ha hb' hp => by
          rw [range_pos ha, range_pos hb']
          rw [po_lt ht ha hb', Bool.and_eq_true, decide_eq_true_eq] at hp
          exact hp.1
        refine gO_ ?_
        refine wl_fx (fx_call (spec := fun w' hw => scand_ok va (List.range t.evs.length) w' (h.now hw (.head _)) (hw.lend (.head _)) ht hO hkp) (next := ?_))
        rintro v n4 w4 ⟨rv, qv, rfl, hCd⟩ hn4
        have hsr := hCd.rf.sv
        have hsq := hCd.cosv
        refine gO_ ?_
        refine wl_fx (fx_alloc (next := ?_)); intro b12
        refine gO_ ?_
        refine wl_fx (fx_store_box (i := 0) (hi := rfl) (next := ?_))
        refine gO_ ?_
        refine wl_gx (h := gx_call (spec := fun _ w' hw => same16_spec fv ov rv qv c (candO t (List.range t.evs.length)) w' (hc.now hw (.tail _ (.head _))) (hCd.now hw (.head _)))) (next := ?_)
        rw [← hs1]
        refine gO_ ?_
        refine wl_gx (h := gx_call (spec := fun _ w' hw => sawake_spec w' (hT.now hw (.tail _ (.head _))))) (next := ?_)
        refine gO_ ?_
        refine pur_ret Tryz.results9 (.tmp rfl .nil) (.tail _ (.head _)) fun w' hw => ?_
        rw [hs2]
        simp [dc_eq]
        rfl
end Go.Proofs.YtnplmhfjoemgdaaGreatDoor
