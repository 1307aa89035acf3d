/- The law ViewFive, walked (printed by gen_five.py). -/
import Derived.Test.YtcjabnfgkfiajaaDoorVwU
import Derived.Test.YtcjabnfgkfiajaaDoorVwQ
set_option linter.unusedSimpArgs false
set_option linter.unusedVariables false
namespace Go.Proofs.YtcjabnfgkfiajaaDoor
open Go Go.Eng Go.Tc Go.Rl Go.Vw
attribute [local irreducible] wpList Code.wp bodyPost Exit.then Exit.inBlock Calls

set_option maxHeartbeats 1600000 in
theorem level_spec {lv iv ev bv av dv cv tv nv : Value} {t : Tr} (fv ov : Value) (c : Cd) (x : Int) (w : World) (h : TrIn All w lv iv ev bv av dv cv tv nv t) (hc : CdIn All w fv ov c) (hz : cdE t c = 0) (hx : x = -1 ∨ ∃ k : Nat, k < t.evs.length ∧ x = (k : Int)) :
    Pur Tryd.prog 12 [.agg #[lv, iv, ev, bv, av, dv, cv, tv, nv], .agg #[fv, ov], .int .i64 x] w fun _ v _ => v = .int .i64 (lvl t c x) := by
  have hfs := hc.rf.sv
  have hos := hc.cosv
  obtain ⟨ht, hcb⟩ := cdE_ok hz
  obtain ⟨ovs, hov, hol, hoi⟩ := hc.co
  have hovl := hov.le
  have hcl := ((candB_iff t c).1 hcb).2.1
  have hE := h.evs; have hEl := hE.le
  refine enter_pur Tryd.func12 Tryd.ntmps12 rfl rfl ?_
  refine gO_ ?_
  refine wl_fx (fx_box (next := ?_)); intro bT
  refine gO_ ?_
  refine wl_fx (fx_box (next := ?_)); intro bC
  refine gO_ ?_
  refine wc_cond rfl (fun h1 => ?_) (fun h1 => ?_)
  · rw [dc_true] at h1
    refine gO_ ?_
    refine pur_ret Tryd.results12 (.tmp rfl .nil) (.head _) fun w' hw => ?_
    unfold lvl; rw [if_pos h1]; rfl
  · rw [dc_false] at h1
    obtain ⟨k, hk, rfl⟩ : ∃ k : Nat, k < t.evs.length ∧ x = (k : Int) := by
      rcases hx with h2 | h2
      · omega
      · exact h2
    obtain ⟨p, hp, hpl⟩ := loc_nat ht hk
    have hcp := col_eq (c := c) hp
    have hLp := (hoi p (by omega))
    have hp2 : (t.evs.getD k default).loc = (p : Int) := hp
    have hp3 : p < ovs.length := by omega
    have hLl := hLp.le
    refine gO_ ?_
    refine wc_draw [0, 1, 2, 3, 4, 5, 6, 7, 8, 9, 10] mixed ?_
    refine kG_ ?_
    rw [hp2]
    refine kG_ ?_
    refine gO_ ?_
    refine wc_loop (fun s : Nat => s ≤ (c.co.getD p default).length ∧ ∀ j, j < s → (c.co.getD p default).getD j default ≠ (k : Int)) (fun s => [(8, true, .int .i64 s), (7, true, ovs.getD p default), (2, true, .int .i64 k)])
      (fun s => Mem [(w, All)] [.box bC [fv, ov] 48, .box bT [lv, iv, ev, bv, av, dv, cv, tv, nv] 45]) (fun s => (c.co.getD p default).length - s) 0 ⟨Nat.zero_le _, fun j hj => absurd hj (Nat.not_lt_zero _)⟩ ⟨rfl, rfl, rfl, trivial⟩ (fun _ h => h.last rfl) ?_
    rintro i ⟨hi, hno⟩
    refine gO_ ?_
    refine wc_cond rfl (fun h2 => ?_) (fun h2 => ?_)
    · have h2' : i < (c.co.getD p default).length := by rw [dc_true] at h2; omega
      refine gO_ ?_
      refine wc_cond rfl (fun h3 => ?_) (fun h3 => ?_)
      · rw [dc_true] at h3
        refine gO_ ?_
        refine pur_ret Tryd.results12 (.tmp rfl .nil) (.head _) fun w' hw => ?_
        unfold lvl
        rw [if_neg h1, Int.toNat_natCast, hcp]
        have hm : (k : Int) ∈ c.co.getD p default := mem_getD.2 ⟨i, h2', h3⟩
        unfold ixI
        rw [if_pos hm, idxOf_at h2' h3 hno]
        rfl
      · rw [dc_false] at h3
        refine gO_ ?_
        refine po_loop (i + 1) ⟨by omega, fun j hj => ?_⟩ (by omega) ⟨rfl, rfl, rfl, trivial⟩ (fun _ h => h.last rfl)
        by_cases q : j < i
        · exact hno j q
        · obtain rfl : j = i := by omega
          exact h3
    · rw [dc_false] at h2
      refine gO_ ?_
      refine pur_ret Tryd.results12 (.tmp rfl .nil) (.head _) fun w' hw => ?_
      unfold lvl
      rw [if_neg h1, Int.toNat_natCast, hcp]
      have hm : ¬ (k : Int) ∈ c.co.getD p default := fun hm => by
        obtain ⟨j, hj, e⟩ := mem_getD.1 hm
        exact hno j (by omega) e
      unfold ixI
      rw [if_neg hm]
      rfl

theorem okP_five (t : Tr) (c : Cd) (i j : Nat) (hs : (Vw.thB t i j && lcB t i j) = true) : okP t c i j = if (evi t j).dir = 2 then decide (levE t c i < levE t c j) else decide (levE t c i ≤ levE t c j) := by
  unfold okP; rw [if_pos hs]

set_option maxHeartbeats 12800000 in
theorem viewFive_spec {lv iv ev bv av dv cv tv nv : Value} {t : Tr} (fv ov : Value) (c : Cd) (w : World) (h : TrIn All w lv iv ev bv av dv cv tv nv t) (hc : CdIn All w fv ov c) (hT : Tab w) :
    Pur Tryd.prog 4 [.agg #[lv, iv, ev, bv, av, dv, cv, tv, nv], .agg #[fv, ov]] w fun _ v _ => v = .bool true := by
  have hfs := hc.rf.sv
  have hos := hc.cosv
  have hF := hc.rf
  have hFl := hF.le
  have hE := h.evs; have hEl := hE.le
  refine enter_pur Tryd.func4 Tryd.ntmps4 rfl rfl ?_
  refine gO_ ?_
  refine wl_fx (fx_box (next := ?_)); intro bT
  refine gO_ ?_
  refine wl_fx (fx_box (next := ?_)); intro bC
  refine gO_ ?_
  refine wl_fx (fx_call (spec := fun w' hw => vcoh_spec fv ov c w' (h.now hw (.head _)) (hc.now hw (.head _)) (hT.now hw (.head _))) (next := ?_))
  rintro v n1 w1 rfl hn1
  refine gO_ ?_
  refine wc_cond rfl (fun h1 => ?_) (fun h1 => ?_)
  · refine gO_ ?_
    refine wl_fx (fx_call (spec := fun w' hw => refused_spec fv ov c (cdE t c) w' (h.now hw (.tail _ (.head _))) (hc.now hw (.tail _ (.head _))) (hT.now hw (.tail _ (.head _)))) (next := ?_))
    rintro v n2 w2 rfl hn2
    refine gO_ ?_
    refine pur_ret Tryd.results4 (.tmp rfl .nil) (.tail _ (.tail _ (.head _))) fun w' hw => ?_
    rw [decide_eq_true rfl]
    rfl
  · have hz : cdE t c = 0 := by
      by_cases q : cdE t c = 0
      · exact q
      · exfalso; simp [dc_eq, q] at h1
    obtain ⟨ht, hcb⟩ := cdE_ok hz
    have hb := (trOk_lens ht).1
    have hrl := ((candB_iff t c).1 hcb).1
    have hrr : ∀ i, i < t.evs.length → c.rf.getD i default = -1 ∨ ∃ k : Nat, k < t.evs.length ∧ c.rf.getD i default = (k : Int) := fun i hi => by
      rcases rf_fact hcb hi with q | ⟨_, q⟩
      · exact .inl q
      · obtain ⟨k, hk, e, _⟩ := mem_wr.1 q; exact .inr ⟨k, hk, e⟩
    refine gO_ ?_
    refine wc_loop (fun s : Nat × Bool => s.1 ≤ t.evs.length ∧ (s.2 = true ↔ ∀ a b, a < s.1 → a < b → b < t.evs.length → okP t c a b = true)) (fun s => [(8, true, .int .i64 s.1), (7, true, .bool s.2), (5, true, .bool (cohB t c)), (3, true, .pointer (some ⟨bC, 0, none⟩)), (2, true, .pointer (some ⟨bT, 0, none⟩))])
      (fun s => Mem [(w, All)] [.box bC [fv, ov] 48, .box bT [lv, iv, ev, bv, av, dv, cv, tv, nv] 45]) (fun s => t.evs.length - s.1) (0, true) ⟨Nat.zero_le _, ⟨fun _ a b ha => absurd ha (Nat.not_lt_zero _), fun _ => rfl⟩⟩ ⟨rfl, rfl, rfl, rfl, rfl, trivial⟩ (fun _ h => h.last rfl) ?_
    rintro ⟨i, f0⟩ ⟨hi, hf0⟩
    dsimp only at hi hf0 ⊢
    refine gO_ ?_
    refine wc_cond rfl (fun h2 => ?_) (fun h2 => ?_)
    · have h2' : i < t.evs.length := by rw [dc_true] at h2; omega
      have hri : i < c.rf.length := by omega
      refine gO_ ?_
      refine wc_loop (fun s : Nat × Bool => i < s.1 ∧ s.1 ≤ t.evs.length ∧ (s.2 = true ↔ (f0 = true ∧ ∀ b, i < b → b < s.1 → okP t c i b = true))) (fun s => [(9, true, .int .i64 s.1), (8, true, .int .i64 i), (7, true, .bool s.2), (5, true, .bool (cohB t c)), (3, true, .pointer (some ⟨bC, 0, none⟩)), (2, true, .pointer (some ⟨bT, 0, none⟩))])
        (fun s => Mem [(w, All)] [.box bC [fv, ov] 48, .box bT [lv, iv, ev, bv, av, dv, cv, tv, nv] 45]) (fun s => t.evs.length - s.1) (i + 1, f0) ⟨Nat.lt_succ_self _, h2', ⟨fun q => ⟨q, fun b hb1 hb2 => by dsimp only at hb2; omega⟩, fun q => q.1⟩⟩ ⟨rfl, rfl, rfl, rfl, rfl, rfl, trivial⟩ (fun _ h => h.last rfl) ?_
      rintro ⟨j, f1⟩ ⟨hij, hj, hf1⟩
      dsimp only at hij hj hf1 ⊢
      refine gO_ ?_
      refine wc_cond rfl (fun h3 => ?_) (fun h3 => ?_)
      · have h3' : j < t.evs.length := by rw [dc_true] at h3; omega
        have hrj : j < c.rf.length := by omega
        have hstep : ∀ f2 : Bool, f2 = (f1 && okP t c i j) → (i < j + 1 ∧ j + 1 ≤ t.evs.length ∧ (f2 = true ↔ (f0 = true ∧ ∀ b, i < b → b < j + 1 → okP t c i b = true))) := fun f2 e => by
          refine ⟨by omega, by omega, ?_⟩
          rw [e, Bool.and_eq_true, hf1]
          constructor
          · rintro ⟨⟨q1, q2⟩, q3⟩
            refine ⟨q1, fun b hb1 hb2 => ?_⟩
            by_cases q : b < j
            · exact q2 b hb1 q
            · obtain rfl : b = j := by omega
              exact q3
          · rintro ⟨q1, q2⟩; exact ⟨⟨q1, fun b hb1 hb2 => q2 b hb1 (by omega)⟩, q2 j hij (by omega)⟩
        refine gO_ ?_
        refine wc_cutA (fun s : Nat × Nat => True) (fun s => [(11, true, .pointer (some ⟨s.2, 0, none⟩)), (10, true, .pointer (some ⟨s.1, 0, none⟩)), (9, true, .int .i64 j), (8, true, .int .i64 i), (7, true, .bool f1), (5, true, .bool (cohB t c)), (3, true, .pointer (some ⟨bC, 0, none⟩)), (2, true, .pointer (some ⟨bT, 0, none⟩))])
          (fun s => Mem [(w, All)] [.box s.2 (encEv (evi t j)) 53, .box s.1 (encEv (evi t i)) 53, .box bC [fv, ov] 48, .box bT [lv, iv, ev, bv, av, dv, cv, tv, nv] 45]) ?_ ?_
        · refine wc_drawS (Mem [(w, All)] [.box bT [lv, iv, ev, bv, av, dv, cv, tv, nv] 45]) [0, 1, 2, 3, 4, 5, 6, 7, 8, 9, 999] mixed (fun _ h => h.sel [1] rfl (by decide)) ?_
          refine kG_ ?_
          refine kg_br2 10 11 (h1 := ?_) (h2 := ?_)
          · refine ks_f [999] _ (hSS := fun _ h => h) (h := fx_alloc (next := ?_))
            intro bx
            refine kp_S ?_ (fun _ h => h.sel [2] rfl (by decide))
            refine kg_br1 11 (h1 := ?_)
            refine ks_f [12, 13] _ (hSS := fun _ h => h) (h := fx_alloc (next := ?_))
            intro by'
            refine kp_S ?_ (fun _ h => h.sel [3] rfl (by decide))
            refine kg_f _ (h := fx_store_box (i := 1) (hi := rfl) (next := ?_)) (hSS := fun _ h => h)
            refine kp_S ?_ (fun _ h => h.sel [3] rfl (by decide))
            refine kg_z (h := fx_store_box (i := 0) (hi := rfl) (next := ?_))
            exact po_cut (bx, by') trivial ⟨rfl, rfl, rfl, rfl, rfl, rfl, rfl, rfl, trivial⟩ (fun _ h => h.sel [0, 1, 2, 3] rfl (by decide))
          · refine ks_f [999] _ (hSS := fun _ h => h) (h := fx_alloc (next := ?_))
            intro by'
            refine kp_S ?_ (fun _ h => h.sel [2] rfl (by decide))
            refine kg_br1 10 (h1 := ?_)
            refine ks_f [12, 13] _ (hSS := fun _ h => h) (h := fx_alloc (next := ?_))
            intro bx
            refine kp_S ?_ (fun _ h => h.sel [3] rfl (by decide))
            refine kg_f _ (h := fx_store_box (i := 0) (hi := rfl) (next := ?_)) (hSS := fun _ h => h)
            refine kp_S ?_ (fun _ h => h.sel [3] rfl (by decide))
            refine kg_z (h := fx_store_box (i := 1) (hi := rfl) (next := ?_))
            exact po_cut (bx, by') trivial ⟨rfl, rfl, rfl, rfl, rfl, rfl, rfl, rfl, trivial⟩ (fun _ h => h.sel [1, 0, 2, 3] rfl (by decide))
        rintro ⟨bx, by'⟩ -
        dsimp only
        refine gO_ ?_
        refine wc_cond rfl (fun h4 => ?_) (fun h4 => ?_)
        · refine gO_ ?_
          refine po_loop (j + 1, f1) (hstep f1 ?_) (by dsimp only; omega) ⟨rfl, rfl, rfl, rfl, rfl, rfl, trivial⟩ (fun _ h => (h.last rfl).tail.tail)
          have : okP t c i j = true := by
            unfold okP
            rw [if_neg]
            intro q
            unfold Vw.thB lcB at q
            simp only [dc_eq] at h4
            rw [Bool.and_eq_true, decide_eq_true_eq, decide_eq_true_eq] at q
            rw [show (t.evs.getD i default).thread = (t.evs.getD j default).thread from q.1, show (t.evs.getD i default).loc = (t.evs.getD j default).loc from q.2] at h4
            simp at h4
          rw [this, Bool.and_true]
        · have hs : (Vw.thB t i j && lcB t i j) = true := by
            unfold Vw.thB lcB
            simp only [dc_eq, Bool.or_eq_false_iff, Bool.not_eq_false', decide_eq_true_eq] at h4
            rw [Bool.and_eq_true, decide_eq_true_eq, decide_eq_true_eq]
            exact h4
          have hok := okP_five t c i j hs
          refine gO_ ?_
          refine wc_draw [0, 1, 2, 4, 5, 6, 3, 7, 8, 9] mixed ?_
          refine kG_ ?_
          refine kg_f _ (h := fx_call (spec := fun w' hw => level_spec fv ov c i w' (h.now hw (.head _)) (hc.now hw (.head _)) hz (.inr ⟨i, h2', rfl⟩)) (next := ?_)) (hSS := fun _ h => h)
          rintro v n3 w3 rfl hn3
          refine kp_S ?_ (fun _ h => h.last rfl)
          refine kG_ ?_
          refine kg_f _ (h := fx_call (spec := fun w' hw => level_spec fv ov c j w' (h.now hw (.tail _ (.head _))) (hc.now hw (.tail _ (.head _))) hz (.inr ⟨j, h3', rfl⟩)) (next := ?_)) (hSS := fun _ h => h)
          rintro v n4 w4 rfl hn4
          refine kp_S ?_ (fun _ h => h.last rfl)
          refine kG_ ?_
          refine gO_ ?_
          refine wc_cutA (fun s : Unit => True) (fun s => [(13, true, .int .i64 (lvl t c (j : Nat))), (12, true, .int .i64 (levE t c i)), (11, true, .pointer (some ⟨by', 0, none⟩)), (10, true, .pointer (some ⟨bx, 0, none⟩)), (9, true, .int .i64 j), (8, true, .int .i64 i), (7, true, .bool f1), (5, true, .bool (cohB t c)), (3, true, .pointer (some ⟨bC, 0, none⟩)), (2, true, .pointer (some ⟨bT, 0, none⟩))])
            (fun s => Mem [(w, All)] [.box by' (encEv (evi t j)) 53, .box bx (encEv (evi t i)) 53, .box bC [fv, ov] 48, .box bT [lv, iv, ev, bv, av, dv, cv, tv, nv] 45]) ?_ ?_
          · refine wc_cond rfl (fun h5 => ?_) (fun h5 => ?_)
            · have h5' : (evi t i).dir = 1 := by rwa [dc_true] at h5
              have he : lvl t c (c.rf.getD i default) = levE t c i := by unfold levE; rw [if_pos h5']
              refine gO_ ?_
              refine wc_draw [0, 1, 2, 3, 4, 5, 6, 7, 8] mixed ?_
              refine kG_ ?_
              refine kg_f _ (h := fx_call (spec := fun w' hw => level_spec fv ov c (c.rf.getD i default) w' (h.now hw (.tail _ (.tail _ (.head _)))) (hc.now hw (.tail _ (.tail _ (.head _)))) hz (hrr i (by omega))) (next := ?_)) (hSS := fun _ h => h)
              rintro v n5 w5 rfl hn5
              refine kp_S ?_ (fun _ h => h.tailB)
              rw [he]
              refine kG_ ?_
              refine gO_ ?_
              exact po_cut () trivial ⟨rfl, rfl, rfl, rfl, rfl, rfl, rfl, rfl, rfl, rfl, trivial⟩ (fun _ h => h.last rfl)
            · have h5' : ¬ (evi t i).dir = 1 := by rwa [dc_false] at h5
              have he : lvl t c (i : Nat) = levE t c i := by unfold levE; rw [if_neg h5']
              rw [he]
              refine gO_ ?_
              exact po_cut () trivial ⟨rfl, rfl, rfl, rfl, rfl, rfl, rfl, rfl, rfl, rfl, trivial⟩ (fun _ h => h.last rfl)
          rintro ⟨⟩ -
          refine gO_ ?_
          refine wc_cutA (fun s : Unit => True) (fun s => [(13, true, .int .i64 (levE t c j)), (12, true, .int .i64 (levE t c i)), (11, true, .pointer (some ⟨by', 0, none⟩)), (10, true, .pointer (some ⟨bx, 0, none⟩)), (9, true, .int .i64 j), (8, true, .int .i64 i), (7, true, .bool f1), (5, true, .bool (cohB t c)), (3, true, .pointer (some ⟨bC, 0, none⟩)), (2, true, .pointer (some ⟨bT, 0, none⟩))])
            (fun s => Mem [(w, All)] [.box by' (encEv (evi t j)) 53, .box bx (encEv (evi t i)) 53, .box bC [fv, ov] 48, .box bT [lv, iv, ev, bv, av, dv, cv, tv, nv] 45]) ?_ ?_
          · refine wc_cond rfl (fun h5 => ?_) (fun h5 => ?_)
            · have h5' : (evi t j).dir = 1 := by rwa [dc_true] at h5
              have he : lvl t c (c.rf.getD j default) = levE t c j := by unfold levE; rw [if_pos h5']
              refine gO_ ?_
              refine wc_draw [0, 1, 2, 3, 4, 5, 6, 7, 8] mixed ?_
              refine kG_ ?_
              refine kg_f _ (h := fx_call (spec := fun w' hw => level_spec fv ov c (c.rf.getD j default) w' (h.now hw (.head _)) (hc.now hw (.head _)) hz (hrr j (by omega))) (next := ?_)) (hSS := fun _ h => h)
              rintro v n6 w6 rfl hn6
              refine kp_S ?_ (fun _ h => h.tailB)
              rw [he]
              refine kG_ ?_
              refine gO_ ?_
              exact po_cut () trivial ⟨rfl, rfl, rfl, rfl, rfl, rfl, rfl, rfl, rfl, rfl, trivial⟩ (fun _ h => h.last rfl)
            · have h5' : ¬ (evi t j).dir = 1 := by rwa [dc_false] at h5
              have he : lvl t c (j : Nat) = levE t c j := by unfold levE; rw [if_neg h5']
              rw [he]
              refine gO_ ?_
              exact po_cut () trivial ⟨rfl, rfl, rfl, rfl, rfl, rfl, rfl, rfl, rfl, rfl, trivial⟩ (fun _ h => h.last rfl)
          rintro ⟨⟩ -
          refine gO_ ?_
          refine wc_cond rfl (fun h7 => ?_) (fun h7 => ?_)
          · have h7' : (evi t j).dir = 2 := by rwa [dc_true] at h7
            rw [if_pos h7'] at hok
            refine gO_ ?_
            exact po_loop (j + 1, f1 && dc (levE t c i < levE t c j)) (hstep _ (by rw [hok, ← dc_eq])) (by dsimp only; omega) ⟨rfl, rfl, rfl, rfl, rfl, rfl, trivial⟩ (fun _ h => (h.last rfl).tail.tail)
          · have h7' : ¬ (evi t j).dir = 2 := by rwa [dc_false] at h7
            rw [if_neg h7'] at hok
            refine gO_ ?_
            exact po_loop (j + 1, f1 && dc (levE t c i ≤ levE t c j)) (hstep _ (by rw [hok, ← dc_eq])) (by dsimp only; omega) ⟨rfl, rfl, rfl, rfl, rfl, rfl, trivial⟩ (fun _ h => (h.last rfl).tail.tail)
      · rw [dc_false] at h3
        refine gO_ ?_
        refine po_loop (i + 1, f1) ⟨by dsimp only; omega, ?_⟩ (by dsimp only; omega) ⟨rfl, rfl, rfl, rfl, rfl, trivial⟩ (fun _ h => h)
        dsimp only
        rw [hf1, hf0]
        constructor
        · rintro ⟨q1, q2⟩ a b ha hab hb'
          by_cases q : a < i
          · exact q1 a b q hab hb'
          · obtain rfl : a = i := by omega
            exact q2 b hab (by omega)
        · intro q
          exact ⟨fun a b ha => q a b (by omega), fun b hb1 hb2 => q i b (by omega) hb1 (by omega)⟩
    · rw [dc_false] at h2
      have hfin : cohB t c = f0 := by
        rw [Bool.eq_iff_iff, five hz hb, hf0]
        constructor
        · intro q a b _; exact q a b
        · intro q a b hab hb'; exact q a b (by omega) hab hb'
      refine gO_ ?_
      refine wl_gx (h := gx_call (spec := fun _ w' hw => vawake_spec w' (hT.now hw (.head _)))) (next := ?_)
      refine gO_ ?_
      refine pur_ret Tryd.results4 (.tmp rfl .nil) (.head _) fun w' hw => ?_
      rw [hfin]
      simp only [dc_eq, Bool.and_true]
      cases f0 <;> rfl
end Go.Proofs.YtcjabnfgkfiajaaDoor
