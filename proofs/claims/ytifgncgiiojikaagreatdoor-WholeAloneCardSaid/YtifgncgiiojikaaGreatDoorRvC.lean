/- The walks: rvwmo's rules, one by one (printed by gen_rv2.py). -/
import Derived.Test.YtifgncgiiojikaaGreatDoorRvB
set_option linter.unusedSimpArgs false
set_option linter.unusedVariables false
namespace Go.Proofs.YtifgncgiiojikaaGreatDoor
open Go Go.Eng Go.Tc Go.Rl Go.Vw
attribute [local irreducible] wpList Code.wp bodyPost Exit.then Exit.inBlock Calls
theorem th_mid {t : Tr} (ht : trOk t = true) {i k j : Nat} (hik : i < k) (hkj : k < j) (hj : j < t.evs.length) (h : Vw.thB t i j = true) : Vw.thB t i k = true ∧ Vw.thB t k j = true := by
  have h1 := ev_ahead ht hik (by omega)
  have h2 := ev_ahead ht hkj hj
  simp only [aheadP, Bool.or_eq_true, Bool.and_eq_true, decide_eq_true_eq] at h1 h2
  unfold Vw.thB at *
  simp only [decide_eq_true_eq] at *
  omega
theorem btw_iff {t : Tr} (ht : trOk t = true) {i m j : Nat} (hj : j < t.evs.length) (hm : m < t.evs.length) (hi : i < j) (h : Vw.thB t i j = true) : btwP t i m j = (decide (i < m) && decide (m < j)) := by
  rw [Bool.eq_iff_iff]
  unfold btwP
  rw [po_lt ht (by omega) hm, po_lt ht hm hj]
  simp only [Bool.and_eq_true, decide_eq_true_eq]
  constructor
  · rintro ⟨⟨h1, _⟩, h2, _⟩; exact ⟨h1, h2⟩
  · rintro ⟨h1, h2⟩
    obtain ⟨g1, g2⟩ := th_mid ht h1 h2 hj h
    exact ⟨⟨h1, g1⟩, h2, g2⟩
theorem has_memb {n : Nat} (hn : n ≤ 64) (l : List Pair) {i j : Nat} (hi : i < n) (hj : j < n) : has n (relOf n (memb l)) i j = memb l i j := by
  rw [Go.Vw.has_bt (relOk_relOf _ _ hn) hi hj, relOf_bt _ _ hn _ _ hi hj]

set_option maxHeartbeats 1600000 in
theorem none1_spec (i j : Int) (w : World) : Pur Tryz.prog 90 [.int .i64 i, .int .i64 j] w fun _ v _ => v = .bool false := by
  refine enter_pur Tryz.func90 Tryz.ntmps90 rfl rfl ?_
  refine gO_ ?_
  refine pur_ret Tryz.results90 (.tmp rfl .nil) (.head _) fun w' hw => ?_
  rfl

set_option maxHeartbeats 1600000 in
theorem over1_spec {lv iv ev bv av dv cv tv nv fv ov s1 s2 s3 s4 s5 s6 s7 s8 s9 sf sa sd sc : Value} {t : Tr} {c : Cd} {ba : Nat} (i j bb : Nat) (w : World) (h : AkIn w ba lv iv ev bv av dv cv tv nv fv ov s1 s2 s3 s4 s5 s6 s7 s8 s9 sf sa sd sc t c) (hb2 : Bx All w bb [.pointer (some ⟨ba, 0, none⟩)]) (hij : i < j) (hj : j < t.evs.length) :
    Pur Tryz.prog 112 [.int .i64 i, .int .i64 j, .pointer (some ⟨bb, 0, none⟩)] w fun _ v _ => v = .bool (overB t i j) := by
  refine enter_pur Tryz.func112 Tryz.ntmps112 rfl rfl ?_
  refine gO_ ?_
  refine wl_fx (fx_call (spec := fun w' hw => writes_spec j w' (h.now hw (.head _)) hj) (next := ?_))
  rintro v n1 w1 rfl hn1
  refine gO_ ?_
  refine wl_gx (h := gx_call (spec := fun _ w' hw => alike_ok i j w' (h.now hw (.tail _ (.head _))) (by omega) hj)) (next := ?_)
  refine gO_ ?_
  refine pur_ret Tryz.results112 (.tmp rfl .nil) (.tail _ (.head _)) fun w' hw => ?_
  rfl

set_option maxHeartbeats 1600000 in
theorem branches1_spec {lv iv ev bv av dv cv tv nv fv ov s1 s2 s3 s4 s5 s6 s7 s8 s9 sf sa sd sc : Value} {t : Tr} {c : Cd} {ba : Nat} (i j bb : Nat) (w : World) (h : AkIn w ba lv iv ev bv av dv cv tv nv fv ov s1 s2 s3 s4 s5 s6 s7 s8 s9 sf sa sd sc t c) (hb2 : Bx All w bb [.pointer (some ⟨ba, 0, none⟩)]) (hij : i < j) (hj : j < t.evs.length) :
    Pur Tryz.prog 116 [.int .i64 i, .int .i64 j, .pointer (some ⟨bb, 0, none⟩)] w fun _ v _ => v = .bool (decide ((evi t j).dir = 2) && memb t.ctrl i j) := by
  have hbx := h.bx
  have hb := (trOk_lens (cdE_ok h.z).1).1
  refine enter_pur Tryz.func116 Tryz.ntmps116 rfl rfl ?_
  refine gO_ ?_
  refine wl_fx (fx_call (spec := fun w' hw => writes_spec j w' (h.now hw (.head _)) hj) (next := ?_))
  rintro v n1 w1 rfl hn1
  (refine gO_ ?_; repeat ((first | refine wl_a (h := qy_nilCheck) (next := ?_) | refine wl_ag (h := qy_nilCheck) (next := ?_)); refine gO_ ?_))
  refine wl_gx (h := gx_call (spec := fun _ w' hw => has_spec t.evs.length sc (relOf t.evs.length (memb t.ctrl)) i j w' (hw.now h.rc (.tail _ (.head _))))) (next := ?_)
  rw [has_memb hb _ (by omega) hj]
  refine gO_ ?_
  refine pur_ret Tryz.results116 (.tmp rfl .nil) (.tail _ (.head _)) fun w' hw => ?_
  rfl

set_option maxHeartbeats 3200000 in
theorem behind1_spec {lv iv ev bv av dv cv tv nv fv ov s1 s2 s3 s4 s5 s6 s7 s8 s9 sf sa sd sc : Value} {t : Tr} {c : Cd} {ba : Nat} (i j bb : Nat) (w : World) (h : AkIn w ba lv iv ev bv av dv cv tv nv fv ov s1 s2 s3 s4 s5 s6 s7 s8 s9 sf sa sd sc t c) (hb2 : Bx All w bb [.pointer (some ⟨ba, 0, none⟩)]) (hij : i < j) (hj : j < t.evs.length) (hth : Vw.thB t i j = true) :
    Pur Tryz.prog 119 [.int .i64 i, .int .i64 j, .pointer (some ⟨bb, 0, none⟩)] w fun _ v _ => v = .bool (behB t i j) := by
  have hbx := h.bx
  have ht := (cdE_ok h.z).1
  have hb := (trOk_lens ht).1
  refine enter_pur Tryz.func119 Tryz.ntmps119 rfl rfl ?_
  refine gO_ ?_
  refine wc_loop (fun k : Nat => i < k ∧ k ≤ j ∧ ∀ m, i < m → m < k → (decide ((evi t j).dir = 2) && memb t.addr i m) = false) (fun k => [(6, true, .int .i64 k), (2, true, .pointer (some ⟨bb, 0, none⟩)), (1, true, .int .i64 j), (0, true, .int .i64 i)])
    (fun _ => Mem [(w, All)] []) (fun k => j - k) (i + 1) ⟨by omega, by omega, fun m h1 h2 => by omega⟩ ⟨rfl, rfl, rfl, rfl, trivial⟩ (fun _ h => h) ?_
  rintro k ⟨hik, hkj, hno⟩
  refine gO_ ?_
  refine wc_cond rfl (fun h1 => ?_) (fun h1 => ?_)
  · have h1' : k < j := by rw [dc_true] at h1; omega
    refine gO_ ?_
    refine wl_fx (fx_call (spec := fun w' hw => writes_spec j w' (h.now hw (.head _)) hj) (next := ?_))
    rintro v n1 w1 rfl hn1
    (refine gO_ ?_; repeat ((first | refine wl_a (h := qy_nilCheck) (next := ?_) | refine wl_ag (h := qy_nilCheck) (next := ?_)); refine gO_ ?_))
    refine wl_gx (h := gx_call (spec := fun _ w' hw => has_spec t.evs.length sa (relOf t.evs.length (memb t.addr)) i k w' (hw.now h.ra (.tail _ (.head _))))) (next := ?_)
    rw [has_memb hb _ (by omega) (by omega)]
    refine gO_ ?_
    refine wc_cond rfl (fun h2 => ?_) (fun h2 => ?_)
    · refine gO_ ?_
      refine pur_ret Tryz.results119 (.tmp rfl .nil) (.tail _ (.head _)) fun w' hw => ?_
      have : behB t i j = true := by
        rw [Bool.and_eq_true] at h2
        unfold behB
        rw [h2.1, Bool.true_and, List.any_eq_true]
        exact ⟨k, List.mem_range.2 (by omega), by rw [btw_iff ht hj (by omega) hij hth, h2.2, decide_eq_true hik, decide_eq_true h1']; rfl⟩
      rw [this]; rfl
    · refine gO_ ?_
      refine po_loop (k + 1) ⟨by omega, by omega, fun m g1 g2 => ?_⟩ (by omega) ⟨rfl, rfl, rfl, rfl, trivial⟩ (fun _ h => h.last rfl)
      by_cases q : m < k
      · exact hno m g1 q
      · obtain rfl : m = k := by omega
        exact h2
  · have hkj' : k = j := by rw [dc_false] at h1; omega
    refine gO_ ?_
    refine pur_ret Tryz.results119 (.tmp rfl .nil) (.head _) fun w' hw => ?_
    have : behB t i j = false := by
      rw [Bool.eq_false_iff]
      intro q
      unfold behB at q
      rw [Bool.and_eq_true, List.any_eq_true] at q
      obtain ⟨q1, m, hm, q2⟩ := q
      rw [List.mem_range] at hm
      rw [btw_iff ht hj hm hij hth] at q2
      simp only [Bool.and_eq_true, decide_eq_true_eq] at q2
      have := hno m q2.1.1 (by omega)
      rw [q1, q2.2] at this
      cases this
    rw [this]; rfl

set_option maxHeartbeats 6400000 in
theorem unlike1_spec {lv iv ev bv av dv cv tv nv fv ov s1 s2 s3 s4 s5 s6 s7 s8 s9 sf sa sd sc : Value} {t : Tr} {c : Cd} {ba : Nat} (i j bb : Nat) (w : World) (h : AkIn w ba lv iv ev bv av dv cv tv nv fv ov s1 s2 s3 s4 s5 s6 s7 s8 s9 sf sa sd sc t c) (hb2 : Bx All w bb [.pointer (some ⟨ba, 0, none⟩)]) (hij : i < j) (hj : j < t.evs.length) (hth : Vw.thB t i j = true) :
    Pur Tryz.prog 115 [.int .i64 i, .int .i64 j, .pointer (some ⟨bb, 0, none⟩)] w fun _ v _ => v = .bool (unlB t c i j) := by
  have hbx := h.bx
  have hF := h.cd.rf
  obtain ⟨ht, hcb⟩ := cdE_ok h.z
  have hrl := ((candB_iff t c).1 hcb).1
  have hb := (trOk_lens ht).1
  have hri : i < c.rf.length := by omega
  have hrj : j < c.rf.length := by omega
  have hdi := trOk_dir ht (show i < t.evs.length by omega)
  have hdj := trOk_dir ht hj
  refine enter_pur Tryz.func115 Tryz.ntmps115 rfl rfl ?_
  refine gO_ ?_
  have hlast : ∀ {v : Bool}, unlB t c i j = v → retV [.bool v] = .bool (unlB t c i j) := fun e => by rw [e]; rfl
  refine wc_draw [0, 1, 2, 3, 4, 5, 6, 7, 8, 9, 10, 11, 12, 13, 14, 15, 16, 17, 18, 19, 20, 21, 22, 23, 24, 25, 26, 27, 28, 29, 30, 31, 32, 33] mixed ?_
  refine kG_ ?_
  refine kg_f _ (h := fx_call (spec := fun w' hw => writes_spec i w' (h.now hw (.head _)) (by omega)) (next := ?_)) (hSS := fun _ h => h)
  rintro v n1 w1 rfl hn1
  refine kp_S ?_ (fun _ h => h.tailB)
  refine kp_mem (A' := Mem [(w, All)] []) (fun _ h => h.tailB) ?_
  refine kG_ ?_
  refine kg_gx (h := gx_call (spec := fun _ w' hw => writes_spec j w' (h.now hw (.head _)) hj)) (next := ?_)
  refine kG_ ?_
  refine kg_gx (h := gx_call (spec := fun _ w' hw => alike_ok i j w' (h.now hw (.head _)) (by omega) hj)) (next := ?_)
  (refine kG_ ?_; repeat ((first | refine kg_a (h := qy_nilCheck) (next := ?_) | refine kg_ag (h := qy_nilCheck) (next := ?_)); refine kG_ ?_))
  refine gO_ ?_
  refine wc_cond rfl (fun h1 => ?_) (fun h1 => ?_)
  · refine gO_ ?_
    refine pur_ret Tryz.results115 (.tmp rfl .nil) (.head _) fun w' hw => ?_
    refine hlast ?_
    rw [Bool.eq_false_iff]
    intro q
    unfold unlB at q
    simp only [dc_eq, Bool.or_eq_true, Bool.and_eq_true, Bool.not_eq_true', decide_eq_true_eq, decide_eq_false_iff_not] at h1 q
    rcases h1 with ((h1 | h1) | h1) | h1
    · omega
    · omega
    · rw [q.1.1.2] at h1; cases h1
    · exact q.1.2 h1
  · simp only [dc_eq, Bool.or_eq_false_iff, Bool.not_eq_false', decide_eq_false_iff_not] at h1
    obtain ⟨⟨⟨h1a, h1b⟩, h1c⟩, h1d⟩ := h1
    refine gO_ ?_
    refine wc_loop (fun k : Nat => i < k ∧ k ≤ j ∧ ∀ m, i < m → m < k → (decide ((evi t m).dir = 2) && lcB t i m) = false) (fun k => [(6, true, .int .i64 k), (2, true, .pointer (some ⟨bb, 0, none⟩)), (1, true, .int .i64 j), (0, true, .int .i64 i)])
      (fun _ => Mem [(w, All)] []) (fun k => j - k) (i + 1) ⟨by omega, by omega, fun m h1 h2 => by omega⟩ ⟨rfl, rfl, rfl, rfl, trivial⟩ (fun _ h => h.last rfl) ?_
    rintro k ⟨hik, hkj, hno⟩
    refine gO_ ?_
    refine wc_cond rfl (fun h2 => ?_) (fun h2 => ?_)
    · have h2' : k < j := by rw [dc_true] at h2; omega
      refine gO_ ?_
      refine wl_fx (fx_call (spec := fun w' hw => writes_spec k w' (h.now hw (.head _)) (by omega)) (next := ?_))
      rintro v n2 w2 rfl hn2
      refine gO_ ?_
      refine wl_gx (h := gx_call (spec := fun _ w' hw => alike_ok i k w' (h.now hw (.tail _ (.head _))) (by omega) (by omega))) (next := ?_)
      refine gO_ ?_
      refine wc_cond rfl (fun h3 => ?_) (fun h3 => ?_)
      · refine gO_ ?_
        refine pur_ret Tryz.results115 (.tmp rfl .nil) (.tail _ (.head _)) fun w' hw => ?_
        refine hlast ?_
        rw [Bool.eq_false_iff]
        intro q
        have hgap : gapB t i j = true := by
          rw [Bool.and_eq_true] at h3
          unfold gapB
          rw [List.any_eq_true]
          exact ⟨k, List.mem_range.2 (by omega), by rw [btw_iff ht hj (by omega) hij hth, h3.1, h3.2, decide_eq_true hik, decide_eq_true h2']; rfl⟩
        unfold unlB at q
        rw [hgap] at q
        simp at q
      · refine gO_ ?_
        refine po_loop (k + 1) ⟨by omega, by omega, fun m g1 g2 => ?_⟩ (by omega) ⟨rfl, rfl, rfl, rfl, trivial⟩ (fun _ h => h.last rfl)
        by_cases q : m < k
        · exact hno m g1 q
        · obtain rfl : m = k := by omega
          exact h3
    · have hkj' : k = j := by rw [dc_false] at h2; omega
      refine gO_ ?_
      refine pur_ret Tryz.results115 (.tmp rfl .nil) (.head _) fun w' hw => ?_
      refine hlast ?_
      have hgap : gapB t i j = false := by
        rw [Bool.eq_false_iff]
        intro q
        unfold gapB at q
        rw [List.any_eq_true] at q
        obtain ⟨m, hm, q⟩ := q
        rw [List.mem_range] at hm
        rw [btw_iff ht hj hm hij hth] at q
        simp only [Bool.and_eq_true, decide_eq_true_eq] at q
        have := hno m q.1.1.1 (by omega)
        rw [q.2, decide_eq_true q.1.2] at this
        cases this
      unfold unlB
      rw [hgap, h1c, decide_eq_true (show (evi t i).dir = 1 by omega), decide_eq_true (show (evi t j).dir = 1 by omega), decide_eq_false h1d]; rfl

set_option maxHeartbeats 6400000 in
theorem passed1_spec {lv iv ev bv av dv cv tv nv fv ov s1 s2 s3 s4 s5 s6 s7 s8 s9 sf sa sd sc : Value} {t : Tr} {c : Cd} {ba : Nat} (i j bb : Nat) (w : World) (h : AkIn w ba lv iv ev bv av dv cv tv nv fv ov s1 s2 s3 s4 s5 s6 s7 s8 s9 sf sa sd sc t c) (hb2 : Bx All w bb [.pointer (some ⟨ba, 0, none⟩)]) (hij : i < j) (hj : j < t.evs.length) (hth : Vw.thB t i j = true) :
    Pur Tryz.prog 118 [.int .i64 i, .int .i64 j, .pointer (some ⟨bb, 0, none⟩)] w fun _ v _ => v = .bool (pasB t c i j) := by
  have hbx := h.bx
  have hF := h.cd.rf
  have hE := h.tr.evs; have hEl := hE.le
  obtain ⟨ht, hcb⟩ := cdE_ok h.z
  have hrl := ((candB_iff t c).1 hcb).1
  have hb := (trOk_lens ht).1
  have hrj : j < c.rf.length := by omega
  have hdj := trOk_dir ht hj
  refine enter_pur Tryz.func118 Tryz.ntmps118 rfl rfl ?_
  (refine gO_ ?_; repeat ((first | refine wl_a (h := qy_nilCheck) (next := ?_) | refine wl_ag (h := qy_nilCheck) (next := ?_)); refine gO_ ?_))
  generalize hx : c.rf.getD j default = x
  refine wc_draw [0, 1, 2, 3, 4, 5, 6, 7, 8, 9, 10, 11, 12, 13, 14, 15, 16, 17, 18, 19, 20, 21, 22, 23, 24, 25, 26, 27, 28, 29, 30, 31, 32, 33, 34, 35, 36, 37, 38, 39, 40, 41, 42, 43, 44, 45, 46, 47, 48, 49, 50, 51, 52, 53] mixed ?_
  refine kG_ ?_
  refine kg_f _ (h := fx_call (spec := fun w' hw => writes_spec j w' (h.now hw (.head _)) hj) (next := ?_)) (hSS := fun _ h => h)
  rintro v n1 w1 rfl hn1
  refine kp_S ?_ (fun _ h => h.tailB)
  refine kp_mem (A' := Mem [(w, All)] []) (fun _ h => h.tailB) ?_
  (refine kG_ ?_; repeat ((first | refine kg_a (h := qy_nilCheck) (next := ?_) | refine kg_ag (h := qy_nilCheck) (next := ?_)); refine kG_ ?_))
  refine kg_gx (h := gx_call (spec := fun _ w' hw => has_spec t.evs.length sa (relOf t.evs.length (memb t.addr)) i x w' (hw.now h.ra (.head _)))) (next := ?_)
  (refine kG_ ?_; repeat ((first | refine kg_a (h := qy_nilCheck) (next := ?_) | refine kg_ag (h := qy_nilCheck) (next := ?_)); refine kG_ ?_))
  refine kg_gx (h := gx_call (spec := fun _ w' hw => has_spec t.evs.length sd (relOf t.evs.length (memb t.data)) i x w' (hw.now h.rd (.head _)))) (next := ?_)
  (refine kG_ ?_; repeat ((first | refine kg_a (h := qy_nilCheck) (next := ?_) | refine kg_ag (h := qy_nilCheck) (next := ?_)); refine kG_ ?_))
  refine gO_ ?_
  refine pur_ret Tryz.results118 (.tmp rfl .nil) (.head _) fun w' hw => ?_
  refine (show ∀ {v : Bool}, v = pasB t c i j → retV [.bool v] = .bool (pasB t c i j) from fun e => by rw [e]; rfl) ?_
  simp only [dc_eq]
  unfold pasB
  rw [hx]
  rcases rf_fact hcb hj with q | ⟨q1, q2⟩
  · have hx1 : x = -1 := by rw [← hx]; exact q
    subst hx1
    rw [decide_eq_false (show ¬ ((i : Int) < -1) by omega), decide_eq_false (show ¬ ((0 : Int) ≤ -1) by omega)]
    simp
  · obtain ⟨k, hk, e, hkd, hkl⟩ := mem_wr.1 q2
    have hxk : x = (k : Int) := by rw [← hx]; exact e
    subst hxk
    rw [decide_eq_false (show ¬ (evi t j).dir = 2 by omega), decide_eq_true q1, decide_eq_true (show (0 : Int) ≤ (k : Int) by omega), Int.toNat_natCast]
    rw [has_memb hb _ (by omega) hk, has_memb hb _ (by omega) hk]
    by_cases hik : i < k
    · by_cases hkj : k < j
      · rw [btw_iff ht hj hk hij hth, decide_eq_true hik, decide_eq_true hkj, decide_eq_true (show (i : Int) < (k : Int) by omega), decide_eq_true (show (k : Int) < (j : Int) by omega)]
        have := (th_mid ht hik hkj hj hth).2
        unfold Vw.thB at this
        rw [decide_eq_true_eq] at this
        rw [show decide ((t.evs.getD k default).thread = (t.evs.getD j default).thread) = true from decide_eq_true this]
        simp
      · rw [btw_iff ht hj hk hij hth, decide_eq_false hkj, decide_eq_false (show ¬ (k : Int) < (j : Int) by omega)]
        simp
    · rw [btw_iff ht hj hk hij hth, decide_eq_false hik, decide_eq_false (show ¬ (i : Int) < (k : Int) by omega)]
      simp

set_option maxHeartbeats 1600000 in
theorem rvnone_spec {lv iv ev bv av dv cv tv nv fv ov s1 s2 s3 s4 s5 s6 s7 s8 s9 sf sa sd sc : Value} {t : Tr} {c : Cd} {ba : Nat} (w : World) (h : AkIn w ba lv iv ev bv av dv cv tv nv fv ov s1 s2 s3 s4 s5 s6 s7 s8 s9 sf sa sd sc t c) :
    Mk Tryz.prog 72 [.pointer (some ⟨ba, 0, none⟩)] w (Rel1Ψ t.evs.length (relOf t.evs.length fun i j => poP t i j && (fun _ _ => false) i j)) := by
  refine enter_mk Tryz.func72 Tryz.ntmps72 rfl rfl ?_
  refine gO_ ?_
  refine wl_fx (fx_alloc (next := ?_)); intro b2
  refine gO_ ?_
  refine wl_fx (fx_call_mk (spec := fun w' hw => rvpairs_spec 90 [] (fun _ _ => false) w' (h.now hw (.head _)) fun i j w2 hij hj hth hw2 => none1_spec i j w2) (next := ?_))
  rintro v n1 es w1 ⟨sv, hsv, rfl, rfl⟩
  refine gO_ ?_
  refine wl_fx (fx_store_box (i := 1) (hi := rfl) (next := ?_))
  refine gO_ ?_
  exact mk_ret Tryz.results72 (.cellN inferInstance rfl (.tail _ (.head _)) rfl .nil) (.tail _ (.head _)) [_] [0] rfl (by decide) fun w' hw => ⟨sv, hsv, rfl, rfl⟩

set_option maxHeartbeats 1600000 in
theorem rvover_spec {lv iv ev bv av dv cv tv nv fv ov s1 s2 s3 s4 s5 s6 s7 s8 s9 sf sa sd sc : Value} {t : Tr} {c : Cd} {ba : Nat} (w : World) (h : AkIn w ba lv iv ev bv av dv cv tv nv fv ov s1 s2 s3 s4 s5 s6 s7 s8 s9 sf sa sd sc t c) :
    Mk Tryz.prog 99 [.pointer (some ⟨ba, 0, none⟩)] w (Rel1Ψ t.evs.length (relOf t.evs.length fun i j => poP t i j && (overB t) i j)) := by
  refine enter_mk Tryz.func99 Tryz.ntmps99 rfl rfl ?_
  refine gO_ ?_
  refine wl_fx (fx_box (next := ?_)); intro bb
  refine gO_ ?_
  refine wl_fx (fx_alloc (next := ?_)); intro b2
  refine gO_ ?_
  refine wl_fx (fx_call_mk (spec := fun w' hw => rvpairs_spec 112 [.pointer (some ⟨bb, 0, none⟩)] (overB t) w' (h.now hw (.head _)) fun i j w2 hij hj hth hw2 =>
    over1_spec i j bb w2 ((h.now hw (.head _)).now hw2 (.head _)) ((hw.bx (S := All) (.tail _ (.head _)) trivial).mono (hw2.base _ (.head _)) fun _ => trivial) hij hj) (next := ?_))
  rintro v n1 es w1 ⟨sv, hsv, rfl, rfl⟩
  refine gO_ ?_
  refine wl_fx (fx_store_box (i := 1) (hi := rfl) (next := ?_))
  refine gO_ ?_
  exact mk_ret Tryz.results99 (.cellN inferInstance rfl (.tail _ (.head _)) rfl .nil) (.tail _ (.head _)) [_] [0] rfl (by decide) fun w' hw => ⟨sv, hsv, rfl, rfl⟩

set_option maxHeartbeats 1600000 in
theorem rvunlike_spec {lv iv ev bv av dv cv tv nv fv ov s1 s2 s3 s4 s5 s6 s7 s8 s9 sf sa sd sc : Value} {t : Tr} {c : Cd} {ba : Nat} (w : World) (h : AkIn w ba lv iv ev bv av dv cv tv nv fv ov s1 s2 s3 s4 s5 s6 s7 s8 s9 sf sa sd sc t c) :
    Mk Tryz.prog 100 [.pointer (some ⟨ba, 0, none⟩)] w (Rel1Ψ t.evs.length (relOf t.evs.length fun i j => poP t i j && (unlB t c) i j)) := by
  refine enter_mk Tryz.func100 Tryz.ntmps100 rfl rfl ?_
  refine gO_ ?_
  refine wl_fx (fx_box (next := ?_)); intro bb
  refine gO_ ?_
  refine wl_fx (fx_alloc (next := ?_)); intro b2
  refine gO_ ?_
  refine wl_fx (fx_call_mk (spec := fun w' hw => rvpairs_spec 115 [.pointer (some ⟨bb, 0, none⟩)] (unlB t c) w' (h.now hw (.head _)) fun i j w2 hij hj hth hw2 =>
    unlike1_spec i j bb w2 ((h.now hw (.head _)).now hw2 (.head _)) ((hw.bx (S := All) (.tail _ (.head _)) trivial).mono (hw2.base _ (.head _)) fun _ => trivial) hij hj hth) (next := ?_))
  rintro v n1 es w1 ⟨sv, hsv, rfl, rfl⟩
  refine gO_ ?_
  refine wl_fx (fx_store_box (i := 1) (hi := rfl) (next := ?_))
  refine gO_ ?_
  exact mk_ret Tryz.results100 (.cellN inferInstance rfl (.tail _ (.head _)) rfl .nil) (.tail _ (.head _)) [_] [0] rfl (by decide) fun w' hw => ⟨sv, hsv, rfl, rfl⟩

set_option maxHeartbeats 1600000 in
theorem rvbranches_spec {lv iv ev bv av dv cv tv nv fv ov s1 s2 s3 s4 s5 s6 s7 s8 s9 sf sa sd sc : Value} {t : Tr} {c : Cd} {ba : Nat} (w : World) (h : AkIn w ba lv iv ev bv av dv cv tv nv fv ov s1 s2 s3 s4 s5 s6 s7 s8 s9 sf sa sd sc t c) :
    Mk Tryz.prog 104 [.pointer (some ⟨ba, 0, none⟩)] w (Rel1Ψ t.evs.length (relOf t.evs.length fun i j => poP t i j && (fun i j => decide ((evi t j).dir = 2) && memb t.ctrl i j) i j)) := by
  refine enter_mk Tryz.func104 Tryz.ntmps104 rfl rfl ?_
  refine gO_ ?_
  refine wl_fx (fx_box (next := ?_)); intro bb
  refine gO_ ?_
  refine wl_fx (fx_alloc (next := ?_)); intro b2
  refine gO_ ?_
  refine wl_fx (fx_call_mk (spec := fun w' hw => rvpairs_spec 116 [.pointer (some ⟨bb, 0, none⟩)] (fun i j => decide ((evi t j).dir = 2) && memb t.ctrl i j) w' (h.now hw (.head _)) fun i j w2 hij hj hth hw2 =>
    branches1_spec i j bb w2 ((h.now hw (.head _)).now hw2 (.head _)) ((hw.bx (S := All) (.tail _ (.head _)) trivial).mono (hw2.base _ (.head _)) fun _ => trivial) hij hj) (next := ?_))
  rintro v n1 es w1 ⟨sv, hsv, rfl, rfl⟩
  refine gO_ ?_
  refine wl_fx (fx_store_box (i := 1) (hi := rfl) (next := ?_))
  refine gO_ ?_
  exact mk_ret Tryz.results104 (.cellN inferInstance rfl (.tail _ (.head _)) rfl .nil) (.tail _ (.head _)) [_] [0] rfl (by decide) fun w' hw => ⟨sv, hsv, rfl, rfl⟩

set_option maxHeartbeats 1600000 in
theorem rvpassed_spec {lv iv ev bv av dv cv tv nv fv ov s1 s2 s3 s4 s5 s6 s7 s8 s9 sf sa sd sc : Value} {t : Tr} {c : Cd} {ba : Nat} (w : World) (h : AkIn w ba lv iv ev bv av dv cv tv nv fv ov s1 s2 s3 s4 s5 s6 s7 s8 s9 sf sa sd sc t c) :
    Mk Tryz.prog 105 [.pointer (some ⟨ba, 0, none⟩)] w (Rel1Ψ t.evs.length (relOf t.evs.length fun i j => poP t i j && (pasB t c) i j)) := by
  refine enter_mk Tryz.func105 Tryz.ntmps105 rfl rfl ?_
  refine gO_ ?_
  refine wl_fx (fx_box (next := ?_)); intro bb
  refine gO_ ?_
  refine wl_fx (fx_alloc (next := ?_)); intro b2
  refine gO_ ?_
  refine wl_fx (fx_call_mk (spec := fun w' hw => rvpairs_spec 118 [.pointer (some ⟨bb, 0, none⟩)] (pasB t c) w' (h.now hw (.head _)) fun i j w2 hij hj hth hw2 =>
    passed1_spec i j bb w2 ((h.now hw (.head _)).now hw2 (.head _)) ((hw.bx (S := All) (.tail _ (.head _)) trivial).mono (hw2.base _ (.head _)) fun _ => trivial) hij hj hth) (next := ?_))
  rintro v n1 es w1 ⟨sv, hsv, rfl, rfl⟩
  refine gO_ ?_
  refine wl_fx (fx_store_box (i := 1) (hi := rfl) (next := ?_))
  refine gO_ ?_
  exact mk_ret Tryz.results105 (.cellN inferInstance rfl (.tail _ (.head _)) rfl .nil) (.tail _ (.head _)) [_] [0] rfl (by decide) fun w' hw => ⟨sv, hsv, rfl, rfl⟩

set_option maxHeartbeats 1600000 in
theorem rvbehind_spec {lv iv ev bv av dv cv tv nv fv ov s1 s2 s3 s4 s5 s6 s7 s8 s9 sf sa sd sc : Value} {t : Tr} {c : Cd} {ba : Nat} (w : World) (h : AkIn w ba lv iv ev bv av dv cv tv nv fv ov s1 s2 s3 s4 s5 s6 s7 s8 s9 sf sa sd sc t c) :
    Mk Tryz.prog 106 [.pointer (some ⟨ba, 0, none⟩)] w (Rel1Ψ t.evs.length (relOf t.evs.length fun i j => poP t i j && (behB t) i j)) := by
  refine enter_mk Tryz.func106 Tryz.ntmps106 rfl rfl ?_
  refine gO_ ?_
  refine wl_fx (fx_box (next := ?_)); intro bb
  refine gO_ ?_
  refine wl_fx (fx_alloc (next := ?_)); intro b2
  refine gO_ ?_
  refine wl_fx (fx_call_mk (spec := fun w' hw => rvpairs_spec 119 [.pointer (some ⟨bb, 0, none⟩)] (behB t) w' (h.now hw (.head _)) fun i j w2 hij hj hth hw2 =>
    behind1_spec i j bb w2 ((h.now hw (.head _)).now hw2 (.head _)) ((hw.bx (S := All) (.tail _ (.head _)) trivial).mono (hw2.base _ (.head _)) fun _ => trivial) hij hj hth) (next := ?_))
  rintro v n1 es w1 ⟨sv, hsv, rfl, rfl⟩
  refine gO_ ?_
  refine wl_fx (fx_store_box (i := 1) (hi := rfl) (next := ?_))
  refine gO_ ?_
  exact mk_ret Tryz.results106 (.cellN inferInstance rfl (.tail _ (.head _)) rfl .nil) (.tail _ (.head _)) [_] [0] rfl (by decide) fun w' hw => ⟨sv, hsv, rfl, rfl⟩

set_option maxHeartbeats 1600000 in
theorem rvfences_spec {lv iv ev bv av dv cv tv nv fv ov s1 s2 s3 s4 s5 s6 s7 s8 s9 sf sa sd sc : Value} {t : Tr} {c : Cd} {ba : Nat} (w : World) (h : AkIn w ba lv iv ev bv av dv cv tv nv fv ov s1 s2 s3 s4 s5 s6 s7 s8 s9 sf sa sd sc t c) :
    Pur Tryz.prog 101 [.pointer (some ⟨ba, 0, none⟩)] w fun _ v _ => v = .agg #[.int .i64 t.evs.length, sf] := by
  have hbx := h.bx
  have hs := h.rf.sv
  refine enter_pur Tryz.func101 Tryz.ntmps101 rfl rfl ?_
  refine gO_ ?_
  refine wl_fx (fx_alloc (next := ?_)); intro b2
  (refine gO_ ?_; repeat ((first | refine wl_a (h := qy_nilCheck) (next := ?_) | refine wl_ag (h := qy_nilCheck) (next := ?_)); refine gO_ ?_))
  refine wl_fx (fx_store_box (i := 0) (hi := rfl) (next := ?_))
  refine gO_ ?_
  refine pur_ret Tryz.results101 (.cellN inferInstance rfl (.head _) rfl .nil) (.head _) fun w' hw => ?_
  rfl

set_option maxHeartbeats 1600000 in
theorem rvaddresses_spec {lv iv ev bv av dv cv tv nv fv ov s1 s2 s3 s4 s5 s6 s7 s8 s9 sf sa sd sc : Value} {t : Tr} {c : Cd} {ba : Nat} (w : World) (h : AkIn w ba lv iv ev bv av dv cv tv nv fv ov s1 s2 s3 s4 s5 s6 s7 s8 s9 sf sa sd sc t c) :
    Pur Tryz.prog 102 [.pointer (some ⟨ba, 0, none⟩)] w fun _ v _ => v = .agg #[.int .i64 t.evs.length, sa] := by
  have hbx := h.bx
  have hs := h.ra.sv
  refine enter_pur Tryz.func102 Tryz.ntmps102 rfl rfl ?_
  refine gO_ ?_
  refine wl_fx (fx_alloc (next := ?_)); intro b2
  (refine gO_ ?_; repeat ((first | refine wl_a (h := qy_nilCheck) (next := ?_) | refine wl_ag (h := qy_nilCheck) (next := ?_)); refine gO_ ?_))
  refine wl_fx (fx_store_box (i := 0) (hi := rfl) (next := ?_))
  refine gO_ ?_
  refine pur_ret Tryz.results102 (.cellN inferInstance rfl (.head _) rfl .nil) (.head _) fun w' hw => ?_
  rfl

set_option maxHeartbeats 1600000 in
theorem rvvalues_spec {lv iv ev bv av dv cv tv nv fv ov s1 s2 s3 s4 s5 s6 s7 s8 s9 sf sa sd sc : Value} {t : Tr} {c : Cd} {ba : Nat} (w : World) (h : AkIn w ba lv iv ev bv av dv cv tv nv fv ov s1 s2 s3 s4 s5 s6 s7 s8 s9 sf sa sd sc t c) :
    Pur Tryz.prog 103 [.pointer (some ⟨ba, 0, none⟩)] w fun _ v _ => v = .agg #[.int .i64 t.evs.length, sd] := by
  have hbx := h.bx
  have hs := h.rd.sv
  refine enter_pur Tryz.func103 Tryz.ntmps103 rfl rfl ?_
  refine gO_ ?_
  refine wl_fx (fx_alloc (next := ?_)); intro b2
  (refine gO_ ?_; repeat ((first | refine wl_a (h := qy_nilCheck) (next := ?_) | refine wl_ag (h := qy_nilCheck) (next := ?_)); refine gO_ ?_))
  refine wl_fx (fx_store_box (i := 0) (hi := rfl) (next := ?_))
  refine gO_ ?_
  refine pur_ret Tryz.results103 (.cellN inferInstance rfl (.head _) rfl .nil) (.head _) fun w' hw => ?_
  rfl

end Go.Proofs.YtifgncgiiojikaaGreatDoor
