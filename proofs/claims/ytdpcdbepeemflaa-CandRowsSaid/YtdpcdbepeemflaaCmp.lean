/- alembicref02.Compare, Alike; alembicref16.Same (the same as in XScC, XScE: never import both). -/
import Derived.Test.YtdpcdbepeemflaaCaE
set_option linter.unusedSimpArgs false
set_option linter.unusedVariables false
namespace Go.Proofs.Ytdpcdbepeemflaa
open Go Go.Eng Go.Tc
attribute [local irreducible] wpList Code.wp bodyPost Exit.then Exit.inBlock Calls
theorem getD_ext {α : Type} [Inhabited α] {l m : List α} (hl : l.length = m.length) (h : ∀ i, i < l.length → l.getD i default = m.getD i default) : l = m := by
  apply List.ext_getElem hl
  intro i h1 h2
  have := h i h1
  rwa [List.getD_eq_getElem?_getD, List.getD_eq_getElem?_getD, List.getElem?_eq_getElem h1, List.getElem?_eq_getElem h2] at this
def cmpL : List Int → List Int → Int
  | [], [] => 0
  | [], _ :: _ => -1
  | _ :: _, [] => 1
  | x :: xs, y :: ys => if x < y then -1 else if y < x then 1 else cmpL xs ys
theorem cmpL_self : ∀ l : List Int, cmpL l l = 0
  | [] => rfl
  | x :: l => by unfold cmpL; rw [if_neg (Int.lt_irrefl x), if_neg (Int.lt_irrefl x)]; exact cmpL_self l
theorem cmpL_eq : ∀ {a b : List Int}, cmpL a b = 0 ↔ a = b
  | [], [] => by simp [cmpL]
  | [], _ :: _ => by simp [cmpL]
  | _ :: _, [] => by simp [cmpL]
  | x :: xs, y :: ys => by
    unfold cmpL
    by_cases h1 : x < y
    · rw [if_pos h1]; simp; intro h; omega
    · by_cases h2 : y < x
      · rw [if_neg h1, if_pos h2]; simp; intro h; omega
      · rw [if_neg h1, if_neg h2, cmpL_eq, show x = y by omega]; simp
theorem cmp_step {xs ys : List Int} {i : Nat} (h1 : i < xs.length) (h2 : i < ys.length) : cmpL (xs.drop i) (ys.drop i) = if xs.getD i default < ys.getD i default then -1 else if ys.getD i default < xs.getD i default then 1 else cmpL (xs.drop (i + 1)) (ys.drop (i + 1)) := by
  rw [List.drop_eq_getElem_cons h1, List.drop_eq_getElem_cons h2, List.getD_eq_getElem?_getD, List.getD_eq_getElem?_getD, List.getElem?_eq_getElem h1, List.getElem?_eq_getElem h2]
  rfl
theorem cmp_end {xs ys : List Int} {i : Nat} (h : i ≤ xs.length) (h' : i ≤ ys.length) (h2 : ¬ (i < xs.length ∧ i < ys.length)) : cmpL (xs.drop i) (ys.drop i) = if xs.length < ys.length then -1 else if ys.length < xs.length then 1 else 0 := by
  by_cases h1 : i < xs.length
  · have h3 : i = ys.length := by omega
    rw [if_neg (by omega), if_pos (by omega), List.drop_eq_getElem_cons h1, show ys.drop i = [] from List.drop_eq_nil_of_le (by omega)]; rfl
  · have h3 : i = xs.length := by omega
    by_cases h4 : i < ys.length
    · rw [if_pos (by omega), List.drop_eq_getElem_cons h4, show xs.drop i = [] from List.drop_eq_nil_of_le (by omega)]; rfl
    · rw [if_neg (by omega), if_neg (by omega), List.drop_eq_nil_of_le (by omega), List.drop_eq_nil_of_le (by omega)]; rfl

set_option maxHeartbeats 1600000 in
theorem compare_spec (sa sb : Value) (xs ys : List Int) (w : World) (ha : Sl All w Eng.encI 1 sa xs) (hb : Sl All w Eng.encI 1 sb ys) :
    Pur Try.prog 38 [sa, sb] w fun _ v _ => v = .int .i64 (cmpL xs ys) := by
  have hal := ha.le
  have hbl := hb.le
  have has := ha.sv
  have hbs := hb.sv
  refine enter_pur Try.func38 Try.ntmps38 rfl rfl ?_
  refine gO_ ?_
  refine wc_loop (fun i : Nat => i ≤ xs.length ∧ i ≤ ys.length ∧ cmpL xs ys = cmpL (xs.drop i) (ys.drop i)) (fun s => [(5, true, .int .i64 s), (1, true, sb), (0, true, sa)])
    (fun _ => Mem [(w, All)] []) (fun s => xs.length - s) 0 ⟨Nat.zero_le _, Nat.zero_le _, rfl⟩ ⟨rfl, rfl, rfl, trivial⟩ (fun _ h => h.last rfl) ?_
  rintro i ⟨hi, hi', hE⟩
  refine gO_ ?_
  refine wc_cond rfl (fun h1 => ?_) (fun h1 => ?_)
  · simp only [dc_eq, Bool.and_eq_true, decide_eq_true_eq] at h1
    have h1a : i < xs.length := by omega
    have h1b : i < ys.length := by omega
    refine gO_ ?_
    refine wc_draw [0, 1, 2, 3, 4, 5, 6, 7, 8] mixed ?_
    refine kG_ ?_
    refine gO_ ?_
    refine wc_cond rfl (fun h2 => ?_) (fun h2 => ?_)
    · rw [dc_true] at h2
      refine gO_ ?_
      refine pur_ret Try.results38 (.tmp rfl .nil) (.head _) fun w' hw => ?_
      rw [hE, cmp_step h1a h1b, if_pos h2]; rfl
    · rw [dc_false] at h2
      refine gO_ ?_
      refine wc_draw [0, 1, 2, 3, 4, 5, 6, 7, 8] mixed ?_
      refine kG_ ?_
      refine gO_ ?_
      refine wc_cond rfl (fun h3 => ?_) (fun h3 => ?_)
      · rw [dc_true] at h3
        refine gO_ ?_
        refine pur_ret Try.results38 (.tmp rfl .nil) (.head _) fun w' hw => ?_
        rw [hE, cmp_step h1a h1b, if_neg h2, if_pos h3]; rfl
      · rw [dc_false] at h3
        refine gO_ ?_
        exact po_loop (i + 1) ⟨by omega, by omega, by rw [hE, cmp_step h1a h1b, if_neg h2, if_neg h3]⟩ (by omega) ⟨rfl, rfl, rfl, trivial⟩ (fun _ h => h)
  · have h1' : ¬ (i < xs.length ∧ i < ys.length) := fun q => by
      simp only [dc_eq, Bool.and_eq_false_iff, decide_eq_false_iff_not] at h1
      omega
    refine gO_ ?_
    refine wc_cond rfl (fun h4 => ?_) (fun h4 => ?_)
    · rw [dc_true] at h4
      refine gO_ ?_
      refine pur_ret Try.results38 (.tmp rfl .nil) (.head _) fun w' hw => ?_
      rw [hE, cmp_end hi hi' h1', if_pos (by omega)]; rfl
    · rw [dc_false] at h4
      refine gO_ ?_
      refine wc_cond rfl (fun h5 => ?_) (fun h5 => ?_)
      · rw [dc_true] at h5
        refine gO_ ?_
        refine pur_ret Try.results38 (.tmp rfl .nil) (.head _) fun w' hw => ?_
        rw [hE, cmp_end hi hi' h1', if_neg (by omega), if_pos (by omega)]; rfl
      · rw [dc_false] at h5
        refine gO_ ?_
        refine pur_ret Try.results38 (.tmp rfl .nil) (.head _) fun w' hw => ?_
        rw [hE, cmp_end hi hi' h1', if_neg (by omega), if_neg (by omega)]; rfl

set_option maxHeartbeats 800000 in
theorem alike_spec (sa sb : Value) (xs ys : List Int) (w : World) (ha : Sl All w Eng.encI 1 sa xs) (hb : Sl All w Eng.encI 1 sb ys) :
    Pur Try.prog 30 [sa, sb] w fun _ v _ => v = .bool (decide (xs = ys)) := by
  refine enter_pur Try.func30 Try.ntmps30 rfl rfl ?_
  refine gO_ ?_
  refine wl_fx (fx_call (spec := fun w' hw => compare_spec sa sb xs ys w' (hw.now ha (.head _)) (hw.now hb (.head _))) (next := ?_))
  rintro v n1 w1 rfl hn1
  refine gO_ ?_
  refine pur_ret Try.results30 (.tmp rfl .nil) (.tail _ (.head _)) fun w' hw => ?_
  have : dc (cmpL xs ys = 0) = decide (xs = ys) := by rw [dc_eq, decide_eq_decide]; exact cmpL_eq
  rw [this]; rfl

set_option maxHeartbeats 3200000 in
theorem same16_spec (fa oa fb ob : Value) (a b : Cd) (w : World) (ha : CdIn All w fa oa a) (hb : CdIn All w fb ob b) :
    Pur Try.prog 8 [.agg #[fa, oa], .agg #[fb, ob]] w fun _ v _ => v = .bool (decide (a.rf = b.rf ∧ a.co = b.co)) := by
  have hfa := ha.rf; have hfb := hb.rf
  have s1 := hfa.sv; have s2 := hfb.sv; have s3 := ha.cov; have s4 := hb.cov
  have l1 := hfa.le; have l2 := hfb.le
  obtain ⟨va, hva, hal, hai⟩ := ha.co
  obtain ⟨vb, hvb, hbl, hbi⟩ := hb.co
  have l3 := hva.le; have l4 := hvb.le
  refine enter_pur Try.func8 Try.ntmps8 rfl rfl ?_
  refine gO_ ?_
  refine wl_fx (fx_box (next := ?_)); intro ba
  refine gO_ ?_
  refine wl_fx (fx_box (next := ?_)); intro bb
  refine gO_ ?_
  refine wc_cond rfl (fun h1 => ?_) (fun h1 => ?_)
  · have h1' : ¬ (a.rf = b.rf ∧ a.co = b.co) := fun q => by
      have e1 : a.rf.length = b.rf.length := by rw [q.1]
      have e2 : va.length = vb.length := by rw [hal, hbl, q.2]
      simp [dc_eq, e1, e2] at h1
    refine gO_ ?_
    refine pur_ret Try.results8 (.tmp rfl .nil) (.head _) fun w' hw => ?_
    rw [decide_eq_false h1']; rfl
  · have h1' : a.rf.length = b.rf.length ∧ va.length = vb.length := by
      simp only [dc_eq, Bool.or_eq_false_iff, Bool.not_eq_false', decide_eq_true_eq] at h1
      omega
    refine gO_ ?_
    refine wc_loop (fun i : Nat => i ≤ a.rf.length ∧ ∀ j, j < i → a.rf.getD j default = b.rf.getD j default) (fun s => [(5, true, .int .i64 s), (3, true, .pointer (some ⟨bb, 0, none⟩)), (2, true, .pointer (some ⟨ba, 0, none⟩))])
      (fun _ => Mem [(w, All)] [.box bb [fb, ob] 33, .box ba [fa, oa] 33]) (fun s => a.rf.length - s) 0 ⟨Nat.zero_le _, fun j hj => absurd hj (Nat.not_lt_zero _)⟩ ⟨rfl, rfl, rfl, trivial⟩ (fun _ h => h.last rfl) ?_
    rintro i ⟨hi, hI⟩
    refine gO_ ?_
    refine wc_cond rfl (fun h2 => ?_) (fun h2 => ?_)
    · have h2' : i < a.rf.length := by rw [dc_true] at h2; omega
      have h2b : i < b.rf.length := by omega
      refine gO_ ?_
      refine wc_draw [0, 1, 2, 3, 4, 5, 6, 7, 8, 9, 10] mixed ?_
      refine kG_ ?_
      refine gO_ ?_
      refine wc_cond rfl (fun h3 => ?_) (fun h3 => ?_)
      · rw [Bool.not_eq_true', dc_false] at h3
        refine gO_ ?_
        refine pur_ret Try.results8 (.tmp rfl .nil) (.head _) fun w' hw => ?_
        rw [decide_eq_false fun q => h3 (by rw [q.1])]; rfl
      · rw [Bool.not_eq_false', dc_true] at h3
        refine gO_ ?_
        refine po_loop (i + 1) ⟨by omega, fun j hj => ?_⟩ (by omega) ⟨rfl, rfl, rfl, trivial⟩ (fun _ h => h)
        by_cases q : j < i
        · exact hI j q
        · obtain rfl : j = i := by omega
          exact h3
    · have hrf : a.rf = b.rf := getD_ext h1'.1 fun j hj => hI j (by rw [dc_false] at h2; omega)
      refine gO_ ?_
      refine wc_loop (fun i : Nat => i ≤ va.length ∧ ∀ j, j < i → a.co.getD j default = b.co.getD j default) (fun s => [(6, true, .int .i64 s), (3, true, .pointer (some ⟨bb, 0, none⟩)), (2, true, .pointer (some ⟨ba, 0, none⟩))])
        (fun _ => Mem [(w, All)] [.box bb [fb, ob] 33, .box ba [fa, oa] 33]) (fun s => va.length - s) 0 ⟨Nat.zero_le _, fun j hj => absurd hj (Nat.not_lt_zero _)⟩ ⟨rfl, rfl, rfl, trivial⟩ (fun _ h => h) ?_
      rintro i ⟨hi, hI⟩
      refine gO_ ?_
      refine wc_cond rfl (fun h4 => ?_) (fun h4 => ?_)
      · have h4' : i < va.length := by rw [dc_true] at h4; omega
        have h4b : i < vb.length := by omega
        have hx := hai i (by omega)
        have hy := hbi i (by omega)
        have lx := hx.le; have ly := hy.le
        refine gO_ ?_
        refine wc_draw [0, 1, 2, 3, 4, 5, 6, 7, 8, 9, 10, 11, 12] mixed ?_
        refine kG_ ?_
        refine gO_ ?_
        refine wc_cond rfl (fun h5 => ?_) (fun h5 => ?_)
        · rw [Bool.not_eq_true', dc_false] at h5
          refine gO_ ?_
          refine pur_ret Try.results8 (.tmp rfl .nil) (.head _) fun w' hw => ?_
          rw [decide_eq_false fun q => h5 (by rw [q.2])]; rfl
        · rw [Bool.not_eq_false', dc_true] at h5
          have h5' : (a.co.getD i default).length = (b.co.getD i default).length := by omega
          refine gO_ ?_
          refine wc_loop (fun k : Nat => k ≤ (a.co.getD i default).length ∧ ∀ j, j < k → (a.co.getD i default).getD j default = (b.co.getD i default).getD j default) (fun s => [(7, true, .int .i64 s), (6, true, .int .i64 i), (3, true, .pointer (some ⟨bb, 0, none⟩)), (2, true, .pointer (some ⟨ba, 0, none⟩))])
            (fun _ => Mem [(w, All)] [.box bb [fb, ob] 33, .box ba [fa, oa] 33]) (fun s => (a.co.getD i default).length - s) 0 ⟨Nat.zero_le _, fun j hj => absurd hj (Nat.not_lt_zero _)⟩ ⟨rfl, rfl, rfl, rfl, trivial⟩ (fun _ h => h) ?_
          rintro k ⟨hk, hK⟩
          refine gO_ ?_
          refine wc_cond rfl (fun h6 => ?_) (fun h6 => ?_)
          · have h6' : k < (a.co.getD i default).length := by rw [dc_true] at h6; omega
            have h6b : k < (b.co.getD i default).length := by omega
            refine gO_ ?_
            refine wc_draw [0, 1, 2, 3, 4, 5, 6, 7, 8, 9, 10, 11, 12, 13, 14, 15, 16] mixed ?_
            refine kG_ ?_
            refine gO_ ?_
            refine wc_cond rfl (fun h7 => ?_) (fun h7 => ?_)
            · rw [Bool.not_eq_true', dc_false] at h7
              refine gO_ ?_
              refine pur_ret Try.results8 (.tmp rfl .nil) (.head _) fun w' hw => ?_
              rw [decide_eq_false fun q => h7 (by rw [q.2])]; rfl
            · rw [Bool.not_eq_false', dc_true] at h7
              refine gO_ ?_
              refine po_loop (k + 1) ⟨by omega, fun j hj => ?_⟩ (by omega) ⟨rfl, rfl, rfl, rfl, trivial⟩ (fun _ h => h)
              by_cases q : j < k
              · exact hK j q
              · obtain rfl : j = k := by omega
                exact h7
          · have hco : a.co.getD i default = b.co.getD i default := getD_ext h5' fun j hj => hK j (by rw [dc_false] at h6; omega)
            refine gO_ ?_
            refine po_loop (i + 1) ⟨by omega, fun j hj => ?_⟩ (by omega) ⟨rfl, rfl, rfl, trivial⟩ (fun _ h => h)
            by_cases q : j < i
            · exact hI j q
            · obtain rfl : j = i := by omega
              exact hco
      · have hco : a.co = b.co := getD_ext (by omega) fun j hj => hI j (by rw [dc_false] at h4; omega)
        refine gO_ ?_
        refine pur_ret Try.results8 (.tmp rfl .nil) (.head _) fun w' hw => ?_
        rw [decide_eq_true ⟨hrf, hco⟩]; rfl

end Go.Proofs.Ytdpcdbepeemflaa
