import Derived.Test.YtdpcdbepeemflaaG03
set_option linter.unusedSimpArgs false
set_option linter.unusedVariables false
section
/- The walks: trace.ended, Check. -/
namespace Go.Tc
open Go Go.Eng
theorem outB_not (x : Thing) : (dc (x.thread < 0) || dc (16 ≤ x.thread) || dc (x.reg < 0) || dc (31 < x.reg) || !dc (x.loc = ByteArray.empty)) = !(decide (0 ≤ x.thread) && decide (x.thread < 16) && decide (0 ≤ x.reg) && decide (x.reg ≤ 31) && decide (x.loc = ByteArray.empty)) := by
  rw [Bool.eq_iff_iff]
  simp only [Bool.or_eq_true, Bool.and_eq_true, Bool.not_eq_true', Bool.and_eq_false_iff, dc_true, dc_false, decide_eq_false_iff_not]
  by_cases h : x.loc = ByteArray.empty <;> simp [h] <;> omega
end Go.Tc
namespace Go.Proofs.Ytdpcdbepeemflaa
open Go Go.Eng Go.Tc
attribute [local irreducible] wpList Code.wp bodyPost Exit.then Exit.inBlock Calls

set_option maxHeartbeats 1600000 in
theorem tended_spec {lv iv ev bv av dv cv tv nv : Value} {t : Tr} (x : Thing) (e : EndT) (w : World) (h : TrIn All w lv iv ev bv av dv cv tv nv t) (hlo : locatedB t = true) :
    Pur Try.prog 50 [.agg #[lv, iv, ev, bv, av, dv, cv, tv, nv], .agg #[.int .i64 x.thread, .int .i64 x.reg, .string x.loc], .agg #[.int .i64 e.kind, .int .i64 e.n]] w fun _ v _ => v = .bool (thingB t x e) := by
  have hE := h.evs; have hL := h.locs
  have hel := hE.le
  obtain ⟨hu, h64⟩ := locatedB_up hlo
  refine enter_pur Try.func50 Try.ntmps50 rfl rfl ?_
  refine gO_ ?_
  refine wl_fx (fx_box (next := ?_)); intro bt
  refine gO_ ?_
  refine wl_fx (fx_box (next := ?_)); intro bx
  refine gO_ ?_
  refine wl_fx (fx_box (next := ?_)); intro be
  refine gO_ ?_
  refine wc_cond rfl (fun h1 => ?_) (fun h1 => ?_)
  · have h1' : x.thread = -1 := by rwa [dc_true] at h1
    refine gO_ ?_
    refine wl_fx (fx_call (spec := fun w' hw => bsearch_spec lv x.loc t.locs w' (hw.now hL (.head _)) hu (by omega)) (next := ?_))
    rintro v n1 w1 ⟨k, b, rfl, hst⟩ hn1
    refine gO_ ?_
    refine pur_ret Try.results50 (.tmp rfl .nil) (.tail _ (.head _)) fun w' hw => ?_
    rw [locEnd_eq hu x e hst, thingB, if_pos h1']; rfl
  · have h1' : ¬ x.thread = -1 := by rwa [dc_false] at h1
    refine gO_ ?_
    refine wc_cond rfl (fun h2 => ?_) (fun h2 => ?_)
    · refine gO_ ?_
      refine pur_ret Try.results50 (.tmp rfl .nil) (.head _) fun w' hw => ?_
      have h2' := (outB_not x).symm.trans h2
      rw [Bool.not_eq_true'] at h2'
      rw [thingB, if_neg h1', h2']; rfl
    · have h2' := (outB_not x).symm.trans h2
      rw [Bool.not_eq_false'] at h2'
      refine gO_ ?_
      refine wc_cond rfl (fun h3 => ?_) (fun h3 => ?_)
      · refine gO_ ?_
        refine wl_fx (fx_call (spec := fun w' hw => tisNumber_spec e.n w') (next := ?_))
        rintro v n2 w2 rfl hn2
        refine gO_ ?_
        refine pur_ret Try.results50 (.tmp rfl .nil) (.tail _ (.head _)) fun w' hw => ?_
        rw [dc_true] at h3
        rw [thingB, if_neg h1', h2', endB]; simp [h3]; rfl
      · rw [dc_false] at h3
        refine gO_ ?_
        refine wc_cond rfl (fun h4 => ?_) (fun h4 => ?_)
        · rw [dc_true] at h4
          refine gO_ ?_
          refine wc_draw [0, 1, 2, 3, 4, 5, 6, 7, 8, 9, 10, 11, 12, 13, 14, 15, 16, 17, 18, 19, 20, 21, 22, 23, 24, 25, 26, 27, 28, 29, 30, 31, 32, 33] mixed ?_
          refine kG_ ?_
          refine gO_ ?_
          refine pur_ret Try.results50 (.tmp rfl .nil) (.head _) fun w' hw => ?_
          rw [thingB, if_neg h1', h2', endB]; simp [h4, dc_eq, Go.Tc.ev]; rfl
        · rw [dc_false] at h4
          refine gO_ ?_
          refine pur_ret Try.results50 (.tmp rfl .nil) (.head _) fun w' hw => ?_
          rw [thingB, if_neg h1', h2', endB]; simp [h3, h4]; rfl
end Go.Proofs.Ytdpcdbepeemflaa
end

section
/- The walks: trace.Check. -/
namespace Go.Proofs.Ytdpcdbepeemflaa
open Go Go.Eng Go.Tc
attribute [local irreducible] wpList Code.wp bodyPost Exit.then Exit.inBlock Calls
/-- 1: ErrArg -/
def _root_.Go.Tc.trE (t : Tr) : Int := if trOk t = true then 0 else 1
theorem _root_.Go.Tc.thingAt_not (t : Tr) (i : Nat) : (!thingB t (t.things.getD i default) (t.ends.getD i default) || dc (0 < (i : Int)) && !aheadT (t.things.getD (i - 1) default) (t.things.getD i default)) = !thingAt t i := by
  unfold thingAt
  rw [dc0]
  cases thingB _ _ _ <;> cases decide (i = 0) <;> cases aheadT _ _ <;> rfl

set_option maxHeartbeats 1600000 in
theorem tcheck_spec {lv iv ev bv av dv cv tv nv : Value} {t : Tr} (w : World) (h : TrIn All w lv iv ev bv av dv cv tv nv t) :
    Pur Try.prog 31 [.agg #[lv, iv, ev, bv, av, dv, cv, tv, nv]] w fun _ v _ => v = .int .i64 (trE t) := by
  have hT := h.things; have hN := h.ends
  have htl := hT.le; have hnl := hN.le
  refine enter_pur Try.func31 Try.ntmps31 rfl rfl ?_
  refine gO_ ?_
  refine wl_fx (fx_box (next := ?_)); intro bt
  refine gO_ ?_
  refine wl_fx (fx_call (spec := fun w' hw => tlocated_spec w' (h.now hw (.head _))) (next := ?_))
  rintro v n1 w1 rfl hn1
  refine gO_ ?_
  refine wl_gx (h := gx_call (spec := fun _ w' hw => tevented_spec w' (h.now hw (.tail _ (.head _))))) (next := ?_)
  refine gO_ ?_
  refine wl_gx (h := gx_call (spec := fun _ w' hw => tbarred_spec w' (h.now hw (.tail _ (.head _))))) (next := ?_)
  refine gO_ ?_
  refine wl_gx (h := gx_call (spec := fun _ w' hw => tpaired_spec av t.addr false w' (h.now hw (.tail _ (.head _))) (hw.now h.addr (.tail _ (.head _))))) (next := ?_)
  refine gO_ ?_
  refine wl_gx (h := gx_call (spec := fun _ w' hw => tpaired_spec dv t.data true w' (h.now hw (.tail _ (.head _))) (hw.now h.data (.tail _ (.head _))))) (next := ?_)
  refine gO_ ?_
  refine wl_gx (h := gx_call (spec := fun _ w' hw => tpaired_spec cv t.ctrl false w' (h.now hw (.tail _ (.head _))) (hw.now h.ctrl (.tail _ (.head _))))) (next := ?_)
  refine gO_ ?_
  refine wc_cond rfl (fun h1 => ?_) (fun h1 => ?_)
  · refine gO_ ?_
    refine pur_ret Try.results31 (.tmp rfl .nil) (.tail _ (.head _)) fun w' hw => ?_
    have : trOk t = false := by
      simp only [Bool.or_eq_true, Bool.not_eq_true'] at h1
      simp only [trOk, Bool.and_eq_false_iff]
      exact .inl h1
    rw [trE, this]; rfl
  · simp only [Bool.or_eq_false_iff, Bool.not_eq_false'] at h1
    refine gO_ ?_
    refine wc_cond rfl (fun h2 => ?_) (fun h2 => ?_)
    · refine gO_ ?_
      refine pur_ret Try.results31 (.tmp rfl .nil) (.tail _ (.head _)) fun w' hw => ?_
      have : thingsB t = false := by
        simp only [Bool.or_eq_true, Bool.not_eq_true', dc_true, dc_false] at h2
        simp only [thingsB, Bool.and_eq_false_iff, decide_eq_false_iff_not]
        omega
      rw [trE, trOk, this, Bool.and_false]; rfl
    · simp only [Bool.or_eq_false_iff, Bool.not_eq_false', dc_true, dc_false] at h2
      refine gO_ ?_
      refine wc_loop (fun i : Nat => i ≤ t.things.length ∧ ∀ j, j < i → thingAt t j = true) (fun s => [(55, true, .int .i64 s), (54, true, .int .i64 t.things.length), (53, true, tv), (1, true, .pointer (some ⟨bt, 0, none⟩))])
        (fun s => Mem [(w, All)] [.box bt [lv, iv, ev, bv, av, dv, cv, tv, nv] 30]) (fun s => t.things.length - s) (0) ⟨by omega, fun j hj => by omega⟩ ⟨rfl, rfl, rfl, rfl, trivial⟩ (fun _ h => h.last rfl) ?_
      rintro i ⟨hi, hall⟩
      refine gO_ ?_
      refine wc_cond rfl (fun h3 => ?_) (fun h3 => ?_)
      · have h3' : i < t.things.length := by rw [dc_true] at h3; omega
        have h3n : i < t.ends.length := by omega
        have hlo : locatedB t = true := h1.1.1.1.1.1
        refine gO_ ?_
        refine wl_fx (fx_alloc (next := ?_)); intro bx
        refine gO_ ?_
        refine wl_fx (fx_store_box (i := 0) (hi := rfl) (next := ?_))
        refine gO_ ?_
        refine wc_draw [0, 1, 2, 3, 4, 5, 6, 7, 8, 9, 10, 11, 12, 13, 14, 15, 16, 17, 18, 19, 20, 21, 22, 23] mixed ?_
        refine kG_ ?_
        refine kg_f _ (h := fx_call (spec := fun w' hw => tended_spec (t.things.getD i default) (t.ends.getD i default) w' (h.now hw (.head _)) hlo) (next := ?_)) (hSS := fun _ h => h)
        rintro v n7 w7 rfl hn7
        refine kp_S ?_ (fun _ h => h.tailB)
        refine kp_mem (fun _ h => h.tailB) ?_
        refine kG_ ?_
        refine kg_gx (h := gx_call (spec := fun _ w' hw => tahead_spec (t.things.getD ((i : Int) - 1).toNat default) (t.things.getD i default) w')) (next := ?_)
        refine kG_ ?_
        refine gO_ ?_
        refine wc_cond rfl (fun h4 => ?_) (fun h4 => ?_)
        · refine gO_ ?_
          refine pur_ret Try.results31 (.tmp rfl .nil) (.head _) fun w' hw => ?_
          rw [pred_nat, thingAt_not, Bool.not_eq_true'] at h4
          have : thingsB t = false := by simp [thingsB, all_range_f h3' h4]
          rw [trE, trOk, this, Bool.and_false]; rfl
        · rw [pred_nat, thingAt_not, Bool.not_eq_false'] at h4
          refine gO_ ?_
          exact po_loop ((i + 1)) ⟨by omega, seenT hall h4⟩ (by omega) ⟨rfl, rfl, rfl, rfl, trivial⟩ (fun _ h => (h.last rfl).sel [1] rfl (by decide))
      · refine gO_ ?_
        refine pur_ret Try.results31 (.tmp rfl .nil) (.head _) fun w' hw => ?_
        have : thingsB t = true := by
          rw [dc_false] at h3
          simp only [thingsB, Bool.and_eq_true, decide_eq_true_eq, all_range]
          exact ⟨⟨by omega, by omega⟩, fun j hj => hall j (by omega)⟩
        have : trOk t = true := by
          simp [trOk, h1, this]
        rw [trE, if_pos this]; rfl
end Go.Proofs.Ytdpcdbepeemflaa
end

section
/- The walks: alembicref09.Named, Number; alembicref15.ahead. -/
namespace Go.Tc
open Go Go.Eng
def chN (s : ByteArray) (i : Nat) : Bool := letB (byteT s i) || digB (byteT s i)
theorem chN_chB {s : ByteArray} {i : Nat} (h : chN s i = false) : chB s i = false := by
  simp only [chN, Bool.or_eq_false_iff] at h
  simp [chB, h]
theorem chB_chN {s : ByteArray} {i : Nat} (h0 : letB (byteT s 0) = true) (h : chN s i = true) : chB s i = true := by
  by_cases hi : i = 0
  · subst hi; simp [chB, h0]
  · have : 0 < i := by omega
    simp only [chN] at h
    simpa [chB, this] using h
end Go.Tc
namespace Go.Proofs.Ytdpcdbepeemflaa
open Go Go.Eng Go.Tc
attribute [local irreducible] wpList Code.wp bodyPost Exit.then Exit.inBlock Calls

set_option maxHeartbeats 800000 in
theorem rletter_spec (c : Nat) (w : World)  :
    Pur Try.prog 80 [.int .u8 c] w fun _ v _ => v = .bool (letB c) := by
  refine enter_pur Try.func80 Try.ntmps80 rfl rfl ?_
  refine gO_ ?_
  refine pur_ret Try.results80 (.tmp rfl .nil) (.head _) fun w' hw => ?_
  refine congrArg Value.bool (Bool.eq_iff_iff.2 ?_)
  simp only [letB, Bool.or_eq_true, Bool.and_eq_true, dc_true, decide_eq_true_eq]
  omega
set_option maxHeartbeats 800000 in
theorem rdigit_spec (c : Nat) (w : World)  :
    Pur Try.prog 81 [.int .u8 c] w fun _ v _ => v = .bool (decide (48 ≤ c) && decide (c ≤ 57)) := by
  refine enter_pur Try.func81 Try.ntmps81 rfl rfl ?_
  refine gO_ ?_
  refine pur_ret Try.results81 (.tmp rfl .nil) (.head _) fun w' hw => ?_
  refine congrArg Value.bool (Bool.eq_iff_iff.2 ?_)
  simp only [Bool.or_eq_true, Bool.and_eq_true, dc_true, decide_eq_true_eq]
  omega
set_option maxHeartbeats 800000 in
theorem rnumber_spec (n : Int) (w : World)  :
    Pur Try.prog 72 [.int .i64 n] w fun _ v _ => v = .bool (numB n) := by
  refine enter_pur Try.func72 Try.ntmps72 rfl rfl ?_
  refine gO_ ?_
  refine pur_ret Try.results72 (.tmp rfl .nil) (.head _) fun w' hw => ?_
  simp only [numB, dc_eq]; rfl
set_option maxHeartbeats 800000 in
theorem rahead_spec (a : Int) (p : Int) (b : Int) (q : Int) (w : World)  :
    Pur Try.prog 73 [.int .i64 a, .int .i64 p, .int .i64 b, .int .i64 q] w fun _ v _ => v = .bool (aheadP a p b q) := by
  refine enter_pur Try.func73 Try.ntmps73 rfl rfl ?_
  refine gO_ ?_
  refine pur_ret Try.results73 (.tmp rfl .nil) (.head _) fun w' hw => ?_
  simp only [aheadP, dc_eq]; rfl

set_option maxHeartbeats 800000 in
theorem rnamed_spec (s : ByteArray) (w : World)  :
    Pur Try.prog 71 [.string s] w fun _ v _ => v = .bool (nameB s) := by
  refine enter_pur Try.func71 Try.ntmps71 rfl rfl ?_
  refine gO_ ?_
  refine wl_gx (h := gx_call (spec := fun _ w' hw => rletter_spec _ w')) (next := ?_)
  refine gO_ ?_
  refine wc_cond rfl (fun h1 => ?_) (fun h1 => ?_)
  · refine gO_ ?_
    refine pur_ret Try.results71 (.tmp rfl .nil) (.head _) fun w' hw => ?_
    have : nameB s = false := by
      simp only [Bool.or_eq_true, Bool.not_eq_true', dc_true] at h1
      by_cases hs : s.size = 0
      · simp [nameB, hs]
      · rcases h1 with (h1 | h1) | h1
        · omega
        · have : ¬ s.size ≤ 32 := by omega
          simp [nameB, this]
        · have : chB s 0 = false := by simp only [chB, show letB (byteT s 0) = false from h1, Nat.lt_irrefl, decide_false, Bool.false_and, Bool.or_false]
          rw [nameB, all_range_f (i := 0) (by omega) this, Bool.and_false]
    rw [this]; rfl
  · simp only [Bool.or_eq_false_iff, Bool.not_eq_false', dc_false] at h1
    refine gO_ ?_
    refine wc_loop (fun i : Nat => i ≤ s.size ∧ ∀ j, j < i → chN s j = true) (fun i => [(3, true, .int .i64 i), (0, true, .string s)])
      (fun _ => Mem [(w, All)] []) (fun i => s.size - i) (0) ⟨by omega, fun j hj => by omega⟩ ⟨rfl, rfl, trivial⟩ (fun _ h => h.last rfl) ?_
    rintro i ⟨hi, hall⟩
    refine gO_ ?_
    refine wc_cond rfl (fun h2 => ?_) (fun h2 => ?_)
    · have h2' : i < s.size := by rw [dc_true] at h2; omega
      refine gO_ ?_
      refine wl_fx (fx_call (spec := fun w' hw => rletter_spec _ w') (next := ?_))
      rintro v n2 w2 rfl hn2
      refine gO_ ?_
      refine wl_gx (h := gx_call (spec := fun _ w' hw => rdigit_spec _ w')) (next := ?_)
      refine gO_ ?_
      have hc : (!letB (byteT s i) && !(decide (48 ≤ byteT s i) && decide (byteT s i ≤ 57)) && !dc ((byteT s i : Int) = 95)) = !chN s i := by
        rw [show dc ((byteT s i : Int) = 95) = decide (byteT s i = 95) by rw [dc_eq]; exact decide_eq_decide.2 (by omega)]
        unfold chN digB
        cases letB (byteT s i) <;> cases decide (48 ≤ byteT s i) <;> cases decide (byteT s i ≤ 57) <;> cases decide (byteT s i = 95) <;> rfl
      refine wc_cond rfl (fun h3 => ?_) (fun h3 => ?_)
      · refine gO_ ?_
        refine pur_ret Try.results71 (.tmp rfl .nil) (.tail _ (.head _)) fun w' hw => ?_
        have h3' := hc.symm.trans h3
        rw [Bool.not_eq_true'] at h3'
        have : nameB s = false := by simp [nameB, all_range_f h2' (chN_chB h3')]
        rw [this]; rfl
      · have h3' := hc.symm.trans h3
        rw [Bool.not_eq_false'] at h3'
        refine gO_ ?_
        exact po_loop ((i + 1)) ⟨by omega, seenT hall h3'⟩ (by omega) ⟨rfl, rfl, trivial⟩ (fun _ h => h.last rfl)
    · refine gO_ ?_
      refine pur_ret Try.results71 (.tmp rfl .nil) (.head _) fun w' hw => ?_
      have : nameB s = true := by
        rw [dc_false] at h2
        simp only [nameB, Bool.and_eq_true, decide_eq_true_eq, all_range]
        exact ⟨⟨by omega, by omega⟩, fun j hj => chB_chN h1.2 (hall j (by omega))⟩
      rw [this]; rfl
end Go.Proofs.Ytdpcdbepeemflaa
end

section
/- The walks: alembicref15.evented, barred, paired. -/
namespace Go.Tc
open Go Go.Eng
theorem bl_total : ∀ x y : List UInt8, Op.bytesLess x y = true ∨ x = y ∨ Op.bytesLess y x = true
  | [], [] => .inr (.inl rfl)
  | [], _ :: _ => .inl rfl
  | _ :: _, [] => .inr (.inr rfl)
  | a :: x, b :: y => by
    simp only [Op.bytesLess, Bool.or_eq_true, Bool.and_eq_true, decide_eq_true_eq, beq_iff_eq, List.cons.injEq]
    by_cases h1 : a < b
    · exact .inl (.inl h1)
    · by_cases h2 : b < a
      · exact .inr (.inr (.inl h2))
      · have h3 : a = b := UInt8.le_antisymm (UInt8.not_lt.1 h2) (UInt8.not_lt.1 h1)
        subst h3
        rcases bl_total x y with h | h | h
        · exact .inl (.inr ⟨rfl, h⟩)
        · exact .inr (.inl ⟨rfl, h⟩)
        · exact .inr (.inr (.inr ⟨rfl, h⟩))
theorem leT_not (s u : ByteArray) : (ltT s u || dc (s = u)) = !ltT u s := by
  rw [← eqT]
  cases h : ltT u s with
  | true =>
    have h1 : ltT s u = false := by
      refine Bool.eq_false_iff.2 fun h2 => ?_
      have := ltT_trans h h2; rw [ltT_irrefl] at this; cases this
    have h2 : (s.toList == u.toList) = false := by
      rw [beq_eq_false_iff_ne]; intro e
      unfold ltT at h; rw [e, bl_irrefl] at h; cases h
    rw [h1, h2]; rfl
  | false =>
    rcases bl_total s.toList u.toList with h1 | h1 | h1
    · rw [show ltT s u = true from h1]; rfl
    · rw [h1]; simp
    · unfold ltT at h; rw [h1] at h; cases h
theorem rlocAt_not (t : Tr) (i : Nat) : (!nameB (t.locs.getD i default) || dc (0 < (i : Int)) && (ltT (t.locs.getD i default) (t.locs.getD (i - 1) default) || dc (t.locs.getD i default = t.locs.getD (i - 1) default)) || !numB (t.init.getD i default)) = !locAt t i := by
  unfold locAt
  rw [dc0, leT_not]
  cases nameB _ <;> cases decide (i = 0) <;> cases ltT _ _ <;> cases numB _ <;> rfl
theorem revOne_not (t : Tr) (x : Ev) : ((dc (x.thread < 0) || dc (15 < x.thread) || dc (x.place < 0) || dc (255 < x.place) || dc (x.loc < 0) || dc ((t.locs.length : Int) ≤ x.loc) || dc (x.reg < 0) || dc (31 < x.reg) || !numB x.value) || (!dc (x.dir = 1) && !dc (x.dir = 2) || dc (x.dir = 1) && !dc (x.value = 0) || dc (x.dir = 2) && !dc (x.reg = 0))) = !evOne t x := by
  rw [Bool.eq_iff_iff]
  simp only [evOne, dirB, placedB, Bool.or_eq_true, Bool.and_eq_true, Bool.not_eq_true', Bool.or_eq_false_iff, Bool.and_eq_false_iff, dc_true, dc_false, decide_eq_false_iff_not]
  cases numB x.value <;> simp <;> omega
theorem rahead_not (i : Nat) (b : Bool) : (dc (0 < (i : Int)) && !b) = !(decide (i = 0) || b) := by
  rw [dc0, Bool.not_or]
theorem rbarOne_not (x : Bar) : (dc (x.thread < 0) || dc (15 < x.thread) || dc (x.place < 0) || dc (255 < x.place) || dc (x.fence < 1) || dc (11 < x.fence)) = !(placedB x.thread x.place && decide (1 ≤ x.fence) && decide (x.fence ≤ 11)) := by
  rw [Bool.eq_iff_iff]
  simp only [placedB, Bool.or_eq_true, Bool.and_eq_true, Bool.not_eq_true', Bool.or_eq_false_iff, Bool.and_eq_false_iff, dc_true, dc_false, decide_eq_false_iff_not]
  omega
end Go.Tc
namespace Go.Proofs.Ytdpcdbepeemflaa
open Go Go.Eng Go.Tc
attribute [local irreducible] wpList Code.wp bodyPost Exit.then Exit.inBlock Calls

set_option maxHeartbeats 1600000 in
theorem revented_spec {lv iv ev bv av dv cv tv nv : Value} {t : Tr} (w : World) (h : TrIn All w lv iv ev bv av dv cv tv nv t) :
    Pur Try.prog 56 [.agg #[lv, iv, ev, bv, av, dv, cv, tv, nv]] w fun _ v _ => v = .bool (locatedB t && eventedB t) := by
  have hL := h.locs; have hI := h.init; have hE := h.evs
  have hll := hL.le; have hil := hI.le; have hel := hE.le
  refine enter_pur Try.func56 Try.ntmps56 rfl rfl ?_
  refine gO_ ?_
  refine wl_fx (fx_box (next := ?_)); intro bt
  refine gO_ ?_
  refine wc_cond rfl (fun h1 => ?_) (fun h1 => ?_)
  · refine gO_ ?_
    refine pur_ret Try.results56 (.tmp rfl .nil) (.head _) fun w' hw => ?_
    have : (locatedB t && eventedB t) = false := by
      simp only [Bool.or_eq_true, Bool.not_eq_true', dc_true, dc_false] at h1
      simp only [locatedB, eventedB, Bool.and_eq_false_iff, decide_eq_false_iff_not]
      omega
    rw [this]; rfl
  · simp only [Bool.or_eq_false_iff, Bool.not_eq_false', dc_true, dc_false] at h1
    refine gO_ ?_
    refine wc_loop (fun i : Nat => i ≤ t.locs.length ∧ ∀ j, j < i → locAt t j = true) (fun s => [(3, true, .int .i64 s), (1, true, .pointer (some ⟨bt, 0, none⟩))])
      (fun s => Mem [(w, All)] [.box bt [lv, iv, ev, bv, av, dv, cv, tv, nv] 30]) (fun s => t.locs.length - s) (0) ⟨by omega, fun j hj => by omega⟩ ⟨rfl, rfl, trivial⟩ (fun _ h => h.last rfl) ?_
    rintro i ⟨hi, hall⟩
    refine gO_ ?_
    refine wc_cond rfl (fun h2 => ?_) (fun h2 => ?_)
    · have h2' : i < t.locs.length := by rw [dc_true] at h2; omega
      refine gO_ ?_
      refine wc_draw [0, 1, 2, 3, 4, 5, 6, 7, 8, 9, 10, 11, 12, 13, 14, 15, 16, 17, 18, 19, 20, 21, 22, 23, 24, 25, 26, 27, 28, 29, 30, 31, 32, 33] mixed ?_
      refine kG_ ?_
      refine kg_f _ (h := fx_call (spec := fun w' hw => rnamed_spec _ w') (next := ?_)) (hSS := fun _ h => h)
      rintro v n1 w1 rfl hn1
      refine kp_S ?_ (fun _ h => h.tailB)
      refine kp_mem (fun _ h => h.tailB) ?_
      refine kG_ ?_
      refine kg_gx (h := gx_call (spec := fun _ w' hw => rnumber_spec _ w')) (next := ?_)
      refine kG_ ?_
      refine gO_ ?_
      refine wc_cond rfl (fun h3 => ?_) (fun h3 => ?_)
      · refine gO_ ?_
        refine pur_ret Try.results56 (.tmp rfl .nil) (.head _) fun w' hw => ?_
        rw [pred_nat, rlocAt_not, Bool.not_eq_true'] at h3
        have : locatedB t = false := by simp [locatedB, all_range_f h2' h3]
        rw [this]; rfl
      · rw [pred_nat, rlocAt_not, Bool.not_eq_false'] at h3
        refine gO_ ?_
        exact po_loop ((i + 1)) ⟨by omega, seenT hall h3⟩ (by omega) ⟨rfl, rfl, trivial⟩ (fun _ h => h.last rfl)
    · have hloc : locatedB t = true := by
        rw [dc_false] at h2
        simp only [locatedB, Bool.and_eq_true, decide_eq_true_eq, all_range]
        exact ⟨⟨by omega, by omega⟩, fun j hj => hall j (by omega)⟩
      rw [hloc, Bool.true_and]
      refine gO_ ?_
      refine wc_loop (fun i : Nat => i ≤ t.evs.length ∧ ∀ j, j < i → evAt t j = true) (fun s => [(4, true, .int .i64 s), (1, true, .pointer (some ⟨bt, 0, none⟩))])
        (fun s => Mem [(w, All)] [.box bt [lv, iv, ev, bv, av, dv, cv, tv, nv] 30]) (fun s => t.evs.length - s) (0) ⟨by omega, fun j hj => by omega⟩ ⟨rfl, rfl, trivial⟩ (fun _ h => h.last rfl) ?_
      rintro i ⟨hi, hall⟩
      refine gO_ ?_
      refine wc_cond rfl (fun h4 => ?_) (fun h4 => ?_)
      · have h4' : i < t.evs.length := by rw [dc_true] at h4; omega
        refine gO_ ?_
        refine wl_fx (fx_alloc (next := ?_)); intro bx
        refine gO_ ?_
        refine wl_fx (fx_store_box (i := 0) (hi := rfl) (next := ?_))
        refine gO_ ?_
        refine wl_gx (h := gx_call (spec := fun _ w' hw => rnumber_spec _ w')) (next := ?_)
        refine gO_ ?_
        refine wc_cond rfl (fun h5 => ?_) (fun h5 => ?_)
        · refine gO_ ?_
          refine pur_ret Try.results56 (.tmp rfl .nil) (.head _) fun w' hw => ?_
          have he := revOne_not t (t.evs.getD i default)
          rw [h5, Bool.true_or] at he
          have he' : evAt t i = false := by rw [evAt, show evOne t (t.evs.getD i default) = false by simpa using he.symm, Bool.false_and]
          have : eventedB t = false := by simp [eventedB, all_range_f h4' he']
          rw [this]; rfl
        · refine gO_ ?_
          refine wc_cond rfl (fun h6 => ?_) (fun h6 => ?_)
          · refine gO_ ?_
            refine pur_ret Try.results56 (.tmp rfl .nil) (.head _) fun w' hw => ?_
            have he := revOne_not t (t.evs.getD i default)
            rw [h6, Bool.or_true] at he
            have he' : evAt t i = false := by rw [evAt, show evOne t (t.evs.getD i default) = false by simpa using he.symm, Bool.false_and]
            have : eventedB t = false := by simp [eventedB, all_range_f h4' he']
            rw [this]; rfl
          · have he := revOne_not t (t.evs.getD i default)
            rw [h5, h6, Bool.or_false, Bool.false_eq, Bool.not_eq_false'] at he
            refine gO_ ?_
            refine wc_draw [0, 1, 2, 3, 4, 5, 6, 7, 8, 9, 10, 11, 12, 13, 14, 15, 16, 17, 18, 19, 20, 21, 22, 23] mixed ?_
            refine kG_ ?_
            refine kg_gx (h := gx_call (spec := fun _ w' hw => rahead_spec _ _ _ _ w')) (next := ?_)
            refine kG_ ?_
            refine gO_ ?_
            refine wc_cond rfl (fun h7 => ?_) (fun h7 => ?_)
            · refine gO_ ?_
              refine pur_ret Try.results56 (.tmp rfl .nil) (.head _) fun w' hw => ?_
              rw [pred_nat, rahead_not, Bool.not_eq_true'] at h7
              have he' : evAt t i = false := by rw [evAt, h7, Bool.and_false]
              have : eventedB t = false := by simp [eventedB, all_range_f h4' he']
              rw [this]; rfl
            · rw [pred_nat, rahead_not, Bool.not_eq_false'] at h7
              refine gO_ ?_
              exact po_loop ((i + 1)) ⟨by omega, seenT hall (by rw [evAt, he, h7]; rfl)⟩ (by omega) ⟨rfl, rfl, trivial⟩ (fun _ h => (h.last rfl).sel [1] rfl (by decide))
      · refine gO_ ?_
        refine pur_ret Try.results56 (.tmp rfl .nil) (.head _) fun w' hw => ?_
        have : eventedB t = true := by
          rw [dc_false] at h4
          simp only [eventedB, Bool.and_eq_true, decide_eq_true_eq, all_range]
          exact ⟨by omega, fun j hj => hall j (by omega)⟩
        rw [this]; rfl
end Go.Proofs.Ytdpcdbepeemflaa
end
