import Derived.Test.YtdpcdbepeemflaaG04
set_option linter.unusedSimpArgs false
set_option linter.unusedVariables false
section
/- The walks: alembicref15.barred, paired, place. -/
namespace Go.Proofs.Ytdpcdbepeemflaa
open Go Go.Eng Go.Tc
attribute [local irreducible] wpList Code.wp bodyPost Exit.then Exit.inBlock Calls

set_option maxHeartbeats 1600000 in
theorem rbarred_spec {lv iv ev bv av dv cv tv nv : Value} {t : Tr} (w : World) (h : TrIn All w lv iv ev bv av dv cv tv nv t) :
    Pur Try.prog 57 [.agg #[lv, iv, ev, bv, av, dv, cv, tv, nv]] w fun _ v _ => v = .bool (barsOkB t) := by
  have hB := h.bars; have hE := h.evs
  have hbl := hB.le; have hel := hE.le
  refine enter_pur Try.func57 Try.ntmps57 rfl rfl ?_
  refine gO_ ?_
  refine wl_fx (fx_box (next := ?_)); intro bt
  refine gO_ ?_
  refine wc_cond rfl (fun h1 => ?_) (fun h1 => ?_)
  · refine gO_ ?_
    refine pur_ret Try.results57 (.tmp rfl .nil) (.head _) fun w' hw => ?_
    have : barsOkB t = false := by
      rw [dc_true] at h1
      simp only [barsOkB, Bool.and_eq_false_iff, decide_eq_false_iff_not]
      omega
    rw [this]; rfl
  · rw [dc_false] at h1
    refine gO_ ?_
    refine wc_loop (fun i : Nat => i ≤ t.bars.length ∧ ∀ j, j < i → barAt t j = true) (fun s => [(3, true, .int .i64 s), (1, true, .pointer (some ⟨bt, 0, none⟩))])
      (fun s => Mem [(w, All)] [.box bt [lv, iv, ev, bv, av, dv, cv, tv, nv] 30]) (fun s => t.bars.length - s) (0) ⟨by omega, fun j hj => by omega⟩ ⟨rfl, rfl, trivial⟩ (fun _ h => h.last rfl) ?_
    rintro i ⟨hi, hall⟩
    refine gO_ ?_
    refine wc_cond rfl (fun h2 => ?_) (fun h2 => ?_)
    · have h2' : i < t.bars.length := by rw [dc_true] at h2; omega
      refine gO_ ?_
      refine wl_fx (fx_alloc (next := ?_)); intro bb
      refine gO_ ?_
      refine wl_fx (fx_store_box (i := 0) (hi := rfl) (next := ?_))
      refine gO_ ?_
      refine wc_cond rfl (fun h3 => ?_) (fun h3 => ?_)
      · refine gO_ ?_
        refine pur_ret Try.results57 (.tmp rfl .nil) (.head _) fun w' hw => ?_
        have h3 := (rbarOne_not (t.bars.getD i default)).symm.trans h3
        rw [Bool.not_eq_true'] at h3
        have he' : barAt t i = false := by rw [barAt, h3, Bool.false_and, Bool.false_and]
        have : barsOkB t = false := by simp [barsOkB, all_range_f h2' he']
        rw [this]; rfl
      · have h3 := (rbarOne_not (t.bars.getD i default)).symm.trans h3
        rw [Bool.not_eq_false'] at h3
        refine gO_ ?_
        refine wc_draw [0, 1, 2, 3, 4, 5, 6, 7, 8, 9, 10, 11, 12, 13, 14, 15, 16, 17, 18, 19, 20, 21, 22, 23] mixed ?_
        refine kG_ ?_
        refine kg_gx (h := gx_call (spec := fun _ w' hw => rahead_spec _ _ _ _ w')) (next := ?_)
        refine kG_ ?_
        refine gO_ ?_
        refine wc_cond rfl (fun h4 => ?_) (fun h4 => ?_)
        · refine gO_ ?_
          refine pur_ret Try.results57 (.tmp rfl .nil) (.head _) fun w' hw => ?_
          rw [pred_nat, rahead_not, Bool.not_eq_true'] at h4
          have he' : barAt t i = false := by rw [barAt, h4, Bool.and_false, Bool.false_and]
          have : barsOkB t = false := by simp [barsOkB, all_range_f h2' he']
          rw [this]; rfl
        · rw [pred_nat, rahead_not, Bool.not_eq_false'] at h4
          refine gO_ ?_
          refine wc_loop (fun k : Nat => k ≤ t.evs.length ∧ ∀ j, j < k → offAt t (t.bars.getD i default) j = true) (fun s => [(5, true, .int .i64 s), (4, true, .pointer (some ⟨bb, 0, none⟩)), (3, true, .int .i64 i), (1, true, .pointer (some ⟨bt, 0, none⟩))])
            (fun s => Mem [(w, All)] [.box bb [.int .i64 (t.bars.getD i default).thread, .int .i64 (t.bars.getD i default).place, .int .i64 (t.bars.getD i default).fence] 98, .box bt [lv, iv, ev, bv, av, dv, cv, tv, nv] 30]) (fun s => t.evs.length - s) (0) ⟨by omega, fun j hj => by omega⟩ ⟨rfl, rfl, rfl, rfl, trivial⟩ (fun _ h => h.last rfl) ?_
          rintro k ⟨hk, hoff⟩
          refine gO_ ?_
          refine wc_cond rfl (fun h5 => ?_) (fun h5 => ?_)
          · have h5' : k < t.evs.length := by rw [dc_true] at h5; omega
            refine gO_ ?_
            refine wc_draw [0, 1, 2, 3, 4, 5, 6, 7, 8, 9, 10, 11, 12, 13, 14, 15, 16, 17, 18, 19] mixed ?_
            refine kG_ ?_
            refine gO_ ?_
            refine wc_cond rfl (fun h6 => ?_) (fun h6 => ?_)
            · refine gO_ ?_
              refine pur_ret Try.results57 (.tmp rfl .nil) (.head _) fun w' hw => ?_
              rw [offAt_not, Bool.not_eq_true'] at h6
              have he' : barAt t i = false := by rw [barAt, barOff_eq, all_range_f h5' h6, Bool.and_false]
              have : barsOkB t = false := by simp [barsOkB, all_range_f h2' he']
              rw [this]; rfl
            · rw [offAt_not, Bool.not_eq_false'] at h6
              refine gO_ ?_
              exact po_loop ((k + 1)) ⟨by omega, seenT hoff h6⟩ (by omega) ⟨rfl, rfl, rfl, rfl, trivial⟩ (fun _ h => h.last rfl)
          · rw [dc_false] at h5
            have he : barAt t i = true := by
              rw [barAt, h3, h4, barOff_eq, all_range.2 fun j hj => hoff j (by omega)]; rfl
            refine gO_ ?_
            exact po_loop ((i + 1)) ⟨by omega, seenT hall he⟩ (by omega) ⟨rfl, rfl, trivial⟩ (fun _ h => (h.last rfl).sel [1] rfl (by decide))
    · refine gO_ ?_
      refine pur_ret Try.results57 (.tmp rfl .nil) (.head _) fun w' hw => ?_
      have : barsOkB t = true := by
        rw [dc_false] at h2
        simp only [barsOkB, Bool.and_eq_true, decide_eq_true_eq, all_range]
        exact ⟨by omega, fun j hj => hall j (by omega)⟩
      rw [this]; rfl

set_option maxHeartbeats 1600000 in
theorem rpaired_spec {lv iv ev bv av dv cv tv nv : Value} {t : Tr} (pv : Value) (l : List Pair) (wr : Bool) (w : World) (h : TrIn All w lv iv ev bv av dv cv tv nv t) (hl : Sl All w encPair 2 pv l) :
    Pur Try.prog 58 [.agg #[lv, iv, ev, bv, av, dv, cv, tv, nv], pv, .bool wr] w fun _ v _ => v = .bool (pairedB t l wr) := by
  have hE := h.evs
  have hel := hE.le; have hll := hl.le
  refine enter_pur Try.func58 Try.ntmps58 rfl rfl ?_
  refine gO_ ?_
  refine wl_fx (fx_box (next := ?_)); intro bt
  refine gO_ ?_
  refine wc_loop (fun i : Nat => i ≤ l.length ∧ ∀ j, j < i → pairAt t l wr j = true) (fun s => [(7, true, .int .i64 s), (3, true, .pointer (some ⟨bt, 0, none⟩)), (2, true, .bool wr), (1, true, pv)])
    (fun s => Mem [(w, All)] [.box bt [lv, iv, ev, bv, av, dv, cv, tv, nv] 30]) (fun s => l.length - s) (0) ⟨by omega, fun j hj => by omega⟩ ⟨rfl, rfl, rfl, rfl, trivial⟩ (fun _ h => h.last rfl) ?_
  rintro i ⟨hi, hall⟩
  refine gO_ ?_
  refine wc_cond rfl (fun h1 => ?_) (fun h1 => ?_)
  · have h1' : i < l.length := by rw [dc_true] at h1; omega
    refine gO_ ?_
    refine wl_fx (fx_alloc (next := ?_)); intro bp
    refine gO_ ?_
    refine wl_fx (fx_store_box (i := 0) (hi := rfl) (next := ?_))
    refine gO_ ?_
    refine wc_draw [0, 1, 2, 3, 4, 5, 6, 7, 8, 9, 10, 11, 12, 13, 14, 15, 16, 17, 18, 19, 20, 21, 22, 23, 24, 25, 26, 27, 28, 29, 30, 31, 32, 33, 34, 35, 36, 37, 38, 39, 40, 41, 42, 43, 44, 45, 46, 47, 48, 49, 50, 51, 52, 53, 54, 55, 56, 57] mixed ?_
    refine kG_ ?_
    refine gO_ ?_
    refine wc_cond rfl (fun h2 => ?_) (fun h2 => ?_)
    · refine gO_ ?_
      refine pur_ret Try.results58 (.tmp rfl .nil) (.head _) fun w' hw => ?_
      rw [pairOne_not, Bool.not_eq_true'] at h2
      have he' : pairAt t l wr i = false := by rw [pairAt, h2, Bool.false_and]
      have : pairedB t l wr = false := by simp [pairedB, all_range_f h1' he']
      rw [this]; rfl
    · rw [pairOne_not, Bool.not_eq_false'] at h2
      refine gO_ ?_
      refine wc_draw [0, 1, 2, 3, 4, 5, 6, 7, 8, 9, 10, 11, 12, 13, 14, 15, 16, 17, 18, 19, 20, 21] mixed ?_
      refine kG_ ?_
      refine kg_gx (h := gx_call (spec := fun _ w' hw => rahead_spec _ _ _ _ w')) (next := ?_)
      refine kG_ ?_
      refine gO_ ?_
      refine wc_cond rfl (fun h3 => ?_) (fun h3 => ?_)
      · refine gO_ ?_
        refine pur_ret Try.results58 (.tmp rfl .nil) (.head _) fun w' hw => ?_
        rw [pred_nat, rahead_not, Bool.not_eq_true'] at h3
        have he' : pairAt t l wr i = false := by rw [pairAt, h3, Bool.and_false]
        have : pairedB t l wr = false := by simp [pairedB, all_range_f h1' he']
        rw [this]; rfl
      · rw [pred_nat, rahead_not, Bool.not_eq_false'] at h3
        refine gO_ ?_
        exact po_loop ((i + 1)) ⟨by omega, seenT hall (by rw [pairAt, h2, h3]; rfl)⟩ (by omega) ⟨rfl, rfl, rfl, rfl, trivial⟩ (fun _ h => h.sel [1] rfl (by decide))
  · refine gO_ ?_
    refine pur_ret Try.results58 (.tmp rfl .nil) (.head _) fun w' hw => ?_
    have : pairedB t l wr = true := by
      rw [dc_false] at h1
      simp only [pairedB, all_range]
      exact fun j hj => hall j (by omega)
    rw [this]; rfl

set_option maxHeartbeats 800000 in
theorem rplace_spec {lv iv ev bv av dv cv tv nv : Value} {t : Tr} (loc : ByteArray) (w : World) (h : TrIn All w lv iv ev bv av dv cv tv nv t) :
    Pur Try.prog 74 [.agg #[lv, iv, ev, bv, av, dv, cv, tv, nv], .string loc] w fun _ v _ => (∃ k : Nat, v = .int .i64 (k : Int) ∧ k < t.locs.length ∧ t.locs.getD k default = loc) ∨ (v = .int .i64 (-1) ∧ ∀ q, q < t.locs.length → t.locs.getD q default ≠ loc) := by
  have hL := h.locs
  have hll := hL.le
  refine enter_pur Try.func74 Try.ntmps74 rfl rfl ?_
  refine gO_ ?_
  refine wl_fx (fx_box (next := ?_)); intro bt
  refine gO_ ?_
  refine wc_loop (fun i : Nat => i ≤ t.locs.length ∧ ∀ q, q < i → t.locs.getD q default ≠ loc) (fun s => [(5, true, .int .i64 s), (2, true, .pointer (some ⟨bt, 0, none⟩)), (1, true, .string loc)])
    (fun s => Mem [(w, All)] [.box bt [lv, iv, ev, bv, av, dv, cv, tv, nv] 30]) (fun s => t.locs.length - s) (0) ⟨by omega, fun q hq => by omega⟩ ⟨rfl, rfl, rfl, trivial⟩ (fun _ h => h.last rfl) ?_
  rintro i ⟨hi, hall⟩
  refine gO_ ?_
  refine wc_cond rfl (fun h1 => ?_) (fun h1 => ?_)
  · have h1' : i < t.locs.length := by rw [dc_true] at h1; omega
    refine gO_ ?_
    refine wc_cond rfl (fun h2 => ?_) (fun h2 => ?_)
    · rw [dc_true] at h2
      refine gO_ ?_
      refine pur_ret Try.results74 (.tmp rfl .nil) (.head _) fun w' hw => ?_
      exact .inl ⟨i, rfl, h1', h2⟩
    · rw [dc_false] at h2
      refine gO_ ?_
      refine po_loop ((i + 1)) ⟨by omega, fun q hq => ?_⟩ (by omega) ⟨rfl, rfl, rfl, trivial⟩ (fun _ h => h.last rfl)
      by_cases hqi : q < i
      · exact hall q hqi
      · obtain rfl : q = i := by omega
        exact h2
  · rw [dc_false] at h1
    refine gO_ ?_
    refine pur_ret Try.results74 (.tmp rfl .nil) (.head _) fun w' hw => ?_
    exact .inr ⟨rfl, fun q hq => hall q (by omega)⟩
end Go.Proofs.Ytdpcdbepeemflaa
end

section
/- The walks: alembicref15.thing, before, Check. -/
namespace Go.Tc
open Go Go.Eng
def beforeT (a b : Thing) : Bool := if decide (a.thread = -1) ≠ decide (b.thread = -1) then decide (b.thread = -1) else if a.thread ≠ b.thread ∨ a.reg ≠ b.reg then aheadP a.thread a.reg b.thread b.reg else ltT a.loc b.loc
theorem thingB_reg {t : Tr} {x : Thing} {e : EndT} (h : thingB t x e = true) (h1 : x.thread = -1) : x.reg = 0 := by
  rw [thingB, if_pos h1, locEnd] at h
  split at h
  · simp only [Bool.and_eq_true, decide_eq_true_eq] at h; exact h.1.1
  · cases h
theorem thingB_loc {t : Tr} {x : Thing} {e : EndT} (h : thingB t x e = true) (h1 : ¬ x.thread = -1) : x.loc = ByteArray.empty := by
  rw [thingB, if_neg h1] at h
  simp only [Bool.and_eq_true, decide_eq_true_eq] at h
  exact h.1.2
theorem beforeT_eq {t : Tr} {a b : Thing} {e f : EndT} (ha : thingB t a e = true) (hb : thingB t b f = true) : beforeT a b = aheadT a b := by
  unfold beforeT aheadT
  by_cases h1 : a.thread = -1 <;> by_cases h2 : b.thread = -1
  · simp [h1, h2, thingB_reg ha h1, thingB_reg hb h2]
  · simp [h1, h2]
  · simp [h1, h2]
  · rw [thingB_loc ha h1, thingB_loc hb h2, ltT_irrefl]
    simp only [h1, h2, decide_false, ne_eq, not_true, if_false, or_self, aheadP]
    by_cases h3 : a.thread = b.thread
    · by_cases h4 : a.reg = b.reg
      · simp [h3, h4]
      · simp [h3, h4]
    · simp [h3]
end Go.Tc
namespace Go.Proofs.Ytdpcdbepeemflaa
open Go Go.Eng Go.Tc
attribute [local irreducible] wpList Code.wp bodyPost Exit.then Exit.inBlock Calls

set_option maxHeartbeats 1600000 in
theorem rthing_spec {lv iv ev bv av dv cv tv nv : Value} {t : Tr} (x : Thing) (e : EndT) (w : World) (h : TrIn All w lv iv ev bv av dv cv tv nv t) (hlo : locatedB t = true) :
    Pur Try.prog 59 [.agg #[lv, iv, ev, bv, av, dv, cv, tv, nv], .agg #[.int .i64 x.thread, .int .i64 x.reg, .string x.loc], .agg #[.int .i64 e.kind, .int .i64 e.n]] w fun _ v _ => v = .bool (thingB t x e) := by
  have hE := h.evs; have hL := h.locs
  have hel := hE.le
  obtain ⟨hu, h64⟩ := locatedB_up hlo
  refine enter_pur Try.func59 Try.ntmps59 rfl rfl ?_
  refine gO_ ?_
  refine wl_fx (fx_box (next := ?_)); intro bt
  refine gO_ ?_
  refine wl_fx (fx_box (next := ?_)); intro bx
  refine gO_ ?_
  refine wl_fx (fx_box (next := ?_)); intro be
  refine gO_ ?_
  refine wc_cond rfl (fun h1 => ?_) (fun h1 => ?_)
  · have h1' : x.thread = -1 := by rwa [dc_true] at h1
    refine gO_ ?_
    refine wl_fx (fx_call (spec := fun w' hw => rplace_spec x.loc w' (h.now hw (.head _))) (next := ?_))
    rintro v n1 w1 (⟨k, rfl, hk1, hk2⟩ | ⟨rfl, hno⟩) hn1
    · refine gO_ ?_
      refine pur_ret Try.results59 (.tmp rfl .nil) (.tail _ (.head _)) fun w' hw => ?_
      have hst : Stands t.locs x.loc k true := ⟨fun _ => ⟨hk1, hk2⟩, fun h => by cases h⟩
      rw [thingB, if_pos h1', ← locEnd_eq hu x e hst]
      have h0 : dc (0 ≤ (k : Int)) = true := dc_true.mpr (by omega)
      rw [h0, Bool.and_true, Bool.true_and]; rfl
    · refine gO_ ?_
      refine pur_ret Try.results59 (.tmp rfl .nil) (.tail _ (.head _)) fun w' hw => ?_
      have hst : Stands t.locs x.loc 0 false := ⟨fun h => (by cases h), fun _ => hno⟩
      rw [thingB, if_pos h1', ← locEnd_eq hu x e hst]
      have h0 : dc ((0 : Int) ≤ -1) = false := dc_false.mpr (by omega)
      rw [h0, Bool.and_false]; rfl
  · have h1' : ¬ x.thread = -1 := by rwa [dc_false] at h1
    have hout : (dc (x.thread < 0) || dc (15 < x.thread) || dc (x.reg < 0) || dc (31 < x.reg) || !dc (x.loc = ByteArray.empty)) = !(decide (0 ≤ x.thread) && decide (x.thread < 16) && decide (0 ≤ x.reg) && decide (x.reg ≤ 31) && decide (x.loc = ByteArray.empty)) := by
      rw [← outB_not, show dc (15 < x.thread) = dc (16 ≤ x.thread) by rw [dc_eq, dc_eq]; exact decide_eq_decide.2 (by omega)]
    refine gO_ ?_
    refine wc_cond rfl (fun h2 => ?_) (fun h2 => ?_)
    · refine gO_ ?_
      refine pur_ret Try.results59 (.tmp rfl .nil) (.head _) fun w' hw => ?_
      have h2' := hout.symm.trans h2
      rw [Bool.not_eq_true'] at h2'
      rw [thingB, if_neg h1', h2']; rfl
    · have h2' := hout.symm.trans h2
      rw [Bool.not_eq_false'] at h2'
      refine gO_ ?_
      refine wc_cond rfl (fun h3 => ?_) (fun h3 => ?_)
      · refine gO_ ?_
        refine wl_fx (fx_call (spec := fun w' hw => rnumber_spec e.n w') (next := ?_))
        rintro v n2 w2 rfl hn2
        refine gO_ ?_
        refine pur_ret Try.results59 (.tmp rfl .nil) (.tail _ (.head _)) fun w' hw => ?_
        rw [dc_true] at h3
        rw [thingB, if_neg h1', h2', endB]; simp [h3]; rfl
      · rw [dc_false] at h3
        refine gO_ ?_
        refine wc_cond rfl (fun h4 => ?_) (fun h4 => ?_)
        · rw [dc_true] at h4
          refine gO_ ?_
          refine wc_draw [0, 1, 2, 3, 4, 5, 6, 7, 8, 9, 10, 11, 12, 13, 14, 15, 16, 17, 18, 19, 20, 21, 22, 23, 24, 25, 26, 27, 28, 29, 30, 31, 32, 33] mixed ?_
          refine kG_ ?_
          refine gO_ ?_
          refine pur_ret Try.results59 (.tmp rfl .nil) (.head _) fun w' hw => ?_
          rw [thingB, if_neg h1', h2', endB]; simp [h4, dc_eq, Go.Tc.ev]; rfl
        · rw [dc_false] at h4
          refine gO_ ?_
          refine pur_ret Try.results59 (.tmp rfl .nil) (.head _) fun w' hw => ?_
          rw [thingB, if_neg h1', h2', endB]; simp [h3, h4]; rfl

set_option maxHeartbeats 800000 in
theorem rbefore_spec (a b : Thing) (w : World)  :
    Pur Try.prog 60 [.agg #[.int .i64 a.thread, .int .i64 a.reg, .string a.loc], .agg #[.int .i64 b.thread, .int .i64 b.reg, .string b.loc]] w fun _ v _ => v = .bool (beforeT a b) := by
  refine enter_pur Try.func60 Try.ntmps60 rfl rfl ?_
  refine gO_ ?_
  refine wl_fx (fx_box (next := ?_)); intro ba
  refine gO_ ?_
  refine wl_fx (fx_box (next := ?_)); intro bb
  refine gO_ ?_
  refine wc_cond rfl (fun h1 => ?_) (fun h1 => ?_)
  · refine gO_ ?_
    refine pur_ret Try.results60 (.tmp rfl .nil) (.head _) fun w' hw => ?_
    have h1' : decide (a.thread = -1) ≠ decide (b.thread = -1) := by simpa [dc_eq] using h1
    rw [beforeT, if_pos h1', dc_eq]; rfl
  · have h1' : ¬ decide (a.thread = -1) ≠ decide (b.thread = -1) := by simpa [dc_eq] using h1
    refine gO_ ?_
    refine wc_cond rfl (fun h2 => ?_) (fun h2 => ?_)
    · refine gO_ ?_
      refine wl_fx (fx_call (spec := fun w' hw => rahead_spec _ _ _ _ w') (next := ?_))
      rintro v n1 w1 rfl hn1
      refine gO_ ?_
      refine pur_ret Try.results60 (.tmp rfl .nil) (.tail _ (.head _)) fun w' hw => ?_
      have h2' : a.thread ≠ b.thread ∨ a.reg ≠ b.reg := by simpa [dc_eq] using h2
      rw [beforeT, if_neg h1', if_pos h2']; rfl
    · refine gO_ ?_
      refine pur_ret Try.results60 (.tmp rfl .nil) (.head _) fun w' hw => ?_
      have h2' : ¬ (a.thread ≠ b.thread ∨ a.reg ≠ b.reg) := by simpa [dc_eq] using h2
      rw [beforeT, if_neg h1', if_neg h2']; rfl
end Go.Proofs.Ytdpcdbepeemflaa
end

section
/- The walks: alembicref15.Check. -/
namespace Go.Tc
open Go Go.Eng
def baseB (t : Tr) : Bool := locatedB t && eventedB t && barsOkB t && pairedB t t.addr false && pairedB t t.data true && pairedB t t.ctrl false && (decide (t.things.length = t.ends.length) && decide (t.things.length ≤ 1024))
theorem okBase (t : Tr) : (locatedB t && eventedB t && barsOkB t && pairedB t t.addr false && pairedB t t.data true && pairedB t t.ctrl false && dc ((t.things.length : Int) ≤ 1024) && dc ((t.ends.length : Int) = (t.things.length : Int))) = baseB t := by
  rw [Bool.eq_iff_iff]
  simp only [baseB, Bool.and_eq_true, dc_true, decide_eq_true_eq]
  constructor
  · rintro ⟨⟨h, h1⟩, h2⟩; exact ⟨h, by omega, by omega⟩
  · rintro ⟨h, h1, h2⟩; exact ⟨⟨h, by omega⟩, by omega⟩
theorem trOk_base (t : Tr) : trOk t = (baseB t && (List.range t.things.length).all (thingAt t)) := by
  simp only [trOk, thingsB, baseB, Bool.and_assoc]
theorem baseB_loc {t : Tr} (h : baseB t = true) : locatedB t = true ∧ t.things.length = t.ends.length := by
  simp only [baseB, Bool.and_eq_true, decide_eq_true_eq] at h
  exact ⟨h.1.1.1.1.1.1, h.2.1⟩
theorem thingAt_before {t : Tr} {i : Nat} (h : ∀ j, j < i → thingAt t j = true) : (thingB t (t.things.getD i default) (t.ends.getD i default) && (dc ((i : Int) = 0) || beforeT (t.things.getD (i - 1) default) (t.things.getD i default))) = thingAt t i := by
  unfold thingAt
  rw [show dc ((i : Int) = 0) = decide (i = 0) by rw [dc_eq]; exact decide_eq_decide.2 (by omega)]
  cases h1 : thingB t (t.things.getD i default) (t.ends.getD i default) with
  | false => rfl
  | true =>
    by_cases h0 : i = 0
    · simp [h0]
    · have h2 := h (i - 1) (by omega)
      simp only [thingAt, Bool.and_eq_true] at h2
      rw [beforeT_eq h2.1 h1]
end Go.Tc
namespace Go.Proofs.Ytdpcdbepeemflaa
open Go Go.Eng Go.Tc
attribute [local irreducible] wpList Code.wp bodyPost Exit.then Exit.inBlock Calls
set_option maxHeartbeats 1600000 in
theorem rtcheck_spec {lv iv ev bv av dv cv tv nv : Value} {t : Tr} (w : World) (h : TrIn All w lv iv ev bv av dv cv tv nv t) :
    Pur Try.prog 34 [.agg #[lv, iv, ev, bv, av, dv, cv, tv, nv]] w fun _ v _ => v = .int .i64 (trE t) := by
  have hT := h.things; have hN := h.ends
  have htl := hT.le; have hnl := hN.le
  refine enter_pur Try.func34 Try.ntmps34 rfl rfl ?_
  refine gO_ ?_
  refine wl_fx (fx_box (next := ?_)); intro bt
  refine gO_ ?_
  refine wl_fx (fx_call (spec := fun w' hw => revented_spec w' (h.now hw (.head _))) (next := ?_))
  rintro v n1 w1 rfl hn1
  refine gO_ ?_
  refine wl_gx (h := gx_call (spec := fun _ w' hw => rbarred_spec w' (h.now hw (.tail _ (.head _))))) (next := ?_)
  refine gO_ ?_
  refine wl_gx (h := gx_call (spec := fun _ w' hw => rpaired_spec av t.addr false w' (h.now hw (.tail _ (.head _))) (hw.now h.addr (.tail _ (.head _))))) (next := ?_)
  refine gO_ ?_
  refine wl_gx (h := gx_call (spec := fun _ w' hw => rpaired_spec dv t.data true w' (h.now hw (.tail _ (.head _))) (hw.now h.data (.tail _ (.head _))))) (next := ?_)
  refine gO_ ?_
  refine wl_gx (h := gx_call (spec := fun _ w' hw => rpaired_spec cv t.ctrl false w' (h.now hw (.tail _ (.head _))) (hw.now h.ctrl (.tail _ (.head _))))) (next := ?_)
  refine gO_ ?_
  refine wc_loop (fun s : Nat × Bool => s.1 ≤ t.things.length ∧ (s.2 = true → baseB t = true ∧ ∀ j, j < s.1 → thingAt t j = true) ∧ (s.2 = false → trOk t = false)) (fun s => [(4, true, .int .i64 s.1), (3, true, .bool s.2), (1, true, .pointer (some ⟨bt, 0, none⟩))])
    (fun s => Mem [(w, All)] [.box bt [lv, iv, ev, bv, av, dv, cv, tv, nv] 30]) (fun s => t.things.length - s.1) (0, _) ⟨Nat.zero_le _, fun h1 => ⟨(okBase t).symm.trans h1, fun j hj => absurd hj (Nat.not_lt_zero _)⟩, fun h1 => by rw [trOk_base, (okBase t).symm.trans h1]; rfl⟩ ⟨rfl, rfl, rfl, trivial⟩ (fun _ h => h.last rfl) ?_
  rintro ⟨i, ok⟩ ⟨hi, hok, hno⟩
  dsimp only at hi hok hno ⊢
  refine gO_ ?_
  refine wc_cond rfl (fun h1 => ?_) (fun h1 => ?_)
  · simp only [Bool.and_eq_true, dc_true] at h1
    obtain ⟨hbase, hall⟩ := hok h1.2
    obtain ⟨hlo, hlen⟩ := baseB_loc hbase
    have h1' : i < t.things.length := by omega
    have h1n : i < t.ends.length := by omega
    refine gO_ ?_
    refine wc_draw [0, 1, 2, 3, 4, 5, 6, 7, 8, 9, 10, 11, 12, 13, 14, 15, 16, 17, 18, 19, 20, 21, 22, 23, 24, 25, 26, 27, 28, 29, 30] mixed ?_
    refine kG_ ?_
    refine kg_f _ (h := fx_call (spec := fun w' hw => rthing_spec (t.things.getD i default) (t.ends.getD i default) w' (h.now hw (.head _)) hlo) (next := ?_)) (hSS := fun _ h => h)
    rintro v n6 w6 rfl hn6
    refine kp_S ?_ (fun _ h => h.tailB)
    refine kp_mem (fun _ h => h.tailB) ?_
    refine kG_ ?_
    refine kg_gx (h := gx_call (spec := fun _ w' hw => rbefore_spec (t.things.getD ((i : Int) - 1).toNat default) (t.things.getD i default) w')) (next := ?_)
    refine kG_ ?_
    refine gO_ ?_
    refine po_loop ((i + 1), _) ⟨Nat.succ_le_of_lt h1', fun h2 => ⟨hbase, ?_⟩, fun h2 => ?_⟩ (by simp only; omega) ⟨rfl, rfl, rfl, trivial⟩ (fun _ h => h.last rfl)
    · have h3 : thingAt t i = true := by rw [← thingAt_before hall, ← pred_nat]; exact h2
      exact seenT hall h3
    · have h3 : thingAt t i = false := by rw [← thingAt_before hall, ← pred_nat]; exact h2
      rw [trOk_base, all_range_f h1' h3, Bool.and_false]
  · refine gO_ ?_
    refine wc_cond rfl (fun h2 => ?_) (fun h2 => ?_)
    · refine gO_ ?_
      refine pur_ret Try.results34 (.tmp rfl .nil) (.head _) fun w' hw => ?_
      rw [trE, hno (by simpa using h2)]; rfl
    · have hok1 : ok = true := by simpa using h2
      obtain ⟨hbase, hall⟩ := hok hok1
      rw [hok1, Bool.and_true, dc_false] at h1
      refine gO_ ?_
      refine pur_ret Try.results34 (.tmp rfl .nil) (.head _) fun w' hw => ?_
      rw [trE, if_pos (by rw [trOk_base, hbase, all_range.2 fun j hj => hall j (by omega)]; rfl)]; rfl
end Go.Proofs.Ytdpcdbepeemflaa
end
