/- The walks: trace.Orders, Fenced; alembicref15.Orders, Fenced; tso.Ppo, alembicref19.Ppo. -/
import Derived.Test.YtifgncgiiojikaaGreatDoorTsA
set_option linter.unusedSimpArgs false
set_option linter.unusedVariables false
namespace Go.Vw
open Go Go.Eng Go.Tc Go.Rl
/-- the events of a direction among the first so many, as bits -/
def maskD (p : Nat → Bool) : Nat → W
  | 0 => 0#64
  | n + 1 => if p n = true then maskD p n ||| (1#64 <<< (BitVec.ofInt 64 (n : Int)).toNat) else maskD p n
theorem maskD_bit (p : Nat → Bool) : ∀ (n : Nat), n ≤ 64 → ∀ j, (maskD p n).getLsbD j = (decide (j < n) && p j)
  | 0, _, j => by unfold maskD; simp
  | n + 1, h, j => by
    have ih := maskD_bit p n (by omega) j
    unfold maskD
    rw [ofInt_toNat n (by omega)]
    by_cases hp : p n = true
    · rw [if_pos hp, BitVec.getLsbD_or, ih, BitVec.getLsbD_shiftLeft, Bool.eq_iff_iff]
      simp only [Bool.or_eq_true, Bool.and_eq_true, decide_eq_true_eq, Bool.not_eq_true', decide_eq_false_iff_not, BitVec.getLsbD_one]
      constructor
      · rintro (⟨h1, h2⟩ | h1)
        · exact ⟨by omega, h2⟩
        · have : j = n := by omega
          subst this; exact ⟨by omega, hp⟩
      · rintro ⟨h1, h2⟩
        by_cases q : j = n
        · subst q; right; omega
        · left; exact ⟨by omega, h2⟩
    · rw [if_neg hp, ih, Bool.eq_iff_iff]
      simp only [Bool.and_eq_true, decide_eq_true_eq]
      constructor
      · rintro ⟨h1, h2⟩; exact ⟨by omega, h2⟩
      · rintro ⟨h1, h2⟩
        refine ⟨?_, h2⟩
        by_cases q : j = n
        · subst q; exact absurd h2 hp
        · omega
end Go.Vw
namespace Go.Proofs.YtifgncgiiojikaaGreatDoor
open Go Go.Eng Go.Tc Go.Rl Go.Vw
attribute [local irreducible] wpList Code.wp bodyPost Exit.then Exit.inBlock Calls

set_option maxHeartbeats 800000 in
theorem orders1_spec (p d : Int) (w : World) (hd : d = 1 ∨ d = 2) :
    Pur Tryz.prog 88 [.int .i64 p, .int .i64 d] w fun _ v _ => v = .bool (halfB p d) := by
  refine enter_pur Tryz.func88 Tryz.ntmps88 rfl rfl ?_
  refine gO_ ?_
  refine pur_ret Tryz.results88 (.tmp rfl .nil) (.head _) fun w' hw => ?_
  simp only [dc_eq]; rfl

theorem ordB_no {f a b : Int} (h : ¬ ((a = 1 ∨ a = 2) ∧ (b = 1 ∨ b = 2))) : ordB f a b = false := if_neg h
theorem ordB_m {f a b : Int} (h : (a = 1 ∨ a = 2) ∧ (b = 1 ∨ b = 2)) (h1 : f = 1) : ordB f a b = true := by unfold ordB; rw [if_pos h, if_pos h1]
theorem ordB_t {f a b : Int} (h : (a = 1 ∨ a = 2) ∧ (b = 1 ∨ b = 2)) (h1 : ¬ f = 1) (h2 : f = 2) : ordB f a b = (decide (a = 1) || decide (b = 2)) := by unfold ordB; rw [if_pos h, if_neg h1, if_pos h2]
theorem ordB_o {f a b : Int} (h : (a = 1 ∨ a = 2) ∧ (b = 1 ∨ b = 2)) (h1 : ¬ f = 1) (h2 : ¬ f = 2) (h3 : f < 3 ∨ 11 < f) : ordB f a b = false := by unfold ordB; rw [if_pos h, if_neg h1, if_neg h2, if_pos h3]
theorem ordB_k {f a b : Int} (h : (a = 1 ∨ a = 2) ∧ (b = 1 ∨ b = 2)) (m : Nat) (hm : m ≤ 8) (hf : f = m + 3) : ordB f a b = (halfB ((m / 3 : Nat) : Int) a && halfB ((m % 3 : Nat) : Int) b) := by
  unfold ordB; rw [if_pos h, if_neg (by omega), if_neg (by omega), if_neg (by omega), show f - 3 = (m : Int) by omega]
  rw [show ((m : Int).tdiv 3) = ((m / 3 : Nat) : Int) from (Int.ofNat_tdiv m 3).symm, show ((m : Int).tmod 3) = ((m % 3 : Nat) : Int) from (Int.ofNat_tmod m 3).symm]
theorem ord_dirs {a b : Int} (h : (decide (a ≠ 1) && decide (a ≠ 2) || (decide (b ≠ 1) && decide (b ≠ 2))) = false) : (a = 1 ∨ a = 2) ∧ (b = 1 ∨ b = 2) := by
  simp only [Bool.or_eq_false_iff, Bool.and_eq_false_iff, decide_eq_false_iff_not] at h
  omega
theorem ord_ndirs {a b : Int} (h : (decide (a ≠ 1) && decide (a ≠ 2) || (decide (b ≠ 1) && decide (b ≠ 2))) = true) : ¬ ((a = 1 ∨ a = 2) ∧ (b = 1 ∨ b = 2)) := by
  simp only [Bool.or_eq_true, Bool.and_eq_true, decide_eq_true_eq] at h
  omega

set_option maxHeartbeats 1600000 in
theorem torders_spec (f a b : Int) (w : World) :
    Pur Tryz.prog 71 [.int .i64 f, .int .i64 a, .int .i64 b] w fun _ v _ => v = .bool (ordB f a b) := by
  refine enter_pur Tryz.func71 Tryz.ntmps71 rfl rfl ?_
  refine gO_ ?_
  refine wc_cond rfl (fun h1 => ?_) (fun h1 => ?_)
  · refine gO_ ?_
    refine pur_ret Tryz.results71 (.tmp rfl .nil) (.head _) fun w' hw => ?_
    rw [ordB_no (ord_ndirs (by simpa only [dc_eq, ne_eq, decide_not] using h1))]; rfl
  · have hd := ord_dirs (a := a) (b := b) (by simpa only [dc_eq, ne_eq, decide_not] using h1)
    refine gO_ ?_
    refine wc_cond rfl (fun h2 => ?_) (fun h2 => ?_)
    · rw [dc_true] at h2
      refine gO_ ?_
      refine pur_ret Tryz.results71 (.tmp rfl .nil) (.head _) fun w' hw => ?_
      rw [ordB_m hd h2]; rfl
    · rw [dc_false] at h2
      refine gO_ ?_
      refine wc_cond rfl (fun h3 => ?_) (fun h3 => ?_)
      · rw [dc_true] at h3
        refine gO_ ?_
        refine pur_ret Tryz.results71 (.tmp rfl .nil) (.head _) fun w' hw => ?_
        rw [ordB_t hd h2 h3]; simp only [dc_eq]; rfl
      · rw [dc_false] at h3
        refine gO_ ?_
        refine wc_cond rfl (fun h4 => ?_) (fun h4 => ?_)
        · simp only [dc_eq, Bool.or_eq_true, decide_eq_true_eq] at h4
          refine gO_ ?_
          refine pur_ret Tryz.results71 (.tmp rfl .nil) (.head _) fun w' hw => ?_
          rw [ordB_o hd h2 h3 (by omega)]; rfl
        · simp only [dc_eq, Bool.or_eq_false_iff, decide_eq_false_iff_not] at h4
          have hx : ∃ m : Nat, m ≤ 8 ∧ f = m + 3 := ⟨(f - 3).toNat, by omega, by omega⟩
          clear h4
          refine gO_ ?_
          obtain ⟨m, hm, hf⟩ := hx
          have hf3 : f - 3 = (m : Int) := by omega
          rw [hf3]
          refine wl_a (v := .int .i64 ((m / 3 : Nat) : Int)) (h := ?_) (next := ?_)
          · exact qy_quo (n := 3)
          refine gO_ ?_
          refine gO_ ?_
          refine wl_fx (fx_call (k := 88) (first := []) (cap := []) (spec := fun w' hw => orders1_spec _ a w' hd.1) (next := ?_))
          rintro v n1 w1 rfl hn1
          refine gO_ ?_
          refine wl_ag (v := .int .i64 ((m % 3 : Nat) : Int)) (h := ?_) (next := ?_)
          · exact qy_rem (n := 3)
          refine gO_ ?_
          refine wl_gx (h := gx_call (k := 88) (first := []) (cap := []) (spec := fun _ w' hw => orders1_spec _ b w' hd.2)) (next := ?_)
          refine gO_ ?_
          refine pur_ret Tryz.results71 (.tmp rfl .nil) (.tail _ (.head _)) fun w' hw => ?_
          rw [ordB_k hd m hm hf]; rfl

theorem any_take {α : Type} [Inhabited α] (p : α → Bool) (l : List α) (k : Nat) : k ≤ l.length → (((l.take k).any p = true) ↔ ∃ i, i < k ∧ p (l.getD i default) = true) := by
  intro hk
  rw [List.any_eq_true]
  constructor
  · rintro ⟨x, hx, hp⟩
    obtain ⟨i, hi⟩ := List.getElem?_of_mem hx
    rw [List.getElem?_take] at hi
    split at hi
    · rename_i h
      refine ⟨i, h, ?_⟩
      rw [List.getD_eq_getElem?_getD, hi]; exact hp
    · cases hi
  · rintro ⟨i, hi, hp⟩
    refine ⟨l.getD i default, ?_, hp⟩
    refine List.mem_of_getElem? (i := i) ?_
    rw [List.getElem?_take, if_pos hi, List.getD_eq_getElem?_getD, List.getElem?_eq_getElem (show i < l.length by omega)]; rfl

set_option maxHeartbeats 1600000 in
theorem fenced1_spec {lv iv ev bv av dv cv tv nv : Value} {t : Tr} (a b : Ev) (bi : Nat) (w : World) (h : TrIn All w lv iv ev bv av dv cv tv nv t) (hb : Bx All w bi [lv, iv, ev, bv, av, dv, cv, tv, nv]) :
    Pur Tryz.prog 70 [.agg (encEv a).toArray, .agg (encEv b).toArray, .pointer (some ⟨bi, 0, none⟩)] w fun _ v _ => v = .bool (fnB t.bars a b) := by
  have hB := h.bars; have hBl := hB.le
  refine enter_pur Tryz.func70 Tryz.ntmps70 rfl rfl ?_
  refine gO_ ?_
  refine wl_fx (fx_box (next := ?_)); intro ba
  refine gO_ ?_
  refine wl_fx (fx_box (next := ?_)); intro bb
  refine gO_ ?_
  refine wc_loop (fun k : Nat => k ≤ t.bars.length ∧ ∀ j, j < k → barB a b (t.bars.getD j default) = false) (fun s => [(11, true, .int .i64 s), (10, true, .int .i64 t.bars.length), (9, true, bv), (4, true, .pointer (some ⟨bb, 0, none⟩)), (3, true, .pointer (some ⟨ba, 0, none⟩))])
    (fun s => Mem [(w, All)] [.box bb (encEv b) 36, .box ba (encEv a) 36]) (fun s => t.bars.length - s) 0 ⟨Nat.zero_le _, fun j hj => absurd hj (Nat.not_lt_zero _)⟩ ⟨rfl, rfl, rfl, rfl, rfl, trivial⟩ (fun _ h => h.last rfl) ?_
  rintro k ⟨hk, hno⟩
  refine gO_ ?_
  refine wc_cond rfl (fun h1 => ?_) (fun h1 => ?_)
  · have h1' : k < t.bars.length := by rw [dc_true] at h1; omega
    refine gO_ ?_
    refine wl_fx (fx_alloc (next := ?_)); intro bx
    refine gO_ ?_
    refine wl_fx (fx_store_box (i := 0) (hi := rfl) (next := ?_))
    refine gO_ ?_
    refine wl_gx (h := gx_call (spec := fun _ w' hw => torders_spec _ _ _ w')) (next := ?_)
    refine gO_ ?_
    have hq : (((dc ((t.bars.getD k default).thread = a.thread) && dc (a.place < (t.bars.getD k default).place)) && dc ((t.bars.getD k default).place < b.place)) && ordB (t.bars.getD k default).fence a.dir b.dir) = barB a b (t.bars.getD k default) := by simp only [dc_eq]; rfl
    refine wc_cond rfl (fun h2 => ?_) (fun h2 => ?_)
    · rw [hq] at h2
      refine gO_ ?_
      refine pur_ret Tryz.results70 (.tmp rfl .nil) (.head _) fun w' hw => ?_
      have : fnB t.bars a b = true := by
        unfold fnB
        rw [List.any_eq_true]
        exact ⟨t.bars.getD k default, by rw [List.getD_eq_getElem?_getD, List.getElem?_eq_getElem h1']; exact List.getElem_mem h1', h2⟩
      rw [this]; rfl
    · rw [hq] at h2
      refine gO_ ?_
      refine po_loop (k + 1) ⟨by omega, fun j hj => ?_⟩ (by omega) ⟨rfl, rfl, rfl, rfl, rfl, trivial⟩ (fun _ h => (h.last rfl).tail)
      by_cases q : j < k
      · exact hno j q
      · obtain rfl : j = k := by omega
        exact h2
  · rw [dc_false] at h1
    refine gO_ ?_
    refine pur_ret Tryz.results70 (.tmp rfl .nil) (.head _) fun w' hw => ?_
    have : fnB t.bars a b = false := by
      unfold fnB
      rw [List.any_eq_false]
      intro x hx hp
      obtain ⟨i, hi⟩ := List.getElem?_of_mem hx
      have hil := (List.getElem?_eq_some_iff.1 hi).1
      have := hno i (by omega)
      rw [List.getD_eq_getElem?_getD, hi] at this
      rw [show barB a b x = false from this] at hp; cases hp
    rw [this]; rfl

set_option maxHeartbeats 1600000 in
theorem tfenced_spec {lv iv ev bv av dv cv tv nv : Value} {t : Tr} (w : World) (h : TrIn All w lv iv ev bv av dv cv tv nv t) :
    Mk Tryz.prog 47 [.agg #[lv, iv, ev, bv, av, dv, cv, tv, nv]] w (RelΨ (trN t) (trR t (fnP t)) (trE t)) := by
  refine enter_mk Tryz.func47 Tryz.ntmps47 rfl rfl ?_
  refine gO_ ?_
  refine wl_fx (fx_box (next := ?_)); intro bt
  refine gO_ ?_
  refine wl_fx (fx_alloc (next := ?_)); intro br2
  refine gO_ ?_
  refine wl_fx (fx_call_mk (spec := fun w' hw => between_spec (t := t) 70 [.pointer (some ⟨bt, 0, none⟩)] (fnB t.bars) w' (h.now hw (.head _)) fun a b w2 hw2 =>
    fenced1_spec a b bt w2 ((h.now hw (.head _)).now hw2 (.head _)) ((hw.bx (S := All) (.tail _ (.head _)) trivial).mono (hw2.base _ (.head _)) fun _ => trivial)) (next := ?_))
  rintro v n1 es w1 ⟨sv, hsv, rfl, rfl⟩
  refine gO_ ?_
  refine wl_fx (fx_store_box (i := 1) (hi := rfl) (next := ?_))
  refine gO_ ?_
  refine mk_ret Tryz.results47 (.cellN inferInstance rfl (.tail _ (.head _)) rfl (.tmp rfl .nil)) (.tail _ (.head _)) [_] [0] rfl (by decide) fun w' hw => ?_
  exact ⟨sv, hsv, rfl, rfl⟩

set_option maxHeartbeats 3200000 in
theorem tppo_spec {lv iv ev bv av dv cv tv nv : Value} {t : Tr} (w : World) (h : TrIn All w lv iv ev bv av dv cv tv nv t) :
    Mk Tryz.prog 87 [.agg #[lv, iv, ev, bv, av, dv, cv, tv, nv]] w (RelΨ (trN t) (trR t (ppP t)) (trE t)) := by
  have hE := h.evs; have hEl := hE.le
  refine enter_mk Tryz.func87 Tryz.ntmps87 rfl rfl ?_
  refine gO_ ?_
  refine wl_fx (fx_box (next := ?_)); intro bT
  refine gO_ ?_
  refine wl_fx (fx_alloc (next := ?_)); intro br2
  refine gO_ ?_
  refine wl_fx (fx_call_mk (spec := fun w' hw => tpo_spec (t := t) w' (h.now hw (.head _))) (next := ?_))
  rintro v n1 es w1 ⟨s1, hs1, rfl, rfl⟩
  refine gO_ ?_
  refine wl_fx (fx_alloc (next := ?_)); intro bpo
  refine gO_ ?_
  refine wl_fx (fx_store_box (i := 0) (hi := rfl) (next := ?_))
  refine gO_ ?_
  refine wc_cond rfl (fun h1 => ?_) (fun h1 => ?_)
  · rw [trE_dc, Bool.not_eq_true'] at h1
    refine gO_ ?_
    refine wl_fx (fx_store_box (i := 2) (hi := rfl) (next := ?_))
    refine gO_ ?_
    refine kp_nil 113 1 encW ?_
    refine mk_ret Tryz.results87 (.cellN inferInstance rfl (.tail _ (.tail _ (.tail _ (.head _)))) rfl (.tmp rfl .nil)) (.tail _ (.head _)) [_] [0] rfl (by decide) fun w' hw => ?_
    unfold trN trR; rw [h1]
    exact ⟨_, sv_nil, rfl, rfl⟩
  · rw [trE_dc, Bool.not_eq_false'] at h1
    obtain ⟨hb, hlb⟩ := trOk_lens h1
    have hN : trN t = (t.evs.length : Int) := by unfold trN; rw [if_pos h1]
    have hR : ∀ p, trR t p = relOf t.evs.length p := fun p => by unfold trR; rw [if_pos h1]
    rw [hN, hR (poP t)]
    refine gO_ ?_
    refine wl_fx (fx_call_mk (spec := fun w' hw => tfenced_spec (t := t) w' (h.now hw (.tail _ (.head _)))) (next := ?_))
    rintro v n2 es w2 ⟨s2, hs2, rfl, rfl⟩
    rw [hN, hR (fnP t)]
    refine gO_ ?_
    refine wl_fx (fx_alloc (next := ?_)); intro bfn
    refine gO_ ?_
    refine wl_fx (fx_store_box (i := 0) (hi := rfl) (next := ?_))
    refine gO_ ?_
    refine wc_loop (fun s : Nat × W × W => s.1 ≤ t.evs.length ∧ s.2.1 = maskD (fun i => !decide ((evi t i).dir = 2)) s.1 ∧ s.2.2 = maskD (fun i => decide ((evi t i).dir = 2)) s.1) (fun s => [(33, true, .int .i64 s.1), (32, true, .int .i64 t.evs.length), (31, true, ev), (9, true, u64 s.2.1), (8, true, u64 s.2.2), (6, true, .pointer (some ⟨bfn, 0, none⟩)), (4, true, .pointer (some ⟨bpo, 0, none⟩)), (2, true, .pointer (some ⟨br2, 0, none⟩))])
      (fun s => Mem [(w, All)] [.box bfn [.int .i64 t.evs.length, s2] 60, ownW s2 (relOf t.evs.length (fnP t)), .box bpo [.int .i64 t.evs.length, s1] 60, ownW s1 (relOf t.evs.length (poP t)), .box br2 [.int .i64 0, .slice none 0 0] 60, .box bT [lv, iv, ev, bv, av, dv, cv, tv, nv] 30]) (fun s => t.evs.length - s.1) (0, 0#64, 0#64) ⟨Nat.zero_le _, rfl, rfl⟩ ⟨rfl, rfl, rfl, rfl, rfl, rfl, rfl, rfl, trivial⟩ (fun _ h => h.last rfl) ?_
    rintro ⟨i, rm, wm⟩ ⟨hi, hrm, hwm⟩
    dsimp only at hi hrm hwm ⊢
    refine gO_ ?_
    refine wc_cond rfl (fun h2 => ?_) (fun h2 => ?_)
    · have h2' : i < t.evs.length := by rw [dc_true] at h2; omega
      refine gO_ ?_
      refine wl_fx (fx_alloc (next := ?_)); intro bx
      refine gO_ ?_
      refine wl_fx (fx_store_box (i := 0) (hi := rfl) (next := ?_))
      refine gO_ ?_
      refine wc_cond rfl (fun h3 => ?_) (fun h3 => ?_)
      · rw [dc_true] at h3
        refine gO_ ?_
        refine po_loop (i + 1, rm, wm ||| (1#64 <<< (BitVec.ofInt 64 (i : Int)).toNat)) ⟨by dsimp only; omega, ?_, ?_⟩ (by dsimp only; omega) ⟨rfl, rfl, rfl, rfl, rfl, rfl, rfl, rfl, trivial⟩ (fun _ h => (h.last rfl).tail)
        · dsimp only; rw [hrm]; exact (if_neg (by simp; exact h3)).symm
        · dsimp only; rw [hwm]; exact (if_pos (decide_eq_true h3)).symm
      · rw [dc_false] at h3
        refine gO_ ?_
        refine po_loop (i + 1, rm ||| (1#64 <<< (BitVec.ofInt 64 (i : Int)).toNat), wm) ⟨by dsimp only; omega, ?_, ?_⟩ (by dsimp only; omega) ⟨rfl, rfl, rfl, rfl, rfl, rfl, rfl, rfl, trivial⟩ (fun _ h => (h.last rfl).tail)
        · dsimp only; rw [hrm]; exact (if_pos (by simp; exact h3)).symm
        · dsimp only; rw [hwm]; exact (if_neg (by simp; exact h3)).symm
    · have hin : i = t.evs.length := by rw [dc_false] at h2; omega
      subst hin
      have o1 := relOk_relOf t.evs.length (poP t) hb
      have o2 := relOk_relOf t.evs.length (fnP t) hb
      refine gO_ ?_
      refine wl_fx (fx_call_mk (spec := fun w' hw => pick_all t.evs.length s1 wm rm (relOf t.evs.length (poP t)) w' (hw.lend (.tail _ (.tail _ (.tail _ (.head _)))))) (next := ?_))
      unfold nOf erOf pickS
      rw [o1, if_pos rfl, if_pos rfl, if_pos rfl, Int.toNat_natCast]
      rintro v n3 es w3 ⟨s3, hs3, rfl, rfl⟩
      have e3 : (relOf t.evs.length fun a b => bt (relOf t.evs.length (poP t)) a b && wm.getLsbD a && rm.getLsbD b) = relOf t.evs.length fun a b => poP t a b && lateB t a b := relOf_ext fun a b ha hb' => by
        rw [relOf_bt _ _ hb _ _ ha hb', hwm, hrm, maskD_bit _ _ hb, maskD_bit _ _ hb, decide_eq_true ha, decide_eq_true hb', Bool.and_assoc]
        refine congrArg (poP t a b && ·) ?_
        unfold lateB
        rw [Bool.eq_iff_iff]
        have := trOk_dir h1 hb'
        simp only [Bool.true_and, Bool.and_eq_true, Bool.not_eq_true', decide_eq_true_eq, decide_eq_false_iff_not]
        omega
      rw [e3]
      refine gO_ ?_
      refine wl_fx (fx_alloc (next := ?_)); intro bl
      refine gO_ ?_
      refine wl_fx (fx_store_box (i := 0) (hi := rfl) (next := ?_))
      refine gO_ ?_
      have o3 := relOk_relOf t.evs.length (fun a b => poP t a b && lateB t a b) hb
      refine wl_fx (fx_call_mk (spec := fun w' hw => less_all t.evs.length s1 (relOf t.evs.length (poP t)) t.evs.length s3 (relOf t.evs.length fun a b => poP t a b && lateB t a b) w' (hw.lend (.tail _ (.tail _ (.tail _ (.tail _ (.tail _ (.head _))))))) (hw.lend (.tail _ (.head _)))) (next := ?_))
      unfold mixS Go.Rl.n2
      rw [erTwo_ok o1 o3, if_pos rfl, if_pos rfl, Int.toNat_natCast]
      rintro v n4 es w4 ⟨s4, hs4, rfl, rfl⟩
      have e4 : (relOf t.evs.length fun i j => bt (relOf t.evs.length (poP t)) i j && !bt (relOf t.evs.length fun a b => poP t a b && lateB t a b) i j) = relOf t.evs.length fun a b => poP t a b && !lateB t a b := relOf_ext fun a b ha hb' => by
        rw [relOf_bt _ _ hb _ _ ha hb', relOf_bt _ _ hb _ _ ha hb']
        cases poP t a b <;> simp
      rw [e4]
      refine gO_ ?_
      refine wl_fx (fx_alloc (next := ?_)); intro bk
      refine gO_ ?_
      refine wl_fx (fx_store_box (i := 0) (hi := rfl) (next := ?_))
      refine gO_ ?_
      refine wl_fx (fx_call_mk (spec := fun w' hw => union_ok (relOk_relOf _ (fun a b => poP t a b && !lateB t a b) hb) o2 (hw.lend (.tail _ (.head _))) (hw.lend (.tail _ (.tail _ (.tail _ (.tail _ (.tail _ (.head _)))))))) (next := ?_))
      rintro v n5 es w5 ⟨s5, hs5, rfl, rfl⟩
      rw [relOf_uni hb]
      refine gO_ ?_
      refine wl_fx (fx_store_box (i := 9) (hi := rfl) (next := ?_))
      refine gO_ ?_
      refine mk_ret Tryz.results87 (.cellN inferInstance rfl (.tail _ (.tail _ (.tail _ (.tail _ (.tail _ (.tail _ (.tail _ (.tail _ (.tail _ (.head _)))))))))) rfl (.tmp rfl .nil)) (.tail _ (.tail _ (.tail _ (.head _)))) [_] [0] rfl (by decide) fun w' hw => ?_
      refine ⟨s5, hs5, ?_, ?_⟩
      · unfold trE; rw [h1]; rfl
      · rw [hR]
        refine congrArg (fun r => [ownW s5 r]) (relOf_ext fun a b _ _ => ?_)
        unfold ppP fnP
        cases poP t a b <;> simp
end Go.Proofs.YtifgncgiiojikaaGreatDoor
