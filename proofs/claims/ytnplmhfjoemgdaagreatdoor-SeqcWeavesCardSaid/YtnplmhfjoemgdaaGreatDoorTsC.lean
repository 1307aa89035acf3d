/- The walks: alembicref15.Fenced, alembicref19.Ppo. -/
import Derived.Test.YtnplmhfjoemgdaaGreatDoorTsB
set_option linter.unusedSimpArgs false
set_option linter.unusedVariables false
namespace Go.Proofs.YtnplmhfjoemgdaaGreatDoor
open Go Go.Eng Go.Tc Go.Rl Go.Vw
attribute [local irreducible] wpList Code.wp bodyPost Exit.then Exit.inBlock Calls
/-- the rows while a pair's fences are gone through -/
def upTo3 (t : Tr) (i j k a b : Nat) : Bool := upTo2 (fnP t) i j a b || (decide (a = i) && decide (b = j) && (t.bars.take k).any (barB (evi t i) (evi t j)))
theorem upTo3_zero (t : Tr) (i j : Nat) : upTo2 (fnP t) i j = upTo3 t i j 0 := by
  funext a b; unfold upTo3; simp
theorem take_any_succ {α : Type} [Inhabited α] (p : α → Bool) (l : List α) {k : Nat} (h : k < l.length) : (l.take (k + 1)).any p = ((l.take k).any p || p (l.getD k default)) := by
  rw [take_one h, List.any_append]; simp
theorem upTo3_put (t : Tr) (m i j k : Nat) (hm : m ≤ 64) (hi : i < m) (hj : j < m) (hk : k < t.bars.length) (hb : barB (evi t i) (evi t j) (t.bars.getD k default) = true) : put (relOf m (upTo3 t i j k)) i j = relOf m (upTo3 t i j (k + 1)) := by
  rw [put_relOf m _ hm i j hi hj]
  refine relOf_ext fun a b _ _ => ?_
  unfold upTo3
  rw [take_any_succ _ _ hk, hb]
  cases upTo2 (fnP t) i j a b <;> cases decide (a = i) <;> cases decide (b = j) <;> simp
theorem upTo3_skip (t : Tr) (m i j k : Nat) (hk : k < t.bars.length) (hb : barB (evi t i) (evi t j) (t.bars.getD k default) = false) : relOf m (upTo3 t i j k) = relOf m (upTo3 t i j (k + 1)) := by
  refine relOf_ext fun a b _ _ => ?_
  unfold upTo3
  rw [take_any_succ _ _ hk, hb, Bool.or_false]
theorem upTo3_all (t : Tr) (m i j : Nat) (hp : poP t i j = true) : relOf m (upTo3 t i j t.bars.length) = relOf m (upTo2 (fnP t) i (j + 1)) := by
  refine relOf_ext fun a b _ _ => ?_
  unfold upTo3 upTo2
  rw [List.take_length]
  by_cases ha : a = i
  · subst ha
    by_cases hb : b = j
    · subst hb
      unfold fnP fnB
      rw [hp]; simp
    · have : decide (b < j + 1) = decide (b < j) := by rw [decide_eq_decide]; omega
      simp [hb, this]
  · simp [ha]
theorem upTo3_none (t : Tr) (m i j : Nat) (hp : poP t i j = false) : relOf m (upTo3 t i j 0) = relOf m (upTo2 (fnP t) i (j + 1)) := by
  rw [← upTo3_zero]
  exact upTo2_skip _ _ i j (by unfold fnP; rw [hp]; rfl)

set_option maxHeartbeats 6400000 in
theorem rfenced_spec {lv iv ev bv av dv cv tv nv : Value} {t : Tr} (w : World) (h : TrIn All w lv iv ev bv av dv cv tv nv t) :
    Mk Tryz.prog 43 [.agg #[lv, iv, ev, bv, av, dv, cv, tv, nv]] w (RelΨ (trN t) (trR t (fnP t)) (trE t)) := by
  have hE := h.evs; have hEl := hE.le
  have hB := h.bars; have hBl := hB.le
  refine enter_mk Tryz.func43 Tryz.ntmps43 rfl rfl ?_
  refine gO_ ?_
  refine wl_fx (fx_box (next := ?_)); intro bt
  refine gO_ ?_
  refine wl_fx (fx_alloc (next := ?_)); intro br2
  refine gO_ ?_
  refine wl_fx (fx_call_mk (spec := fun w' hw => rtpo_spec (t := t) w' (h.now hw (.head _))) (next := ?_))
  rintro v n1 es w1 ⟨s1, hs1, rfl, rfl⟩
  refine gO_ ?_
  refine wl_fx (fx_alloc (next := ?_)); intro bpo
  refine gO_ ?_
  refine wl_fx (fx_store_box (i := 0) (hi := rfl) (next := ?_))
  refine gO_ ?_
  refine wc_cond rfl (fun h1 => ?_) (fun h1 => ?_)
  · rw [trE_dc, Bool.not_eq_true'] at h1
    refine gO_ ?_
    refine wl_fx (fx_store_box (i := 2) (hi := rfl) (next := ?_))
    refine gO_ ?_
    refine kp_nil 68 1 encW ?_
    refine mk_ret Tryz.results43 (.cellN inferInstance rfl (.tail _ (.tail _ (.tail _ (.head _)))) rfl (.tmp rfl .nil)) (.tail _ (.head _)) [_] [0] rfl (by decide) fun w' hw => ?_
    unfold trN trR; rw [h1]
    exact ⟨_, sv_nil, rfl, rfl⟩
  · rw [trE_dc, Bool.not_eq_false'] at h1
    obtain ⟨hb, hlb⟩ := trOk_lens h1
    have hN : trN t = (t.evs.length : Int) := by unfold trN; rw [if_pos h1]
    have hR : ∀ p, trR t p = relOf t.evs.length p := fun p => by unfold trR; rw [if_pos h1]
    rw [hN, hR (poP t)]
    have o1 := relOk_relOf t.evs.length (poP t) hb
    refine gO_ ?_
    refine wl_fx (fx_call_mk (spec := fun w' hw => none_own t.evs.length w' hb) (next := ?_))
    rintro v n2 es w2 ⟨sv, hsv, rfl, rfl⟩
    rw [upTo_zero _ (fnP t)]
    refine gO_ ?_
    refine wl_fx (fx_alloc (next := ?_)); intro br
    refine gO_ ?_
    refine wl_fx (fx_store_box (i := 0) (hi := rfl) (next := ?_))
    refine gO_ ?_
    refine wc_loop (fun i : Nat => i ≤ t.evs.length) (fun i => [(7, true, .int .i64 i), (6, true, .pointer (some ⟨br, 0, none⟩)), (4, true, .pointer (some ⟨bpo, 0, none⟩)), (2, true, .pointer (some ⟨br2, 0, none⟩)), (1, true, .pointer (some ⟨bt, 0, none⟩))])
      (fun i => Mem [(w, All)] [.box br [.int .i64 t.evs.length, sv] 33, ownW sv (relOf t.evs.length (upTo (fnP t) i)), .box bpo [.int .i64 t.evs.length, s1] 33, ownW s1 (relOf t.evs.length (poP t)), .box br2 [.int .i64 0, .slice none 0 0] 33, .box bt [lv, iv, ev, bv, av, dv, cv, tv, nv] 30]) (fun s => t.evs.length - s) 0 (Nat.zero_le _) ⟨rfl, rfl, rfl, rfl, rfl, trivial⟩ (fun _ h => h.last rfl) ?_
    intro i hi
    refine gO_ ?_
    refine wc_cond rfl (fun h2 => ?_) (fun h2 => ?_)
    · have h2' : i < t.evs.length := by rw [dc_true] at h2; omega
      refine gO_ ?_
      refine wc_loop (fun j : Nat => j ≤ t.evs.length) (fun j => [(8, true, .int .i64 j), (7, true, .int .i64 i), (6, true, .pointer (some ⟨br, 0, none⟩)), (4, true, .pointer (some ⟨bpo, 0, none⟩)), (2, true, .pointer (some ⟨br2, 0, none⟩)), (1, true, .pointer (some ⟨bt, 0, none⟩))])
        (fun j => Mem [(w, All)] [.box br [.int .i64 t.evs.length, sv] 33, ownW sv (relOf t.evs.length (upTo2 (fnP t) i j)), .box bpo [.int .i64 t.evs.length, s1] 33, ownW s1 (relOf t.evs.length (poP t)), .box br2 [.int .i64 0, .slice none 0 0] 33, .box bt [lv, iv, ev, bv, av, dv, cv, tv, nv] 30]) (fun s => t.evs.length - s) 0 (Nat.zero_le _) ⟨rfl, rfl, rfl, rfl, rfl, rfl, trivial⟩ (fun _ h => by rw [← upTo2_zero]; exact h) ?_
      intro j hj
      refine gO_ ?_
      refine wc_cond rfl (fun h3 => ?_) (fun h3 => ?_)
      · have h3' : j < t.evs.length := by rw [dc_true] at h3; omega
        rw [upTo3_zero]
        refine gO_ ?_
        refine wc_cutA (fun s : Nat × Nat => True) (fun s => [(10, true, .pointer (some ⟨s.2, 0, none⟩)), (9, true, .pointer (some ⟨s.1, 0, none⟩)), (8, true, .int .i64 j), (7, true, .int .i64 i), (6, true, .pointer (some ⟨br, 0, none⟩)), (4, true, .pointer (some ⟨bpo, 0, none⟩)), (2, true, .pointer (some ⟨br2, 0, none⟩)), (1, true, .pointer (some ⟨bt, 0, none⟩))])
          (fun s => Mem [(w, All)] [.box s.2 (encEv (evi t j)) 49, .box s.1 (encEv (evi t i)) 49, .box br [.int .i64 t.evs.length, sv] 33, ownW sv (relOf t.evs.length (upTo3 t i j 0)), .box bpo [.int .i64 t.evs.length, s1] 33, ownW s1 (relOf t.evs.length (poP t)), .box br2 [.int .i64 0, .slice none 0 0] 33, .box bt [lv, iv, ev, bv, av, dv, cv, tv, nv] 30]) ?_ ?_
        · refine wc_drawS (Mem [(w, All)] [.box bt [lv, iv, ev, bv, av, dv, cv, tv, nv] 30]) [0, 1, 2, 3, 4, 5, 6, 7, 8, 9, 999] mixed (fun _ h => h.sel [5] rfl (by decide)) ?_
          refine kG_ ?_
          refine kg_br2 10 11 (h1 := ?_) (h2 := ?_)
          · refine ks_f [999] _ (hSS := fun _ h => h) (h := fx_alloc (next := ?_))
            intro bx
            refine kp_S ?_ (fun _ h => h.sel [6] rfl (by decide))
            refine kg_br1 11 (h1 := ?_)
            refine ks_f [12, 13] _ (hSS := fun _ h => h) (h := fx_alloc (next := ?_))
            intro by'
            refine kp_S ?_ (fun _ h => h.sel [7] rfl (by decide))
            refine kg_f _ (h := fx_store_box (i := 1) (hi := rfl) (next := ?_)) (hSS := fun _ h => h)
            refine kp_S ?_ (fun _ h => h.sel [7] rfl (by decide))
            refine kg_z (h := fx_store_box (i := 0) (hi := rfl) (next := ?_))
            exact po_cut (bx, by') trivial ⟨rfl, rfl, rfl, rfl, rfl, rfl, rfl, rfl, trivial⟩ (fun _ h => h.sel [0, 1, 2, 3, 4, 5, 6, 7] rfl (by decide))
          · refine ks_f [999] _ (hSS := fun _ h => h) (h := fx_alloc (next := ?_))
            intro by'
            refine kp_S ?_ (fun _ h => h.sel [6] rfl (by decide))
            refine kg_br1 10 (h1 := ?_)
            refine ks_f [12, 13] _ (hSS := fun _ h => h) (h := fx_alloc (next := ?_))
            intro bx
            refine kp_S ?_ (fun _ h => h.sel [7] rfl (by decide))
            refine kg_f _ (h := fx_store_box (i := 0) (hi := rfl) (next := ?_)) (hSS := fun _ h => h)
            refine kp_S ?_ (fun _ h => h.sel [7] rfl (by decide))
            refine kg_z (h := fx_store_box (i := 1) (hi := rfl) (next := ?_))
            exact po_cut (bx, by') trivial ⟨rfl, rfl, rfl, rfl, rfl, rfl, rfl, rfl, trivial⟩ (fun _ h => h.sel [1, 0, 2, 3, 4, 5, 6, 7] rfl (by decide))
        rintro ⟨bx, by'⟩ -
        dsimp only
        refine gO_ ?_
        refine wc_loop (fun k : Nat => k ≤ t.bars.length ∧ (0 < k → poP t i j = true)) (fun k => [(11, true, .int .i64 k), (10, true, .pointer (some ⟨by', 0, none⟩)), (9, true, .pointer (some ⟨bx, 0, none⟩)), (8, true, .int .i64 j), (7, true, .int .i64 i), (6, true, .pointer (some ⟨br, 0, none⟩)), (4, true, .pointer (some ⟨bpo, 0, none⟩)), (2, true, .pointer (some ⟨br2, 0, none⟩)), (1, true, .pointer (some ⟨bt, 0, none⟩))])
          (fun k => Mem [(w, All)] [.box by' (encEv (evi t j)) 49, .box bx (encEv (evi t i)) 49, .box br [.int .i64 t.evs.length, sv] 33, ownW sv (relOf t.evs.length (upTo3 t i j k)), .box bpo [.int .i64 t.evs.length, s1] 33, ownW s1 (relOf t.evs.length (poP t)), .box br2 [.int .i64 0, .slice none 0 0] 33, .box bt [lv, iv, ev, bv, av, dv, cv, tv, nv] 30]) (fun s => t.bars.length - s) 0 ⟨Nat.zero_le _, fun q => absurd q (Nat.lt_irrefl _)⟩ ⟨rfl, rfl, rfl, rfl, rfl, rfl, rfl, rfl, rfl, trivial⟩ (fun _ h => h) ?_
        rintro k ⟨hk, hkp⟩
        have hhas : has t.evs.length (relOf t.evs.length (poP t)) i j = poP t i j := by rw [Go.Vw.has_bt o1 h2' h3', relOf_bt _ _ hb _ _ h2' h3']
        refine gO_ ?_
        refine wl_gx (h := gx_call (spec := fun _ w' hw => rhas_spec t.evs.length s1 (relOf t.evs.length (poP t)) i j w' (hw.lend (.tail _ (.tail _ (.tail _ (.tail _ (.tail _ (.head _))))))))) (next := ?_)
        rw [hhas]
        refine gO_ ?_
        refine wc_cond rfl (fun h4 => ?_) (fun h4 => ?_)
        · simp only [dc_eq, Bool.and_eq_true, decide_eq_true_eq] at h4
          have h4' : k < t.bars.length := by omega
          refine gO_ ?_
          refine wl_fx (fx_alloc (next := ?_)); intro bb
          refine gO_ ?_
          refine wl_fx (fx_store_box (i := 0) (hi := rfl) (next := ?_))
          refine gO_ ?_
          refine wl_gx (h := gx_call (spec := fun _ w' hw => rorders15_spec _ _ _ w')) (next := ?_)
          refine gO_ ?_
          have hq : (((dc ((t.bars.getD k default).thread = (evi t i).thread) && dc ((evi t i).place < (t.bars.getD k default).place)) && dc ((t.bars.getD k default).place < (evi t j).place)) && ordB (t.bars.getD k default).fence (evi t i).dir (evi t j).dir) = barB (evi t i) (evi t j) (t.bars.getD k default) := by simp only [dc_eq]; rfl
          refine wc_cond rfl (fun h5 => ?_) (fun h5 => ?_)
          · rw [hq] at h5
            refine gO_ ?_
            refine wl_fx (fx_call_mu 4 rfl (spec := fun w' hw => with_spec _ sv _ i j w' (by rw [relOf_length]; omega) (by omega) hsv (hw.only (.tail _ (.tail _ (.tail _ (.tail _ (.head _))))))) (next := ?_))
            rintro v n3 e' w3 ⟨rfl, rfl⟩
            rw [upTo3_put t _ i j k hb h2' h3' h4' h5]
            refine gO_ ?_
            refine wl_fx (fx_store_box (i := 3) (hi := rfl) (next := ?_))
            refine gO_ ?_
            exact po_loop (k + 1) ⟨by omega, fun _ => h4.2⟩ (by omega) ⟨rfl, rfl, rfl, rfl, rfl, rfl, rfl, rfl, rfl, trivial⟩ (fun _ h => h.tail)
          · rw [hq] at h5
            refine gO_ ?_
            refine po_loop (k + 1) ⟨by omega, fun _ => h4.2⟩ (by omega) ⟨rfl, rfl, rfl, rfl, rfl, rfl, rfl, rfl, rfl, trivial⟩ (fun _ h => by rw [← upTo3_skip t _ i j k h4' h5]; exact h.tail)
        · simp only [dc_eq, Bool.and_eq_false_iff, decide_eq_false_iff_not] at h4
          have hend : relOf t.evs.length (upTo3 t i j k) = relOf t.evs.length (upTo2 (fnP t) i (j + 1)) := by
            by_cases hp : poP t i j = true
            · have : k = t.bars.length := by
                rcases h4 with q | q
                · omega
                · rw [hp] at q; cases q
              rw [this]; exact upTo3_all t _ i j hp
            · have : k = 0 := by
                rcases Nat.eq_zero_or_pos k with q | q
                · exact q
                · exact absurd (hkp q) hp
              rw [this]; exact upTo3_none t _ i j (by simpa using hp)
          refine gO_ ?_
          refine po_loop (j + 1) (by omega) (by omega) ⟨rfl, rfl, rfl, rfl, rfl, rfl, trivial⟩ (fun _ h => by rw [← hend]; exact h.tail.tail)
      · have hjn : j = t.evs.length := by rw [dc_false] at h3; omega
        refine gO_ ?_
        refine po_loop (i + 1) (by omega) (by omega) ⟨rfl, rfl, rfl, rfl, rfl, trivial⟩ (fun _ h => by rw [hjn] at h; rw [← upTo2_all]; exact h)
    · have hin : i = t.evs.length := by rw [dc_false] at h2; omega
      refine gO_ ?_
      refine wl_fx (fx_store_box (i := 4) (hi := rfl) (next := ?_))
      refine gO_ ?_
      refine mk_ret Tryz.results43 (.cellN inferInstance rfl (.tail _ (.tail _ (.tail _ (.tail _ (.head _))))) rfl (.tmp rfl .nil)) (.head _) [_] [1] rfl (by decide) fun w' hw => ?_
      refine ⟨sv, hsv, ?_, ?_⟩
      · unfold trE; rw [h1]; rfl
      · rw [hR, hin, upTo_all]

set_option maxHeartbeats 6400000 in
theorem rppo_spec {lv iv ev bv av dv cv tv nv : Value} {t : Tr} (w : World) (h : TrIn All w lv iv ev bv av dv cv tv nv t) :
    Mk Tryz.prog 12 [.agg #[lv, iv, ev, bv, av, dv, cv, tv, nv]] w (RelΨ (trN t) (trR t (ppP t)) (trE t)) := by
  have hE := h.evs; have hEl := hE.le
  refine enter_mk Tryz.func12 Tryz.ntmps12 rfl rfl ?_
  refine gO_ ?_
  refine wl_fx (fx_box (next := ?_)); intro bt
  refine gO_ ?_
  refine wl_fx (fx_alloc (next := ?_)); intro br2
  refine gO_ ?_
  refine wl_fx (fx_call_mk (spec := fun w' hw => rtpo_spec (t := t) w' (h.now hw (.head _))) (next := ?_))
  rintro v n1 es w1 ⟨s1, hs1, rfl, rfl⟩
  refine gO_ ?_
  refine wl_fx (fx_alloc (next := ?_)); intro bpo
  refine gO_ ?_
  refine wl_fx (fx_store_box (i := 0) (hi := rfl) (next := ?_))
  refine gO_ ?_
  refine wc_cond rfl (fun h1 => ?_) (fun h1 => ?_)
  · rw [trE_dc, Bool.not_eq_true'] at h1
    refine gO_ ?_
    refine wl_fx (fx_store_box (i := 2) (hi := rfl) (next := ?_))
    refine gO_ ?_
    refine kp_nil 68 1 encW ?_
    refine mk_ret Tryz.results12 (.cellN inferInstance rfl (.tail _ (.tail _ (.tail _ (.head _)))) rfl (.tmp rfl .nil)) (.tail _ (.head _)) [_] [0] rfl (by decide) fun w' hw => ?_
    unfold trN trR; rw [h1]
    exact ⟨_, sv_nil, rfl, rfl⟩
  · rw [trE_dc, Bool.not_eq_false'] at h1
    obtain ⟨hb, hlb⟩ := trOk_lens h1
    have hN : trN t = (t.evs.length : Int) := by unfold trN; rw [if_pos h1]
    have hR : ∀ p, trR t p = relOf t.evs.length p := fun p => by unfold trR; rw [if_pos h1]
    rw [hN, hR (poP t)]
    have o1 := relOk_relOf t.evs.length (poP t) hb
    have o2 := relOk_relOf t.evs.length (fnP t) hb
    refine gO_ ?_
    refine wl_fx (fx_call_mk (spec := fun w' hw => rfenced_spec (t := t) w' (h.now hw (.tail _ (.head _)))) (next := ?_))
    rintro v n2 es w2 ⟨s2, hs2, rfl, rfl⟩
    rw [hN, hR (fnP t)]
    refine gO_ ?_
    refine wl_fx (fx_alloc (next := ?_)); intro bfn
    refine gO_ ?_
    refine wl_fx (fx_store_box (i := 0) (hi := rfl) (next := ?_))
    refine gO_ ?_
    refine wl_fx (fx_call_mk (spec := fun w' hw => none_own t.evs.length w' hb) (next := ?_))
    rintro v n3 es w3 ⟨sv, hsv, rfl, rfl⟩
    rw [upTo_zero _ (ppP t)]
    refine gO_ ?_
    refine wl_fx (fx_alloc (next := ?_)); intro br
    refine gO_ ?_
    refine wl_fx (fx_store_box (i := 0) (hi := rfl) (next := ?_))
    refine gO_ ?_
    refine wc_loop (fun i : Nat => i ≤ t.evs.length) (fun i => [(9, true, .int .i64 i), (8, true, .pointer (some ⟨br, 0, none⟩)), (6, true, .pointer (some ⟨bfn, 0, none⟩)), (4, true, .pointer (some ⟨bpo, 0, none⟩)), (2, true, .pointer (some ⟨br2, 0, none⟩)), (1, true, .pointer (some ⟨bt, 0, none⟩))])
      (fun i => Mem [(w, All)] [.box br [.int .i64 t.evs.length, sv] 33, ownW sv (relOf t.evs.length (upTo (ppP t) i)), .box bfn [.int .i64 t.evs.length, s2] 33, ownW s2 (relOf t.evs.length (fnP t)), .box bpo [.int .i64 t.evs.length, s1] 33, ownW s1 (relOf t.evs.length (poP t)), .box br2 [.int .i64 0, .slice none 0 0] 33, .box bt [lv, iv, ev, bv, av, dv, cv, tv, nv] 30]) (fun s => t.evs.length - s) 0 (Nat.zero_le _) ⟨rfl, rfl, rfl, rfl, rfl, rfl, trivial⟩ (fun _ h => h.last rfl) ?_
    intro i hi
    refine gO_ ?_
    refine wc_cond rfl (fun h2 => ?_) (fun h2 => ?_)
    · have h2' : i < t.evs.length := by rw [dc_true] at h2; omega
      refine gO_ ?_
      refine wc_loop (fun j : Nat => j ≤ t.evs.length) (fun j => [(10, true, .int .i64 j), (9, true, .int .i64 i), (8, true, .pointer (some ⟨br, 0, none⟩)), (6, true, .pointer (some ⟨bfn, 0, none⟩)), (4, true, .pointer (some ⟨bpo, 0, none⟩)), (2, true, .pointer (some ⟨br2, 0, none⟩)), (1, true, .pointer (some ⟨bt, 0, none⟩))])
        (fun j => Mem [(w, All)] [.box br [.int .i64 t.evs.length, sv] 33, ownW sv (relOf t.evs.length (upTo2 (ppP t) i j)), .box bfn [.int .i64 t.evs.length, s2] 33, ownW s2 (relOf t.evs.length (fnP t)), .box bpo [.int .i64 t.evs.length, s1] 33, ownW s1 (relOf t.evs.length (poP t)), .box br2 [.int .i64 0, .slice none 0 0] 33, .box bt [lv, iv, ev, bv, av, dv, cv, tv, nv] 30]) (fun s => t.evs.length - s) 0 (Nat.zero_le _) ⟨rfl, rfl, rfl, rfl, rfl, rfl, rfl, trivial⟩ (fun _ h => by rw [← upTo2_zero]; exact h) ?_
      intro j hj
      refine gO_ ?_
      refine wc_cond rfl (fun h3 => ?_) (fun h3 => ?_)
      · have h3' : j < t.evs.length := by rw [dc_true] at h3; omega
        have hhas : has t.evs.length (relOf t.evs.length (poP t)) i j = poP t i j := by rw [Go.Vw.has_bt o1 h2' h3', relOf_bt _ _ hb _ _ h2' h3']
        have hhas2 : has t.evs.length (relOf t.evs.length (fnP t)) i j = fnP t i j := by rw [Go.Vw.has_bt o2 h2' h3', relOf_bt _ _ hb _ _ h2' h3']
        refine gO_ ?_
        refine wl_fx (fx_call (spec := fun w' hw => rhas_spec t.evs.length s1 (relOf t.evs.length (poP t)) i j w' (hw.lend (.tail _ (.tail _ (.tail _ (.tail _ (.tail _ (.head _)))))))) (next := ?_))
        rintro v n4 w4 rfl hn4
        rw [hhas]
        refine gO_ ?_
        refine wl_gx (h := gx_call (spec := fun _ w' hw => rhas_spec t.evs.length s2 (relOf t.evs.length (fnP t)) i j w' (hw.lend (.tail _ (.tail _ (.tail _ (.head _))))))) (next := ?_)
        rw [hhas2]
        refine gO_ ?_
        have hq : (poP t i j && (!(dc ((evi t i).dir = 2) && dc ((evi t j).dir = 1)) || fnP t i j)) = ppP t i j := by simp only [dc_eq]; rfl
        refine wc_cond rfl (fun h4 => ?_) (fun h4 => ?_)
        · have h4 : ppP t i j = true := by rw [← hq]; exact h4
          refine gO_ ?_
          refine wl_fx (fx_call_mu 1 rfl (spec := fun w' hw => with_spec _ sv _ i j w' (by rw [relOf_length]; omega) (by omega) hsv (hw.only (.tail _ (.head _)))) (next := ?_))
          rintro v n5 e' w5 ⟨rfl, rfl⟩
          rw [upTo2_put _ _ hb i j h2' h3' h4]
          refine gO_ ?_
          refine wl_fx (fx_store_box (i := 0) (hi := rfl) (next := ?_))
          refine gO_ ?_
          exact po_loop (j + 1) (by omega) (by omega) ⟨rfl, rfl, rfl, rfl, rfl, rfl, rfl, trivial⟩ (fun _ h => h.last rfl)
        · have h4 : ppP t i j = false := by rw [← hq]; exact h4
          refine gO_ ?_
          exact po_loop (j + 1) (by omega) (by omega) ⟨rfl, rfl, rfl, rfl, rfl, rfl, rfl, trivial⟩ (fun _ h => by rw [← upTo2_skip _ _ i j h4]; exact h.last rfl)
      · have hjn : j = t.evs.length := by rw [dc_false] at h3; omega
        refine gO_ ?_
        refine po_loop (i + 1) (by omega) (by omega) ⟨rfl, rfl, rfl, rfl, rfl, rfl, trivial⟩ (fun _ h => by rw [hjn] at h; rw [← upTo2_all]; exact h)
    · have hin : i = t.evs.length := by rw [dc_false] at h2; omega
      refine gO_ ?_
      refine wl_fx (fx_store_box (i := 6) (hi := rfl) (next := ?_))
      refine gO_ ?_
      refine mk_ret Tryz.results12 (.cellN inferInstance rfl (.tail _ (.tail _ (.tail _ (.tail _ (.tail _ (.tail _ (.head _))))))) rfl (.tmp rfl .nil)) (.head _) [_] [1] rfl (by decide) fun w' hw => ?_
      refine ⟨sv, hsv, ?_, ?_⟩
      · unfold trE; rw [h1]; rfl
      · rw [hR, hin, upTo_all]
end Go.Proofs.YtnplmhfjoemgdaaGreatDoor
