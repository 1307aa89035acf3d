/- The law ViewFroms, walked (printed by gen_froms.py). -/
import Derived.Test.YtcjabnfgkfiajaaGreatDoorVwR
import Derived.Test.YtcjabnfgkfiajaaGreatDoorVwQ
set_option linter.unusedSimpArgs false
set_option linter.unusedVariables false
namespace Go.Proofs.YtcjabnfgkfiajaaGreatDoor
open Go Go.Eng Go.Tc Go.Rl Go.Vw
attribute [local irreducible] wpList Code.wp bodyPost Exit.then Exit.inBlock Calls
theorem rback_ok {m : Nat} {sa : Value} {a : List W} {w : World} (oa : relOk m a = true) (ha : Sl All w encW 1 sa a) : Mk Tryz.prog 17 [.agg #[.int .i64 m, sa]] w (RelΨ m (bck m a) 0) := by
  have := rback_all m sa a w ha
  unfold backS at this; rw [oa] at this; exact this
theorem rthen_ok {m : Nat} {sa sb : Value} {a b : List W} {w : World} (oa : relOk m a = true) (ob : relOk m b = true) (ha : Sl All w encW 1 sa a) (hb : Sl All w encW 1 sb b) : Mk Tryz.prog 18 [.agg #[.int .i64 m, sa], .agg #[.int .i64 m, sb]] w (RelΨ m (thn m a b) 0) := by
  have := rthen_all m sa a m sb b w ha hb
  unfold thenS at this; rw [erTwo_ok oa ob] at this; exact this

set_option maxRecDepth 8000 in
set_option maxHeartbeats 12800000 in
theorem viewFroms_spec {lv iv ev bv av dv cv tv nv : Value} {t : Tr} (fv ov : Value) (c : Cd) (w : World) (h : TrIn All w lv iv ev bv av dv cv tv nv t) (hc : CdIn All w fv ov c) (hT : Tab w) :
    Pur Tryz.prog 5 [.agg #[lv, iv, ev, bv, av, dv, cv, tv, nv], .agg #[fv, ov]] w fun _ v _ => v = .bool true := by
  have hfs := hc.rf.sv
  have hos := hc.cosv
  have hF := hc.rf
  have hFl := hF.le
  have hE := h.evs; have hEl := hE.le
  refine enter_pur Tryz.func5 Tryz.ntmps5 rfl rfl ?_
  refine gO_ ?_
  refine wl_fx (fx_box (next := ?_)); intro bT
  refine gO_ ?_
  refine wl_fx (fx_box (next := ?_)); intro bC
  refine gO_ ?_
  refine wl_fx (fx_call_mk (spec := fun w' hw => vof_spec fv ov c w' (h.now hw (.head _)) (hc.now hw (.head _)) (hT.now hw (.head _))) (next := ?_))
  rintro v n1 es w1 ⟨s1, s2, s3, s4, s5, s6, s7, s8, s9, ⟨hs1, hs2, hs3, hs4, hs5, hs6, hs7, hs8, hs9⟩, rfl, rfl⟩
  refine gO_ ?_
  refine wl_fx (fx_alloc (next := ?_)); intro b5
  refine gO_ ?_
  refine wl_fx (fx_store_box (i := 0) (hi := rfl) (next := ?_))
  refine gO_ ?_
  refine wc_cond rfl (fun h1 => ?_) (fun h1 => ?_)
  · refine gO_ ?_
    refine wl_fx (fx_call (spec := fun w' hw => refused_spec fv ov c (cdE t c) w' (h.now hw (.tail _ (.head _))) (hc.now hw (.tail _ (.head _))) (hT.now hw (.tail _ (.head _)))) (next := ?_))
    rintro v n2 w2 rfl hn2
    refine gO_ ?_
    refine pur_ret Tryz.results5 (.tmp rfl .nil) (.tail _ (.tail _ (.head _))) fun w' hw => ?_
    rw [decide_eq_true rfl]
    rfl
  · have hz : cdE t c = 0 := by
      by_cases q : cdE t c = 0
      · exact q
      · exfalso; simp [dc_eq, q] at h1
    have hV := vwOf_ok hz
    rw [hV]
    obtain ⟨ht, hcb⟩ := cdE_ok hz
    have hb := (trOk_lens ht).1
    have hrl := ((candB_iff t c).1 hcb).1
    refine gO_ ?_
    refine wl_fx (fx_call_mk (spec := fun w' hw => rback_ok (m := t.evs.length) (sa := s3) (relOk_relOf _ (rfP t c) hb) (hw.lend (.tail _ (.tail _ (.tail _ (.head _)))))) (next := ?_))
    rintro v n2 es w2 ⟨s10, hs10, rfl, rfl⟩
    refine gO_ ?_
    refine wl_fx (fx_alloc (next := ?_)); intro b7
    refine gO_ ?_
    refine wl_fx (fx_store_box (i := 0) (hi := rfl) (next := ?_))
    refine gO_ ?_
    refine wl_fx (fx_call_mk (spec := fun w' hw => rthen_ok (m := t.evs.length) (sa := s10) (sb := s5) (relOk_relOf _ _ hb) (relOk_relOf _ (coP t c) hb) (hw.lend (.tail _ (.head _))) (hw.lend (.tail _ (.tail _ (.tail _ (.tail _ (.tail _ (.tail _ (.tail _ (.head _)))))))))) (next := ?_))
    rintro v n3 es w3 ⟨s11, hs11, rfl, rfl⟩
    refine gO_ ?_
    refine wl_fx (fx_alloc (next := ?_)); intro b9
    refine gO_ ?_
    refine wl_fx (fx_store_box (i := 0) (hi := rfl) (next := ?_))
    refine gO_ ?_
    refine wc_loop (fun s : Nat => s ≤ t.evs.length) (fun s => [(11, true, .int .i64 s), (9, true, .pointer (some ⟨b9, 0, none⟩)), (5, true, .pointer (some ⟨b5, 0, none⟩)), (3, true, .pointer (some ⟨bC, 0, none⟩)), (2, true, .pointer (some ⟨bT, 0, none⟩))])
      (fun s => Mem [(w, All)] [.box b9 [.int .i64 t.evs.length, s11] 36, ownW s11 (thn t.evs.length (bck t.evs.length (relOf t.evs.length (rfP t c))) (relOf t.evs.length (coP t c))), .box b7 [.int .i64 t.evs.length, s10] 36, ownW s10 (bck t.evs.length (relOf t.evs.length (rfP t c))), .box b5 [.int .i64 t.evs.length, s1, .int .i64 t.evs.length, s2, .int .i64 t.evs.length, s3, .int .i64 t.evs.length, s4, .int .i64 t.evs.length, s5, .int .i64 t.evs.length, s6, .int .i64 t.evs.length, s7, .int .i64 t.evs.length, s8, .int .i64 t.evs.length, s9] 38, ownW s1 (relOf t.evs.length (poP t)), ownW s2 (relOf t.evs.length (plP t)), ownW s3 (relOf t.evs.length (rfP t c)), ownW s4 (relOf t.evs.length (exP t (rfP t c))), ownW s5 (relOf t.evs.length (coP t c)), ownW s6 (relOf t.evs.length (exP t (coP t c))), ownW s7 (relOf t.evs.length (frP t c)), ownW s8 (relOf t.evs.length (exP t (frP t c))), ownW s9 (relOf t.evs.length (cmP t c)), .box bC [fv, ov] 33, .box bT [lv, iv, ev, bv, av, dv, cv, tv, nv] 30]) (fun s => t.evs.length - s) 0 (Nat.zero_le _) ⟨rfl, rfl, rfl, rfl, rfl, trivial⟩ (fun _ h => h.last rfl) ?_
    intro i hi
    refine gO_ ?_
    refine wc_cond rfl (fun h2 => ?_) (fun h2 => ?_)
    · have h2' : i < t.evs.length := by rw [dc_true] at h2; omega
      have hri : i < c.rf.length := by omega
      refine gO_ ?_
      refine wc_loop (fun s : Nat => s ≤ t.evs.length) (fun s => [(12, true, .int .i64 s), (11, true, .int .i64 i), (9, true, .pointer (some ⟨b9, 0, none⟩)), (5, true, .pointer (some ⟨b5, 0, none⟩)), (3, true, .pointer (some ⟨bC, 0, none⟩)), (2, true, .pointer (some ⟨bT, 0, none⟩))])
        (fun s => Mem [(w, All)] [.box b9 [.int .i64 t.evs.length, s11] 36, ownW s11 (thn t.evs.length (bck t.evs.length (relOf t.evs.length (rfP t c))) (relOf t.evs.length (coP t c))), .box b7 [.int .i64 t.evs.length, s10] 36, ownW s10 (bck t.evs.length (relOf t.evs.length (rfP t c))), .box b5 [.int .i64 t.evs.length, s1, .int .i64 t.evs.length, s2, .int .i64 t.evs.length, s3, .int .i64 t.evs.length, s4, .int .i64 t.evs.length, s5, .int .i64 t.evs.length, s6, .int .i64 t.evs.length, s7, .int .i64 t.evs.length, s8, .int .i64 t.evs.length, s9] 38, ownW s1 (relOf t.evs.length (poP t)), ownW s2 (relOf t.evs.length (plP t)), ownW s3 (relOf t.evs.length (rfP t c)), ownW s4 (relOf t.evs.length (exP t (rfP t c))), ownW s5 (relOf t.evs.length (coP t c)), ownW s6 (relOf t.evs.length (exP t (coP t c))), ownW s7 (relOf t.evs.length (frP t c)), ownW s8 (relOf t.evs.length (exP t (frP t c))), ownW s9 (relOf t.evs.length (cmP t c)), .box bC [fv, ov] 33, .box bT [lv, iv, ev, bv, av, dv, cv, tv, nv] 30]) (fun s => t.evs.length - s) 0 (Nat.zero_le _) ⟨rfl, rfl, rfl, rfl, rfl, rfl, trivial⟩ (fun _ h => h.last rfl) ?_
      intro j hj
      refine gO_ ?_
      refine wc_cond rfl (fun h3 => ?_) (fun h3 => ?_)
      · have h3' : j < t.evs.length := by rw [dc_true] at h3; omega
        have hH : ∀ p, has (t.evs.length : Int) (relOf t.evs.length p) i j = p i j := fun p => by rw [Go.Vw.has_bt (relOk_relOf _ p hb) h2' h3', relOf_bt _ p hb i j h2' h3']
        have hH2 : ∀ p, has (t.evs.length : Int) (relOf t.evs.length p) j i = p j i := fun p => by rw [Go.Vw.has_bt (relOk_relOf _ p hb) h3' h2', relOf_bt _ p hb j i h3' h2']
        have hHt : has (t.evs.length : Int) (thn t.evs.length (bck t.evs.length (relOf t.evs.length (rfP t c))) (relOf t.evs.length (coP t c))) i j = thenP t.evs.length (bck t.evs.length (relOf t.evs.length (rfP t c))) (relOf t.evs.length (coP t c)) i j := hH _
        have hft := fr_turned hz h2' h3'
        have hct := co_total hz h2' h3'
        refine gO_ ?_
        refine wc_cutA (fun s : Nat × Nat => True) (fun s => [(14, true, .pointer (some ⟨s.2, 0, none⟩)), (13, true, .pointer (some ⟨s.1, 0, none⟩)), (12, true, .int .i64 j), (11, true, .int .i64 i), (9, true, .pointer (some ⟨b9, 0, none⟩)), (5, true, .pointer (some ⟨b5, 0, none⟩)), (3, true, .pointer (some ⟨bC, 0, none⟩)), (2, true, .pointer (some ⟨bT, 0, none⟩))])
          (fun s => Mem [(w, All)] [.box s.2 (encEv (evi t j)) 56, .box s.1 (encEv (evi t i)) 56, .box b9 [.int .i64 t.evs.length, s11] 36, ownW s11 (thn t.evs.length (bck t.evs.length (relOf t.evs.length (rfP t c))) (relOf t.evs.length (coP t c))), .box b7 [.int .i64 t.evs.length, s10] 36, ownW s10 (bck t.evs.length (relOf t.evs.length (rfP t c))), .box b5 [.int .i64 t.evs.length, s1, .int .i64 t.evs.length, s2, .int .i64 t.evs.length, s3, .int .i64 t.evs.length, s4, .int .i64 t.evs.length, s5, .int .i64 t.evs.length, s6, .int .i64 t.evs.length, s7, .int .i64 t.evs.length, s8, .int .i64 t.evs.length, s9] 38, ownW s1 (relOf t.evs.length (poP t)), ownW s2 (relOf t.evs.length (plP t)), ownW s3 (relOf t.evs.length (rfP t c)), ownW s4 (relOf t.evs.length (exP t (rfP t c))), ownW s5 (relOf t.evs.length (coP t c)), ownW s6 (relOf t.evs.length (exP t (coP t c))), ownW s7 (relOf t.evs.length (frP t c)), ownW s8 (relOf t.evs.length (exP t (frP t c))), ownW s9 (relOf t.evs.length (cmP t c)), .box bC [fv, ov] 33, .box bT [lv, iv, ev, bv, av, dv, cv, tv, nv] 30]) ?_ ?_
        · refine wc_drawS (Mem [(w, All)] [.box bT [lv, iv, ev, bv, av, dv, cv, tv, nv] 30]) [0, 1, 2, 3, 4, 5, 6, 7, 8, 9, 999] mixed (fun _ h => h.sel [15] rfl (by decide)) ?_
          refine kG_ ?_
          refine kg_br2 10 11 (h1 := ?_) (h2 := ?_)
          · refine ks_f [999] _ (hSS := fun _ h => h) (h := fx_alloc (next := ?_))
            intro bx
            refine kp_S ?_ (fun _ h => h.sel [16] rfl (by decide))
            refine kg_br1 11 (h1 := ?_)
            refine ks_f [12, 13] _ (hSS := fun _ h => h) (h := fx_alloc (next := ?_))
            intro by'
            refine kp_S ?_ (fun _ h => h.sel [17] rfl (by decide))
            refine kg_f _ (h := fx_store_box (i := 1) (hi := rfl) (next := ?_)) (hSS := fun _ h => h)
            refine kp_S ?_ (fun _ h => h.sel [17] rfl (by decide))
            refine kg_z (h := fx_store_box (i := 0) (hi := rfl) (next := ?_))
            exact po_cut (bx, by') trivial ⟨rfl, rfl, rfl, rfl, rfl, rfl, rfl, rfl, trivial⟩ (fun _ h => h.sel [0, 1, 2, 3, 4, 5, 6, 7, 8, 9, 10, 11, 12, 13, 14, 15, 16, 17] rfl (by decide))
          · refine ks_f [999] _ (hSS := fun _ h => h) (h := fx_alloc (next := ?_))
            intro by'
            refine kp_S ?_ (fun _ h => h.sel [16] rfl (by decide))
            refine kg_br1 10 (h1 := ?_)
            refine ks_f [12, 13] _ (hSS := fun _ h => h) (h := fx_alloc (next := ?_))
            intro bx
            refine kp_S ?_ (fun _ h => h.sel [17] rfl (by decide))
            refine kg_f _ (h := fx_store_box (i := 0) (hi := rfl) (next := ?_)) (hSS := fun _ h => h)
            refine kp_S ?_ (fun _ h => h.sel [17] rfl (by decide))
            refine kg_z (h := fx_store_box (i := 1) (hi := rfl) (next := ?_))
            exact po_cut (bx, by') trivial ⟨rfl, rfl, rfl, rfl, rfl, rfl, rfl, rfl, trivial⟩ (fun _ h => h.sel [1, 0, 2, 3, 4, 5, 6, 7, 8, 9, 10, 11, 12, 13, 14, 15, 16, 17] rfl (by decide))
        rintro ⟨bx, by'⟩ -
        dsimp only
        refine gO_ ?_
        refine wc_draw [0, 1, 2, 3, 5, 6, 7, 4, 8, 9, 10, 11, 12] mixed ?_
        refine kG_ ?_
        refine kg_f _ (h := fx_call (spec := fun w' hw => rhas_spec t.evs.length s7 _ _ _ w' (hw.lend (.tail _ (.tail _ (.tail _ (.tail _ (.tail _ (.tail _ (.tail _ (.tail _ (.tail _ (.tail _ (.tail _ (.tail _ (.tail _ (.head _)))))))))))))))) (next := ?_)) (hSS := fun _ h => h)
        rintro v n5 w5 rfl hn5
        refine kp_S ?_ (fun _ h => h.last rfl)
        refine kG_ ?_
        refine kg_f _ (h := fx_call (spec := fun w' hw => rhas_spec t.evs.length s11 _ _ _ w' (hw.lend (.tail _ (.tail _ (.tail _ (.head _)))))) (next := ?_)) (hSS := fun _ h => h)
        rintro v n6 w6 rfl hn6
        refine kp_S ?_ (fun _ h => h.last rfl)
        refine kG_ ?_
        refine gO_ ?_
        refine wc_cond rfl (fun h4 => ?_) (fun h4 => ?_)
        · exfalso
          simp only [hH, hHt, dc_eq] at h4
          rw [hft] at h4
          unfold firstB at h4
          simp at h4
        · refine gO_ ?_
          refine wl_fx (fx_call (spec := fun w' hw => rhas_spec t.evs.length s5 _ _ _ w' (hw.lend (.tail _ (.tail _ (.tail _ (.tail _ (.tail _ (.tail _ (.tail _ (.tail _ (.tail _ (.tail _ (.tail _ (.head _)))))))))))))) (next := ?_))
          rintro v n7 w7 rfl hn7
          refine gO_ ?_
          refine wl_gx (h := gx_call (spec := fun _ w' hw => rhas_spec t.evs.length s5 _ _ _ w' (hw.lend (.tail _ (.tail _ (.tail _ (.tail _ (.tail _ (.tail _ (.tail _ (.tail _ (.tail _ (.tail _ (.tail _ (.head _))))))))))))))) (next := ?_)
          refine gO_ ?_
          refine wl_gx (h := gx_call (spec := fun _ w' hw => rhas_spec t.evs.length s5 _ _ _ w' (hw.lend (.tail _ (.tail _ (.tail _ (.tail _ (.tail _ (.tail _ (.tail _ (.tail _ (.tail _ (.tail _ (.tail _ (.head _))))))))))))))) (next := ?_)
          refine gO_ ?_
          refine wl_gx (h := gx_call (spec := fun _ w' hw => rhas_spec t.evs.length s5 _ _ _ w' (hw.lend (.tail _ (.tail _ (.tail _ (.tail _ (.tail _ (.tail _ (.tail _ (.tail _ (.tail _ (.tail _ (.tail _ (.head _))))))))))))))) (next := ?_)
          refine gO_ ?_
          refine wc_cond rfl (fun h5 => ?_) (fun h5 => ?_)
          · exfalso
            have eij : decide ((i : Int) = (j : Int)) = decide (i = j) := decide_eq_decide.2 Int.ofNat_inj
            simp only [hH, hH2, dc_eq, eij] at h5
            unfold bothB at hct
            rw [hct.1, hct.2] at h5
            simp at h5
          · refine gO_ ?_
            refine wl_fx (fx_call (spec := fun w' hw => rhas_spec t.evs.length s3 _ _ _ w' (hw.lend (.tail _ (.tail _ (.tail _ (.tail _ (.tail _ (.tail _ (.tail _ (.tail _ (.tail _ (.head _)))))))))))) (next := ?_))
            rintro v n8 w8 rfl hn8
            refine gO_ ?_
            refine wl_gx (h := gx_call (spec := fun _ w' hw => rhas_spec t.evs.length s5 _ _ _ w' (hw.lend (.tail _ (.tail _ (.tail _ (.tail _ (.tail _ (.tail _ (.tail _ (.tail _ (.tail _ (.tail _ (.tail _ (.head _))))))))))))))) (next := ?_)
            refine gO_ ?_
            refine wl_gx (h := gx_call (spec := fun _ w' hw => rhas_spec t.evs.length s7 _ _ _ w' (hw.lend (.tail _ (.tail _ (.tail _ (.tail _ (.tail _ (.tail _ (.tail _ (.tail _ (.tail _ (.tail _ (.tail _ (.tail _ (.tail _ (.head _))))))))))))))))) (next := ?_)
            refine gO_ ?_
            refine wl_fx (fx_call (spec := fun w' hw => rhas_spec t.evs.length s9 _ _ _ w' (hw.lend (.tail _ (.tail _ (.tail _ (.tail _ (.tail _ (.tail _ (.tail _ (.tail _ (.tail _ (.tail _ (.tail _ (.tail _ (.tail _ (.tail _ (.tail _ (.head _)))))))))))))))))) (next := ?_))
            rintro v n9 w9 rfl hn9
            refine gO_ ?_
            refine wl_gx (h := gx_call (spec := fun _ w' hw => rhas_spec t.evs.length s4 _ _ _ w' (hw.lend (.tail _ (.tail _ (.tail _ (.tail _ (.tail _ (.tail _ (.tail _ (.tail _ (.tail _ (.tail _ (.head _)))))))))))))) (next := ?_)
            refine gO_ ?_
            refine wl_gx (h := gx_call (spec := fun _ w' hw => rhas_spec t.evs.length s3 _ _ _ w' (hw.lend (.tail _ (.tail _ (.tail _ (.tail _ (.tail _ (.tail _ (.tail _ (.tail _ (.tail _ (.head _))))))))))))) (next := ?_)
            refine gO_ ?_
            refine wl_gx (h := gx_call (spec := fun _ w' hw => rhas_spec t.evs.length s6 _ _ _ w' (hw.lend (.tail _ (.tail _ (.tail _ (.tail _ (.tail _ (.tail _ (.tail _ (.tail _ (.tail _ (.tail _ (.tail _ (.tail _ (.head _)))))))))))))))) (next := ?_)
            refine gO_ ?_
            refine wl_gx (h := gx_call (spec := fun _ w' hw => rhas_spec t.evs.length s5 _ _ _ w' (hw.lend (.tail _ (.tail _ (.tail _ (.tail _ (.tail _ (.tail _ (.tail _ (.tail _ (.tail _ (.tail _ (.tail _ (.head _))))))))))))))) (next := ?_)
            refine gO_ ?_
            refine wl_gx (h := gx_call (spec := fun _ w' hw => rhas_spec t.evs.length s8 _ _ _ w' (hw.lend (.tail _ (.tail _ (.tail _ (.tail _ (.tail _ (.tail _ (.tail _ (.tail _ (.tail _ (.tail _ (.tail _ (.tail _ (.tail _ (.tail _ (.head _)))))))))))))))))) (next := ?_)
            refine gO_ ?_
            refine wl_gx (h := gx_call (spec := fun _ w' hw => rhas_spec t.evs.length s7 _ _ _ w' (hw.lend (.tail _ (.tail _ (.tail _ (.tail _ (.tail _ (.tail _ (.tail _ (.tail _ (.tail _ (.tail _ (.tail _ (.tail _ (.tail _ (.head _))))))))))))))))) (next := ?_)
            refine gO_ ?_
            refine wc_cond rfl (fun h6 => ?_) (fun h6 => ?_)
            · exfalso
              have ex : ∀ p : Nat → Nat → Bool, exP t p i j = (!decide ((evi t i).thread = (evi t j).thread) && p i j) := fun p => by unfold exP Vw.thB; rw [Bool.and_comm]
              simp only [hH, dc_eq, ex, cmP] at h6
              simp at h6
            · refine gO_ ?_
              exact po_loop (j + 1) (by omega) (by omega) ⟨rfl, rfl, rfl, rfl, rfl, rfl, trivial⟩ (fun _ h => (h.last rfl).tail.tail)
      · refine gO_ ?_
        exact po_loop (i + 1) (by omega) (by omega) ⟨rfl, rfl, rfl, rfl, rfl, trivial⟩ (fun _ h => h)
    · refine gO_ ?_
      refine wl_fx (fx_call (spec := fun w' hw => vawake_spec w' (hT.now hw (.head _))) (next := ?_))
      rintro v n30 w30 rfl hn30
      refine gO_ ?_
      refine pur_ret Tryz.results5 (.tmp rfl .nil) (.tail _ (.head _)) fun w' hw => ?_
      rfl
end Go.Proofs.YtcjabnfgkfiajaaGreatDoor
