/- The law ViewRound, walked. -/
import Derived.Test.YtcjabnfgkfiajaaGreatDoorVwP
set_option linter.unusedSimpArgs false
set_option linter.unusedVariables false
namespace Go.Proofs.YtcjabnfgkfiajaaGreatDoor
open Go Go.Eng Go.Tc Go.Rl Go.Vw
attribute [local irreducible] wpList Code.wp bodyPost Exit.then Exit.inBlock Calls

set_option maxHeartbeats 800000 in
theorem refused_spec {lv iv ev bv av dv cv tv nv : Value} {t : Tr} (fv ov : Value) (c : Cd) (e : Int) (w : World) (h : TrIn All w lv iv ev bv av dv cv tv nv t) (hc : CdIn All w fv ov c) (hT : Tab w) :
    Pur Tryz.prog 16 [.agg #[lv, iv, ev, bv, av, dv, cv, tv, nv], .agg #[fv, ov], .int .i64 e] w fun _ v _ => v = .bool (decide (e = cdE t c)) := by
  have hfs := hc.rf.sv
  have hos := hc.cosv
  refine enter_pur Tryz.func16 Tryz.ntmps16 rfl rfl ?_
  refine gO_ ?_
  refine wl_fx (fx_box (next := ?_)); intro bT
  refine gO_ ?_
  refine wl_fx (fx_box (next := ?_)); intro bC
  refine gO_ ?_
  refine wl_fx (fx_call (spec := fun w' hw => rCheck_spec fv ov c w' (h.now hw (.head _)) (hc.now hw (.head _))) (next := ?_))
  rintro v n1 w1 rfl hn1
  refine gO_ ?_
  refine wl_gx (h := gx_call (spec := fun _ w' hw => vawake_spec w' (hT.now hw (.tail _ (.head _))))) (next := ?_)
  refine gO_ ?_
  refine pur_ret Tryz.results16 (.tmp rfl .nil) (.tail _ (.head _)) fun w' hw => ?_
  simp only [dc_eq, Bool.and_true]
  rfl

set_option maxHeartbeats 6400000 in
theorem viewRound_spec {lv iv ev bv av dv cv tv nv : Value} {t : Tr} (fv ov : Value) (c : Cd) (w : World) (h : TrIn All w lv iv ev bv av dv cv tv nv t) (hc : CdIn All w fv ov c) (hT : Tab w) :
    Pur Tryz.prog 6 [.agg #[lv, iv, ev, bv, av, dv, cv, tv, nv], .agg #[fv, ov]] w fun _ v _ => v = .bool true := by
  have hfs := hc.rf.sv
  have hos := hc.cosv
  refine enter_pur Tryz.func6 Tryz.ntmps6 rfl rfl ?_
  refine gO_ ?_
  refine wl_fx (fx_box (next := ?_)); intro bT
  refine gO_ ?_
  refine wl_fx (fx_box (next := ?_)); intro bC
  refine gO_ ?_
  refine wl_fx (fx_call_mk (spec := fun w' hw => vwhy_spec fv ov c w' (h.now hw (.head _)) (hc.now hw (.head _)) (hT.now hw (.head _))) (next := ?_))
  rintro v n1 es w1 ⟨av1, hav1, rfl, rfl⟩
  refine gO_ ?_
  refine wl_fx (fx_call_mk (spec := fun w' hw => vof_spec fv ov c w' (h.now hw (.tail _ (.head _))) (hc.now hw (.tail _ (.head _))) (hT.now hw (.tail _ (.head _)))) (next := ?_))
  rintro v n2 es w2 ⟨s1, s2, s3, s4, s5, s6, s7, s8, s9, ⟨hs1, hs2, hs3, hs4, hs5, hs6, hs7, hs8, hs9⟩, rfl, rfl⟩
  refine gO_ ?_
  refine wl_fx (fx_alloc (next := ?_)); intro b7
  refine gO_ ?_
  refine wl_fx (fx_store_box (i := 0) (hi := rfl) (next := ?_))
  refine gO_ ?_
  refine wl_fx (fx_call (spec := fun w' hw => vcoh_spec fv ov c w' (h.now hw (.tail _ (.tail _ (.head _)))) (hc.now hw (.tail _ (.tail _ (.head _)))) (hT.now hw (.tail _ (.tail _ (.head _))))) (next := ?_))
  rintro v n3 w3 rfl hn3
  refine gO_ ?_
  refine wc_cond rfl (fun h1 => ?_) (fun h1 => ?_)
  · have h1' : ¬ cdE t c = 0 := by
      intro q
      simp [dc_eq, q] at h1
    have hE : whyE t c = cdE t c := by unfold whyE; rw [if_neg h1']
    have hL : whyL t c = [] := by unfold whyL; rw [if_neg fun q => h1' q.1]
    rw [hE, hL]
    refine gO_ ?_
    refine wl_fx (fx_call (spec := fun w' hw => refused_spec fv ov c (cdE t c) w' (h.now hw (.tail _ (.tail _ (.tail _ (.head _))))) (hc.now hw (.tail _ (.tail _ (.tail _ (.head _))))) (hT.now hw (.tail _ (.tail _ (.tail _ (.head _)))))) (next := ?_))
    rintro v n4 w4 rfl hn4
    refine gO_ ?_
    refine pur_ret Tryz.results6 (.tmp rfl .nil) (.tail _ (.tail _ (.tail _ (.tail _ (.head _))))) fun w' hw => ?_
    simp [dc_eq]
    rfl
  · have hz : cdE t c = 0 := by
      by_cases q : cdE t c = 0
      · exact q
      · exfalso; simp [dc_eq, q] at h1
    have hV := vwOf_ok hz
    rw [hV]
    refine gO_ ?_
    refine wc_cond rfl (fun h2 => ?_) (fun h2 => ?_)
    · obtain ⟨hE, hL⟩ := why_held hz h2
      rw [hE, hL]
      refine gO_ ?_
      refine wl_gx (h := gx_call (spec := fun _ w' hw => vawake_spec w' (hT.now hw (.tail _ (.tail _ (.tail _ (.head _))))))) (next := ?_)
      refine gO_ ?_
      refine pur_ret Tryz.results6 (.tmp rfl .nil) (.tail _ (.tail _ (.tail _ (.head _)))) fun w' hw => ?_
      simp [dc_eq]
      rfl
    · obtain ⟨hE, hl0, hl65, hall⟩ := why_round hz h2
      rw [hE]
      generalize hxs : whyL t c = xs at *
      refine gO_ ?_
      refine wc_cond rfl (fun h3 => ?_) (fun h3 => ?_)
      · exfalso
        simp [dc_eq, dc_true, dc_false] at h3
        omega
      · refine gO_ ?_
        refine wc_loop (fun s : Nat => s ≤ xs.length) (fun s => [(11, true, .int .i64 s), (7, true, .pointer (some ⟨b7, 0, none⟩)), (5, true, av1)])
          (fun s => Mem [(w, All)] [.box b7 [.int .i64 t.evs.length, s1, .int .i64 t.evs.length, s2, .int .i64 t.evs.length, s3, .int .i64 t.evs.length, s4, .int .i64 t.evs.length, s5, .int .i64 t.evs.length, s6, .int .i64 t.evs.length, s7, .int .i64 t.evs.length, s8, .int .i64 t.evs.length, s9] 38, ownW s1 (relOf t.evs.length (poP t)), ownW s2 (relOf t.evs.length (plP t)), ownW s3 (relOf t.evs.length (rfP t c)), ownW s4 (relOf t.evs.length (exP t (rfP t c))), ownW s5 (relOf t.evs.length (coP t c)), ownW s6 (relOf t.evs.length (exP t (coP t c))), ownW s7 (relOf t.evs.length (frP t c)), ownW s8 (relOf t.evs.length (exP t (frP t c))), ownW s9 (relOf t.evs.length (cmP t c)), .own av1 59 3 encArc xs, .box bC [fv, ov] 33, .box bT [lv, iv, ev, bv, av, dv, cv, tv, nv] 30]) (fun s => xs.length - s) 0 (Nat.zero_le _) ⟨rfl, rfl, rfl, trivial⟩ (fun _ h => h.last rfl) ?_
        intro i hi
        refine gO_ ?_
        refine wc_cond rfl (fun h4 => ?_) (fun h4 => ?_)
        · rw [dc_true] at h4
          have h4' : i < xs.length := by omega
          obtain ⟨hnext, hth⟩ := hall i h4'
          have hm1 : (i + 1) % xs.length < xs.length := Nat.mod_lt _ hl0
          refine gO_ ?_
          refine wl_fx (fx_alloc (next := ?_)); intro bx
          refine gO_ ?_
          refine wl_fx (fx_store_box (i := 0) (hi := rfl) (next := ?_))
          refine gO_ ?_
          refine wc_draw [0, 1, 2, 3, 4, 5, 6, 7, 8, 9, 10, 11] mixed ?_
          refine kG_ ?_
          refine gO_ ?_
          refine wc_cond rfl (fun h5 => ?_) (fun h5 => ?_)
          · exfalso
            rw [hnext] at h5
            simp [dc_eq] at h5
          · refine gO_ ?_
            refine wl_gx (h := gx_call (spec := fun _ w' hw => rhas_spec _ s2 _ _ _ w' (hw.lend (.tail _ (.tail _ (.tail _ (.head _))))))) (next := ?_)
            refine gO_ ?_
            refine wl_gx (h := gx_call (spec := fun _ w' hw => rhas_spec _ s3 _ _ _ w' (hw.lend (.tail _ (.tail _ (.tail _ (.tail _ (.head _)))))))) (next := ?_)
            refine gO_ ?_
            refine wl_gx (h := gx_call (spec := fun _ w' hw => rhas_spec _ s5 _ _ _ w' (hw.lend (.tail _ (.tail _ (.tail _ (.tail _ (.tail _ (.tail _ (.head _)))))))))) (next := ?_)
            refine gO_ ?_
            refine wl_gx (h := gx_call (spec := fun _ w' hw => rhas_spec _ s7 _ _ _ w' (hw.lend (.tail _ (.tail _ (.tail _ (.tail _ (.tail _ (.tail _ (.tail _ (.tail _ (.head _)))))))))))) (next := ?_)
            refine gO_ ?_
            refine wc_cond rfl (fun h6 => ?_) (fun h6 => ?_)
            · exfalso
              unfold thereB at hth
              simp only [dc_eq] at h6
              rw [hth] at h6
              cases h6
            · refine gO_ ?_
              exact po_loop (i + 1) (by omega) (by omega) ⟨rfl, rfl, rfl, trivial⟩ (fun _ h => h.tail)
        · refine gO_ ?_
          refine wl_fx (fx_call (spec := fun w' hw => vawake_spec w' (hT.now hw (.head _))) (next := ?_))
          rintro v n10 w10 rfl hn10
          refine gO_ ?_
          refine pur_ret Tryz.results6 (.tmp rfl .nil) (.tail _ (.head _)) fun w' hw => ?_
          rfl
end Go.Proofs.YtcjabnfgkfiajaaGreatDoor
