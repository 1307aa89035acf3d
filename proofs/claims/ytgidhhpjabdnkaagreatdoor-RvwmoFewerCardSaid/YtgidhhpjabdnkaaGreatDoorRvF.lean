/- The walks: rvwmo.Why, Rule, Ppo (printed by gen_rv5.py). -/
import Derived.Test.YtgidhhpjabdnkaaGreatDoorRvE
import Derived.Test.YtgidhhpjabdnkaaGreatDoorScD
set_option linter.unusedSimpArgs false
set_option linter.unusedVariables false
namespace Go.Proofs.YtgidhhpjabdnkaaGreatDoor
open Go Go.Eng Go.Tc Go.Rl Go.Vw
attribute [local irreducible] wpList Code.wp bodyPost Exit.then Exit.inBlock Calls
def rvR (t : Tr) (c : Cd) : Rs := [((t.evs.length : Int), relOf t.evs.length (poP t)), ((t.evs.length : Int), relOf t.evs.length (plP t)), ((t.evs.length : Int), relOf t.evs.length (rfP t c)), ((t.evs.length : Int), relOf t.evs.length (exP t (rfP t c))), ((t.evs.length : Int), relOf t.evs.length (coP t c)), ((t.evs.length : Int), relOf t.evs.length (exP t (coP t c))), ((t.evs.length : Int), relOf t.evs.length (frP t c)), ((t.evs.length : Int), relOf t.evs.length (exP t (frP t c))), ((t.evs.length : Int), relOf t.evs.length (cmP t c)), ((t.evs.length : Int), relOf t.evs.length (fnP t)), ((t.evs.length : Int), relOf t.evs.length (rvP t c))]
def rvwhyE (t : Tr) (c : Cd) : Int := if cdE t c = 0 then if cohB t c = true then if acyP t (rhP t c) = true then 4 else arcsE (rvR t c) (roundS t.evs.length (relOf t.evs.length (rhP t c))) else 0 else cdE t c
def rvwhyL (t : Tr) (c : Cd) : List Arc := if cdE t c = 0 then if cohB t c = true then if acyP t (rhP t c) = true then [] else arcsL (rvR t c) (roundS t.evs.length (relOf t.evs.length (rhP t c))) else whyL t c else []

set_option maxRecDepth 8000 in
set_option maxHeartbeats 12800000 in
theorem rvwhy_spec {lv iv ev bv av dv cv tv nv : Value} {t : Tr} (fv ov : Value) (c : Cd) (w : World) (h : TrIn All w lv iv ev bv av dv cv tv nv t) (hc : CdIn All w fv ov c) (hT : Tab w) :
    Mk Tryz.prog 26 [.agg #[lv, iv, ev, bv, av, dv, cv, tv, nv], .agg #[fv, ov]] w (ArcsΨ (rvwhyE t c) (rvwhyL t c)) := by
  have hfs := hc.rf.sv
  have hos := hc.cosv
  have g1 := h.locs.sv; have g2 := h.init.sv; have g3 := h.evs.sv; have g4 := h.bars.sv; have g5 := h.addr.sv; have g6 := h.data.sv; have g7 := h.ctrl.sv; have g8 := h.things.sv; have g9 := h.ends.sv
  refine enter_mk Tryz.func26 Tryz.ntmps26 rfl rfl ?_
  refine gO_ ?_
  refine wl_fx (fx_box (next := ?_)); intro bT
  refine gO_ ?_
  refine wl_fx (fx_box (next := ?_)); intro bC
  refine gO_ ?_
  by_cases hz : cdE t c = 0
  · have hb := (trOk_lens (cdE_ok hz).1).1
    refine wl_fx (fx_call_mk (spec := fun w' hw => rvof_ok fv ov c w' (h.now hw (.head _)) (hc.now hw (.head _)) (hT.now hw (.head _)) hz) (next := ?_))
    rintro v n1 es w1 ⟨ba, s1, s2, s3, s4, s5, s6, s7, s8, s9, sf, sa, sd, sc, ⟨hs1, hs2, hs3, hs4, hs5, hs6, hs7, hs8, hs9, hsf, hsa, hsd, hsc⟩, rfl, rfl⟩
    refine gO_ ?_
    refine wc_cond rfl (fun h1 => ?_) (fun h1 => ?_)
    · simp [dc_eq] at h1
    clear h1
    refine gO_ ?_
    refine wl_fx (fx_call_mk (spec := fun w' hw => vwhy_spec fv ov c w' (h.now hw (.tail _ (.head _))) (hc.now hw (.tail _ (.head _))) (hT.now hw (.tail _ (.head _)))) (next := ?_))
    rintro v n2 es w2 ⟨a1, ha1, rfl, rfl⟩
    by_cases hco : cohB t c = true
    · rw [(why_held hz hco).1]
      refine gO_ ?_
      refine wc_cond rfl (fun h2 => ?_) (fun h2 => ?_)
      · simp [dc_eq] at h2
      clear h2
      refine gO_ ?_
      refine wl_fx (fx_call_mk (spec := fun w' hw => rvhapp_spec w' (AkIn.made fv ov c w h hc hw (.tail _ (.tail _ (.head _))) hz (.tail _ (.head _)) (.tail _ (.tail _ (.tail _ (.tail _ (.tail _ (.head _)))))) (.tail _ (.tail _ (.tail _ (.tail _ (.tail _ (.tail _ (.head _))))))) (.tail _ (.tail _ (.tail _ (.tail _ (.tail _ (.tail _ (.tail _ (.tail _ (.head _))))))))) (.tail _ (.tail _ (.tail _ (.tail _ (.tail _ (.tail _ (.tail _ (.tail _ (.tail _ (.tail _ (.tail _ (.head _)))))))))))) (.tail _ (.tail _ (.tail _ (.tail _ (.tail _ (.tail _ (.tail _ (.tail _ (.tail _ (.tail _ (.tail _ (.tail _ (.head _))))))))))))) (.tail _ (.tail _ (.tail _ (.tail _ (.tail _ (.tail _ (.tail _ (.tail _ (.tail _ (.tail _ (.tail _ (.tail _ (.tail _ (.head _)))))))))))))) (.tail _ (.tail _ (.tail _ (.tail _ (.tail _ (.tail _ (.tail _ (.tail _ (.tail _ (.tail _ (.tail _ (.tail _ (.tail _ (.tail _ (.head _))))))))))))))))) (next := ?_))
      rintro v n3 es w3 ⟨sh, hsh, rfl, rfl⟩
      refine gO_ ?_
      refine wl_fx (fx_call_mk (spec := fun w' hw => round_all t.evs.length sh (relOf t.evs.length (rhP t c)) w' (hw.lend (.head _))) (next := ?_))
      rintro v n4 es w4 ⟨pv, hpv, rfl, rfl⟩
      have hln := roundS_len t.evs.length (relOf t.evs.length (rhP t c)) (relOk_relOf _ _ hb)
      rw [acy_roundE hb]
      generalize hL2 : roundS t.evs.length (relOf t.evs.length (rhP t c)) = l at *
      by_cases hac : acyP t (rhP t c) = true
      · rw [if_pos hac]
        refine gO_ ?_
        refine wc_cond rfl (fun h3 => ?_) (fun h3 => ?_)
        · refine gO_ ?_
          refine kp_nil 82 3 encArc ?_
          refine mk_ret Tryz.results26 (.tmp rfl (.tmp rfl .nil)) (.tail _ (.tail _ (.tail _ (.tail _ (.head _))))) [_] [0] rfl (by decide) fun w' hw => ?_
          unfold rvwhyE rvwhyL
          rw [if_pos hz, if_pos hco, if_pos hac, if_pos hz, if_pos hco, if_pos hac]
          exact ⟨_, sv_nil, rfl, rfl⟩
        · simp [dc_eq] at h3
      · rw [if_neg hac]
        refine gO_ ?_
        refine wc_cond rfl (fun h3 => ?_) (fun h3 => ?_)
        · simp [dc_eq] at h3
        clear h3
        (refine gO_ ?_; repeat ((first | refine wl_a (h := qy_nilCheck) (next := ?_) | refine wl_ag (h := qy_nilCheck) (next := ?_)); refine gO_ ?_))
        refine wc_draw [0, 1, 2, 3, 4, 5, 6, 7, 8, 10, 9, 11, 12, 13, 14, 15] mixed ?_
        (refine kG_ ?_; repeat ((first | refine kg_a (h := qy_nilCheck) (next := ?_) | refine kg_ag (h := qy_nilCheck) (next := ?_)); refine kG_ ?_))
        refine kg_f _ (h := fx_call_mk (spec := fun w' hw => rvppo_spec w' (AkIn.made fv ov c w h hc hw (.tail _ (.tail _ (.tail _ (.tail _ (.head _))))) hz (.tail _ (.tail _ (.tail _ (.head _)))) (.tail _ (.tail _ (.tail _ (.tail _ (.tail _ (.tail _ (.tail _ (.head _)))))))) (.tail _ (.tail _ (.tail _ (.tail _ (.tail _ (.tail _ (.tail _ (.tail _ (.head _))))))))) (.tail _ (.tail _ (.tail _ (.tail _ (.tail _ (.tail _ (.tail _ (.tail _ (.tail _ (.tail _ (.head _))))))))))) (.tail _ (.tail _ (.tail _ (.tail _ (.tail _ (.tail _ (.tail _ (.tail _ (.tail _ (.tail _ (.tail _ (.tail _ (.tail _ (.head _)))))))))))))) (.tail _ (.tail _ (.tail _ (.tail _ (.tail _ (.tail _ (.tail _ (.tail _ (.tail _ (.tail _ (.tail _ (.tail _ (.tail _ (.tail _ (.head _))))))))))))))) (.tail _ (.tail _ (.tail _ (.tail _ (.tail _ (.tail _ (.tail _ (.tail _ (.tail _ (.tail _ (.tail _ (.tail _ (.tail _ (.tail _ (.tail _ (.head _)))))))))))))))) (.tail _ (.tail _ (.tail _ (.tail _ (.tail _ (.tail _ (.tail _ (.tail _ (.tail _ (.tail _ (.tail _ (.tail _ (.tail _ (.tail _ (.tail _ (.tail _ (.head _))))))))))))))))))) (next := ?_)) (hSS := fun _ h => h)
        rintro v n5 es w5 ⟨sp, hsp, rfl, rfl⟩
        refine kp_S ?_ (fun _ h => h.tailB.tail)
        (refine kG_ ?_; repeat ((first | refine kg_a (h := qy_nilCheck) (next := ?_) | refine kg_ag (h := qy_nilCheck) (next := ?_)); refine kG_ ?_))
        refine kg_f _ (h := fx_call_mk (spec := fun w' hw => varcs_spec t.evs.length t.evs.length t.evs.length t.evs.length t.evs.length t.evs.length t.evs.length t.evs.length t.evs.length t.evs.length t.evs.length s1 s2 s3 s4 s5 s6 s7 s8 s9 sf sp (relOf t.evs.length (poP t)) (relOf t.evs.length (plP t)) (relOf t.evs.length (rfP t c)) (relOf t.evs.length (exP t (rfP t c))) (relOf t.evs.length (coP t c)) (relOf t.evs.length (exP t (coP t c))) (relOf t.evs.length (frP t c)) (relOf t.evs.length (exP t (frP t c))) (relOf t.evs.length (cmP t c)) (relOf t.evs.length (fnP t)) (relOf t.evs.length (rvP t c)) pv l w' (hw.lend (.tail _ (.head _))) (by omega) ⟨rfl, hw.lend (.tail _ (.tail _ (.tail _ (.tail _ (.tail _ (.head _)))))), rfl, hw.lend (.tail _ (.tail _ (.tail _ (.tail _ (.tail _ (.tail _ (.head _))))))), rfl, hw.lend (.tail _ (.tail _ (.tail _ (.tail _ (.tail _ (.tail _ (.tail _ (.head _)))))))), rfl, hw.lend (.tail _ (.tail _ (.tail _ (.tail _ (.tail _ (.tail _ (.tail _ (.tail _ (.head _))))))))), rfl, hw.lend (.tail _ (.tail _ (.tail _ (.tail _ (.tail _ (.tail _ (.tail _ (.tail _ (.tail _ (.head _)))))))))), rfl, hw.lend (.tail _ (.tail _ (.tail _ (.tail _ (.tail _ (.tail _ (.tail _ (.tail _ (.tail _ (.tail _ (.head _))))))))))), rfl, hw.lend (.tail _ (.tail _ (.tail _ (.tail _ (.tail _ (.tail _ (.tail _ (.tail _ (.tail _ (.tail _ (.tail _ (.head _)))))))))))), rfl, hw.lend (.tail _ (.tail _ (.tail _ (.tail _ (.tail _ (.tail _ (.tail _ (.tail _ (.tail _ (.tail _ (.tail _ (.tail _ (.head _))))))))))))), rfl, hw.lend (.tail _ (.tail _ (.tail _ (.tail _ (.tail _ (.tail _ (.tail _ (.tail _ (.tail _ (.tail _ (.tail _ (.tail _ (.tail _ (.head _)))))))))))))), rfl, hw.lend (.tail _ (.tail _ (.tail _ (.tail _ (.tail _ (.tail _ (.tail _ (.tail _ (.tail _ (.tail _ (.tail _ (.tail _ (.tail _ (.tail _ (.head _))))))))))))))), rfl, hw.lend (.head _), trivial⟩) (next := ?_)) (hSS := fun _ h => h)
        rintro v n6 es w6 ⟨av', hav, rfl, rfl⟩
        refine kp_S ?_ (fun _ h => h.tailB.tail.tailB.tail)
        (refine kG_ ?_; repeat ((first | refine kg_a (h := qy_nilCheck) (next := ?_) | refine kg_ag (h := qy_nilCheck) (next := ?_)); refine kG_ ?_))
        refine gO_ ?_
        refine mk_ret Tryz.results26 (.tmp rfl (.tmp rfl .nil)) (.tail _ (.tail _ (.tail _ (.tail _ (.tail _ (.tail _ (.head _))))))) [_] [0] rfl (by decide) fun w' hw => ?_
        unfold rvwhyE rvwhyL
        rw [if_pos hz, if_pos hco, if_neg hac, if_pos hz, if_pos hco, if_neg hac, hL2]
        exact ⟨av', hav, rfl, rfl⟩
    · have hco' : cohB t c = false := by simpa using hco
      rw [(why_round hz hco').1]
      refine gO_ ?_
      refine wc_cond rfl (fun h2 => ?_) (fun h2 => ?_)
      · refine gO_ ?_
        refine mk_ret Tryz.results26 (.tmp rfl (.tmp rfl .nil)) (.tail _ (.tail _ (.head _))) [_] [0] rfl (by decide) fun w' hw => ?_
        unfold rvwhyE rvwhyL
        rw [if_pos hz, if_neg hco, if_pos hz, if_neg hco]
        exact ⟨a1, ha1, rfl, rfl⟩
      · simp [dc_eq] at h2
  · refine wl_fx (fx_call (spec := fun w' hw => rvof_no fv ov c w' (h.now hw (.head _)) (hc.now hw (.head _)) hz) (next := ?_))
    rintro v n1 w1 rfl hn1
    refine gO_ ?_
    refine wc_cond rfl (fun h1 => ?_) (fun h1 => ?_)
    · refine gO_ ?_
      refine kp_nil 82 3 encArc ?_
      refine mk_ret Tryz.results26 (.tmp rfl (.tmp rfl .nil)) (.tail _ (.head _)) [_] [0] rfl (by decide) fun w' hw => ?_
      unfold rvwhyE rvwhyL
      rw [if_neg hz, if_neg hz]
      exact ⟨_, sv_nil, rfl, rfl⟩
    · rw [Bool.not_eq_false', dc_true] at h1
      exact absurd h1 hz

set_option maxRecDepth 8000 in
set_option maxHeartbeats 6400000 in
theorem rvPpo_spec {lv iv ev bv av dv cv tv nv : Value} {t : Tr} (fv ov : Value) (c : Cd) (w : World) (h : TrIn All w lv iv ev bv av dv cv tv nv t) (hc : CdIn All w fv ov c) (hT : Tab w) :
    Mk Tryz.prog 23 [.agg #[lv, iv, ev, bv, av, dv, cv, tv, nv], .agg #[fv, ov]] w (RelΨ (if cdE t c = 0 then (t.evs.length : Int) else 0) (if cdE t c = 0 then relOf t.evs.length (rvP t c) else []) (cdE t c)) := by
  have hfs := hc.rf.sv
  have hos := hc.cosv
  have g1 := h.locs.sv; have g2 := h.init.sv; have g3 := h.evs.sv; have g4 := h.bars.sv; have g5 := h.addr.sv; have g6 := h.data.sv; have g7 := h.ctrl.sv; have g8 := h.things.sv; have g9 := h.ends.sv
  refine enter_mk Tryz.func23 Tryz.ntmps23 rfl rfl ?_
  refine gO_ ?_
  refine wl_fx (fx_box (next := ?_)); intro bT
  refine gO_ ?_
  refine wl_fx (fx_box (next := ?_)); intro bC
  refine gO_ ?_
  refine wl_fx (fx_alloc (next := ?_)); intro b4
  refine gO_ ?_
  by_cases hz : cdE t c = 0
  · have hb := (trOk_lens (cdE_ok hz).1).1
    refine wl_fx (fx_call_mk (spec := fun w' hw => rvof_ok fv ov c w' (h.now hw (.head _)) (hc.now hw (.head _)) (hT.now hw (.head _)) hz) (next := ?_))
    rintro v n1 es w1 ⟨ba, s1, s2, s3, s4, s5, s6, s7, s8, s9, sf, sa, sd, sc, ⟨hs1, hs2, hs3, hs4, hs5, hs6, hs7, hs8, hs9, hsf, hsa, hsd, hsc⟩, rfl, rfl⟩
    refine gO_ ?_
    refine wc_cond rfl (fun h1 => ?_) (fun h1 => ?_)
    · simp [dc_eq] at h1
    clear h1
    refine gO_ ?_
    refine wl_fx (fx_call_mk (spec := fun w' hw => rvppo_spec w' (AkIn.made fv ov c w h hc hw (.tail _ (.head _)) hz (.head _) (.tail _ (.tail _ (.tail _ (.tail _ (.head _))))) (.tail _ (.tail _ (.tail _ (.tail _ (.tail _ (.head _)))))) (.tail _ (.tail _ (.tail _ (.tail _ (.tail _ (.tail _ (.tail _ (.head _)))))))) (.tail _ (.tail _ (.tail _ (.tail _ (.tail _ (.tail _ (.tail _ (.tail _ (.tail _ (.tail _ (.head _))))))))))) (.tail _ (.tail _ (.tail _ (.tail _ (.tail _ (.tail _ (.tail _ (.tail _ (.tail _ (.tail _ (.tail _ (.head _)))))))))))) (.tail _ (.tail _ (.tail _ (.tail _ (.tail _ (.tail _ (.tail _ (.tail _ (.tail _ (.tail _ (.tail _ (.tail _ (.head _))))))))))))) (.tail _ (.tail _ (.tail _ (.tail _ (.tail _ (.tail _ (.tail _ (.tail _ (.tail _ (.tail _ (.tail _ (.tail _ (.tail _ (.head _)))))))))))))))) (next := ?_))
    rintro v n2 es w2 ⟨sp, hsp, rfl, rfl⟩
    refine gO_ ?_
    refine wl_fx (fx_store_box (i := 15) (hi := rfl) (next := ?_))
    refine gO_ ?_
    refine mk_ret Tryz.results23 (.cellN inferInstance rfl (.tail _ (.tail _ (.tail _ (.tail _ (.tail _ (.tail _ (.tail _ (.tail _ (.tail _ (.tail _ (.tail _ (.tail _ (.tail _ (.tail _ (.tail _ (.head _)))))))))))))))) rfl (.tmp rfl .nil)) (.tail _ (.tail _ (.head _))) [_] [0] rfl (by decide) fun w' hw => ?_
    rw [if_pos hz, if_pos hz, hz]
    exact ⟨sp, hsp, rfl, rfl⟩
  · refine wl_fx (fx_call (spec := fun w' hw => rvof_no fv ov c w' (h.now hw (.head _)) (hc.now hw (.head _)) hz) (next := ?_))
    rintro v n1 w1 rfl hn1
    refine gO_ ?_
    refine wc_cond rfl (fun h1 => ?_) (fun h1 => ?_)
    · refine gO_ ?_
      refine wl_fx (fx_store_box (i := 0) (hi := rfl) (next := ?_))
      refine gO_ ?_
      refine kp_nil 34 1 encW ?_
      refine mk_ret Tryz.results23 (.cellN inferInstance rfl (.tail _ (.head _)) rfl (.tmp rfl .nil)) (.tail _ (.head _)) [_] [0] rfl (by decide) fun w' hw => ?_
      rw [if_neg hz, if_neg hz]
      exact ⟨_, sv_nil, rfl, rfl⟩
    · rw [Bool.not_eq_false', dc_true] at h1
      exact absurd h1 hz

end Go.Proofs.YtgidhhpjabdnkaaGreatDoor