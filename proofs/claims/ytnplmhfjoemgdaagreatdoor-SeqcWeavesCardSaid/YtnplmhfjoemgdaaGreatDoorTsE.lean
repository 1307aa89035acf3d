/- The walks: alembicref19.Happens, Consistent, Why; tso.Why (printed by gen_tso2.py). -/
import Derived.Test.YtnplmhfjoemgdaaGreatDoorTsD
set_option linter.unusedSimpArgs false
set_option linter.unusedVariables false
namespace Go.Proofs.YtnplmhfjoemgdaaGreatDoor
open Go Go.Eng Go.Tc Go.Rl Go.Vw
attribute [local irreducible] wpList Code.wp bodyPost Exit.then Exit.inBlock Calls
def tsR (t : Tr) (c : Cd) : Rs := [((t.evs.length : Int), relOf t.evs.length (poP t)), ((t.evs.length : Int), relOf t.evs.length (plP t)), ((t.evs.length : Int), relOf t.evs.length (rfP t c)), ((t.evs.length : Int), relOf t.evs.length (exP t (rfP t c))), ((t.evs.length : Int), relOf t.evs.length (coP t c)), ((t.evs.length : Int), relOf t.evs.length (exP t (coP t c))), ((t.evs.length : Int), relOf t.evs.length (frP t c)), ((t.evs.length : Int), relOf t.evs.length (exP t (frP t c))), ((t.evs.length : Int), relOf t.evs.length (cmP t c)), ((t.evs.length : Int), relOf t.evs.length (fnP t)), ((t.evs.length : Int), relOf t.evs.length (ppP t))]
def twhyE (t : Tr) (c : Cd) : Int := if cdE t c = 0 then if cohB t c = true then if acyP t (tsP t c) = true then 4 else arcsE (tsR t c) (roundS t.evs.length (relOf t.evs.length (tsP t c))) else whyE t c else cdE t c
def twhyL (t : Tr) (c : Cd) : List Arc := if cdE t c = 0 then if cohB t c = true then if acyP t (tsP t c) = true then [] else arcsL (tsR t c) (roundS t.evs.length (relOf t.evs.length (tsP t c))) else whyL t c else []

set_option maxHeartbeats 3200000 in
theorem rhapp_spec {t : Tr} (c : Cd) (s0 s1 s2 s3 s4 s5 s6 s7 s8 s9 : Value) (w : World) (hb : t.evs.length ≤ 64) (r0 : Sl All w encW 1 s0 (relOf t.evs.length (ppP t))) (r4 : Sl All w encW 1 s4 (relOf t.evs.length (exP t (rfP t c)))) (r5 : Sl All w encW 1 s5 (relOf t.evs.length (coP t c))) (r7 : Sl All w encW 1 s7 (relOf t.evs.length (frP t c))) (hs1 : SV s1) (hs2 : SV s2) (hs3 : SV s3) (hs4 : SV s4) (hs5 : SV s5) (hs6 : SV s6) (hs7 : SV s7) (hs8 : SV s8) (hs9 : SV s9) :
    Mk Tryz.prog 58 [.agg #[.int .i64 t.evs.length, s0], .agg #[.int .i64 t.evs.length, s1, .int .i64 t.evs.length, s2, .int .i64 t.evs.length, s3, .int .i64 t.evs.length, s4, .int .i64 t.evs.length, s5, .int .i64 t.evs.length, s6, .int .i64 t.evs.length, s7, .int .i64 t.evs.length, s8, .int .i64 t.evs.length, s9]] w (Rel1Ψ t.evs.length (relOf t.evs.length (tsP t c))) := by
  have hs0 := r0.sv
  refine enter_mk Tryz.func58 Tryz.ntmps58 rfl rfl ?_
  refine gO_ ?_
  refine wl_fx (fx_box (next := ?_)); intro b2
  refine gO_ ?_
  refine wl_fx (fx_box (next := ?_)); intro b3
  refine gO_ ?_
  refine wl_fx (fx_alloc (next := ?_)); intro b4
  refine gO_ ?_
  refine wl_fx (fx_call_mk (spec := fun w' hw => runion_ok (relOk_relOf _ (ppP t) hb) (relOk_relOf _ (exP t (rfP t c)) hb) (hw.now r0 (.head _)) (hw.now r4 (.head _))) (next := ?_))
  rintro v n1 es w1 ⟨u1, hu1, rfl, rfl⟩
  rw [relOf_uni hb]
  refine gO_ ?_
  refine wl_fx (fx_alloc (next := ?_)); intro b5
  refine gO_ ?_
  refine wl_fx (fx_store_box (i := 0) (hi := rfl) (next := ?_))
  refine gO_ ?_
  refine wl_fx (fx_call_mk (spec := fun w' hw => runion_ok (relOk_relOf _ (fun i j => ppP t i j || exP t (rfP t c) i j) hb) (relOk_relOf _ (coP t c) hb) (hw.lend (.tail _ (.head _))) (hw.now r5 (.tail _ (.head _)))) (next := ?_))
  rintro v n2 es w2 ⟨u2, hu2, rfl, rfl⟩
  rw [relOf_uni hb]
  refine gO_ ?_
  refine wl_fx (fx_store_box (i := 1) (hi := rfl) (next := ?_))
  refine gO_ ?_
  refine wl_fx (fx_call_mk (spec := fun w' hw => runion_ok (relOk_relOf _ (fun i j => (ppP t i j || exP t (rfP t c) i j) || coP t c i j) hb) (relOk_relOf _ (frP t c) hb) (hw.lend (.head _)) (hw.now r7 (.tail _ (.tail _ (.head _))))) (next := ?_))
  rintro v n3 es w3 ⟨u3, hu3, rfl, rfl⟩
  rw [relOf_uni hb]
  refine gO_ ?_
  refine wl_fx (fx_store_box (i := 2) (hi := rfl) (next := ?_))
  refine gO_ ?_
  refine wl_fx (fx_store_box (i := 4) (hi := rfl) (next := ?_))
  refine gO_ ?_
  exact mk_ret Tryz.results58 (.cellN inferInstance rfl (.tail _ (.tail _ (.tail _ (.tail _ (.head _))))) rfl .nil) (.tail _ (.tail _ (.tail _ (.head _)))) [_] [0] rfl (by decide) fun w' hw => ⟨u3, hu3, rfl, rfl⟩

set_option maxHeartbeats 6400000 in
theorem rcons19_spec {lv iv ev bv av dv cv tv nv : Value} {t : Tr} (fv ov : Value) (c : Cd) (w : World) (h : TrIn All w lv iv ev bv av dv cv tv nv t) (hc : CdIn All w fv ov c) :
    Pur Tryz.prog 18 [.agg #[lv, iv, ev, bv, av, dv, cv, tv, nv], .agg #[fv, ov]] w fun _ v _ => v = .tuple #[.bool (tsB t c), .int .i64 (cdE t c)] := by
  have hfs := hc.rf.sv
  have hos := hc.cosv
  have g1 := h.locs.sv; have g2 := h.init.sv; have g3 := h.evs.sv; have g4 := h.bars.sv; have g5 := h.addr.sv; have g6 := h.data.sv; have g7 := h.ctrl.sv; have g8 := h.things.sv; have g9 := h.ends.sv
  refine enter_pur Tryz.func18 Tryz.ntmps18 rfl rfl ?_
  refine gO_ ?_
  refine wl_fx (fx_box (next := ?_)); intro bT
  refine gO_ ?_
  refine wl_fx (fx_box (next := ?_)); intro bC
  refine gO_ ?_
  refine wl_fx (fx_call_mk (spec := fun w' hw => rvof_spec fv ov c w' (h.now hw (.head _)) (hc.now hw (.head _))) (next := ?_))
  rintro v n1 es w1 ⟨s1, s2, s3, s4, s5, s6, s7, s8, s9, ⟨hs1, hs2, hs3, hs4, hs5, hs6, hs7, hs8, hs9⟩, rfl, rfl⟩
  refine gO_ ?_
  refine wl_fx (fx_alloc (next := ?_)); intro b6
  refine gO_ ?_
  refine wl_fx (fx_store_box (i := 0) (hi := rfl) (next := ?_))
  refine gO_ ?_
  refine wc_cond rfl (fun h1 => ?_) (fun h1 => ?_)
  · rw [Bool.not_eq_true', dc_false] at h1
    refine gO_ ?_
    refine pur_ret Tryz.results18 (.tmp rfl (.tmp rfl .nil)) (.tail _ (.head _)) fun w' hw => ?_
    unfold tsB; rw [cohB_bad h1]; rfl
  · rw [Bool.not_eq_false', dc_true] at h1
    have hok := (cdE_ok h1).1
    obtain ⟨hb, hlb⟩ := trOk_lens hok
    obtain ⟨hN, hR, hE0⟩ := tr_ok hok
    rw [vwOf_ok h1]
    refine gO_ ?_
    refine wl_fx (fx_call_mk (spec := fun w' hw => rppo_spec (t := t) w' (h.now hw (.tail _ (.head _)))) (next := ?_))
    rintro v n2 es w2 ⟨s0, hs0, rfl, rfl⟩
    rw [hN, hR (ppP t)]
    refine gO_ ?_
    refine wl_fx (fx_alloc (next := ?_)); intro b8
    refine gO_ ?_
    refine wl_fx (fx_store_box (i := 0) (hi := rfl) (next := ?_))
    refine gO_ ?_
    refine wl_fx (fx_call_mk (spec := fun w' hw => rheld_spec t.evs.length s1 s2 s3 s4 s5 s6 s7 s8 s9 (relOf t.evs.length (plP t)) (relOf t.evs.length (cmP t c)) w' hs1 hs2 hs3 hs4 hs5 hs6 hs7 hs8 hs9 (hw.lend (.tail _ (.tail _ (.tail _ (.tail _ (.head _)))))) (hw.lend (.tail _ (.tail _ (.tail _ (.tail _ (.tail _ (.tail _ (.tail _ (.tail _ (.tail _ (.tail _ (.tail _ (.head _))))))))))))) (relOk_relOf _ _ hb) (relOk_relOf _ _ hb)) (next := ?_))
    rintro v n3 es w3 ⟨sh, hsh, rfl, rfl⟩
    rw [relOf_uni hb]
    refine gO_ ?_
    refine wl_fx (fx_call (spec := fun w' hw => racyclic_spec t.evs.length sh (relOf t.evs.length (hdP t c)) w' (hw.lend (.head _))) (next := ?_))
    rintro v n4 w4 rfl hn4
    refine gO_ ?_
    refine wl_fx (fx_call_mk (spec := fun w' hw => rhapp_spec c s0 s1 s2 s3 s4 s5 s6 s7 s8 s9 w' hb (hw.lend (.tail _ (.tail _ (.head _)))) (hw.lend (.tail _ (.tail _ (.tail _ (.tail _ (.tail _ (.tail _ (.tail _ (.head _))))))))) (hw.lend (.tail _ (.tail _ (.tail _ (.tail _ (.tail _ (.tail _ (.tail _ (.tail _ (.head _)))))))))) (hw.lend (.tail _ (.tail _ (.tail _ (.tail _ (.tail _ (.tail _ (.tail _ (.tail _ (.tail _ (.tail _ (.head _)))))))))))) hs1 hs2 hs3 hs4 hs5 hs6 hs7 hs8 hs9) (next := ?_))
    rintro v n5 es w5 ⟨su, hsu, rfl, rfl⟩
    refine gO_ ?_
    refine wl_fx (fx_call (spec := fun w' hw => racyclic_spec t.evs.length su (relOf t.evs.length (tsP t c)) w' (hw.lend (.head _))) (next := ?_))
    rintro v n6 w6 rfl hn6
    refine gO_ ?_
    refine pur_ret Tryz.results18 (.tmp rfl (.tmp rfl .nil)) (.tail _ (.tail _ (.tail _ (.tail _ (.tail _ (.tail _ (.head _))))))) fun w' hw => ?_
    unfold tsB
    rw [cohB_acy h1, h1]; rfl

set_option maxRecDepth 8000 in
set_option maxHeartbeats 12800000 in
theorem twhy_spec {lv iv ev bv av dv cv tv nv : Value} {t : Tr} (fv ov : Value) (c : Cd) (w : World) (h : TrIn All w lv iv ev bv av dv cv tv nv t) (hc : CdIn All w fv ov c) (hT : Tab w) :
    Mk Tryz.prog 34 [.agg #[lv, iv, ev, bv, av, dv, cv, tv, nv], .agg #[fv, ov]] w (ArcsΨ (twhyE t c) (twhyL t c)) := by
  have hfs := hc.rf.sv
  have hos := hc.cosv
  have g1 := h.locs.sv; have g2 := h.init.sv; have g3 := h.evs.sv; have g4 := h.bars.sv; have g5 := h.addr.sv; have g6 := h.data.sv; have g7 := h.ctrl.sv; have g8 := h.things.sv; have g9 := h.ends.sv
  refine enter_mk Tryz.func34 Tryz.ntmps34 rfl rfl ?_
  refine gO_ ?_
  refine wl_fx (fx_box (next := ?_)); intro bT
  refine gO_ ?_
  refine wl_fx (fx_box (next := ?_)); intro bC
  refine gO_ ?_
  by_cases hz : cdE t c = 0
  · have hok := (cdE_ok hz).1
    obtain ⟨hb, hlb⟩ := trOk_lens hok
    obtain ⟨hN, hR, hE0⟩ := tr_ok hok
    refine wl_fx (fx_call_mk (spec := fun w' hw => made_ok fv ov c w' (h.now hw (.head _)) (hc.now hw (.head _)) (hT.now hw (.head _)) hz) (next := ?_))
    rintro v n1 es w1 ⟨s1, s2, s3, s4, s5, s6, s7, s8, s9, ⟨hs1, hs2, hs3, hs4, hs5, hs6, hs7, hs8, hs9⟩, rfl, rfl⟩
    refine gO_ ?_
    refine wl_fx (fx_alloc (next := ?_)); intro b6
    refine gO_ ?_
    refine wl_fx (fx_store_box (i := 0) (hi := rfl) (next := ?_))
    refine gO_ ?_
    refine wc_cond rfl (fun h1 => ?_) (fun h1 => ?_)
    · rw [Bool.not_eq_true', dc_false] at h1
      exact absurd rfl h1
    · clear h1
      refine gO_ ?_
      refine wl_fx (fx_call (spec := fun w' hw => tcoh_spec fv ov c s1 s2 s3 s4 s5 s6 s7 s8 s9 w' (h.now hw (.tail _ (.head _))) (hc.now hw (.tail _ (.head _))) hs1 hs2 hs3 hs4 hs5 hs6 hs7 hs8 hs9 (hT.now hw (.tail _ (.head _)))) (next := ?_))
      rintro v n2 w2 rfl hn2
      refine gO_ ?_
      refine wc_cond rfl (fun h2 => ?_) (fun h2 => ?_)
      · rw [Bool.not_eq_true'] at h2
        refine gO_ ?_
        refine wl_fx (fx_call_mk (spec := fun w' hw => vwhy_spec fv ov c w' (h.now hw (.tail _ (.tail _ (.head _)))) (hc.now hw (.tail _ (.tail _ (.head _)))) (hT.now hw (.tail _ (.tail _ (.head _))))) (next := ?_))
        rintro v n3 es w3 ⟨a1, ha1, rfl, rfl⟩
        refine gO_ ?_
        refine mk_ret Tryz.results34 (.tmp rfl (.tmp rfl .nil)) (.tail _ (.tail _ (.tail _ (.head _)))) [_] [0] rfl (by decide) fun w' hw => ?_
        unfold twhyE twhyL
        rw [if_pos hz, if_neg (by rw [h2]; simp), if_pos hz, if_neg (by rw [h2]; simp)]
        exact ⟨a1, ha1, rfl, rfl⟩
      · rw [Bool.not_eq_false'] at h2
        refine gO_ ?_
        refine wl_fx (fx_call (spec := fun w' hw => tfree_spec fv ov c s1 s2 s3 s4 s5 s6 s7 s8 s9 w' (h.now hw (.tail _ (.tail _ (.head _)))) (hc.now hw (.tail _ (.tail _ (.head _)))) (hw.lend (.tail _ (.tail _ (.tail _ (.tail _ (.head _)))))) (hw.lend (.tail _ (.tail _ (.tail _ (.tail _ (.tail _ (.head _))))))) (hw.lend (.tail _ (.tail _ (.tail _ (.tail _ (.tail _ (.tail _ (.tail _ (.head _))))))))) hs1 hs2 hs3 hs4 hs5 hs6 hs7 hs8 hs9 hz) (next := ?_))
        rintro v n3 w3 rfl hn3
        refine gO_ ?_
        refine wc_cond rfl (fun h3 => ?_) (fun h3 => ?_)
        · refine gO_ ?_
          refine kp_nil 62 3 encArc ?_
          refine mk_ret Tryz.results34 (.tmp rfl (.tmp rfl .nil)) (.tail _ (.tail _ (.tail _ (.head _)))) [_] [0] rfl (by decide) fun w' hw => ?_
          unfold twhyE twhyL
          rw [if_pos hz, if_pos h2, if_pos h3, if_pos hz, if_pos h2, if_pos h3]
          exact ⟨_, sv_nil, rfl, rfl⟩
        · refine gO_ ?_
          refine wl_fx (fx_call_mk (spec := fun w' hw => tppo_spec (t := t) w' (h.now hw (.tail _ (.tail _ (.tail _ (.head _)))))) (next := ?_))
          rintro v n4 es w4 ⟨sp, hsp, rfl, rfl⟩
          rw [hN, hR (ppP t)]
          refine gO_ ?_
          refine wl_fx (fx_alloc (next := ?_)); intro b8
          refine gO_ ?_
          refine wl_fx (fx_store_box (i := 0) (hi := rfl) (next := ?_))
          refine gO_ ?_
          refine wl_fx (fx_call_mk (spec := fun w' hw => tfenced_spec (t := t) w' (h.now hw (.tail _ (.tail _ (.tail _ (.tail _ (.head _))))))) (next := ?_))
          rintro v n5 es w5 ⟨sf, hsf, rfl, rfl⟩
          rw [hN, hR (fnP t)]
          refine gO_ ?_
          refine wl_fx (fx_alloc (next := ?_)); intro b10
          refine gO_ ?_
          refine wl_fx (fx_store_box (i := 0) (hi := rfl) (next := ?_))
          refine gO_ ?_
          refine wl_fx (fx_call_mk (spec := fun w' hw => theld_spec fv ov c s1 s2 s3 s4 s5 s6 s7 s8 s9 w' (h.now hw (.tail _ (.tail _ (.tail _ (.tail _ (.tail _ (.head _))))))) (hc.now hw (.tail _ (.tail _ (.tail _ (.tail _ (.tail _ (.head _))))))) (hw.lend (.tail _ (.tail _ (.tail _ (.tail _ (.tail _ (.tail _ (.tail _ (.tail _ (.head _)))))))))) (hw.lend (.tail _ (.tail _ (.tail _ (.tail _ (.tail _ (.tail _ (.tail _ (.tail _ (.tail _ (.head _))))))))))) (hw.lend (.tail _ (.tail _ (.tail _ (.tail _ (.tail _ (.tail _ (.tail _ (.tail _ (.tail _ (.tail _ (.tail _ (.head _))))))))))))) hs1 hs2 hs3 hs4 hs5 hs6 hs7 hs8 hs9 hz) (next := ?_))
          rintro v n6 es w6 ⟨sh, hsh, rfl, rfl⟩
          refine gO_ ?_
          refine wl_fx (fx_call_mk (spec := fun w' hw => round_all t.evs.length sh (relOf t.evs.length (tsP t c)) w' (hw.lend (.head _))) (next := ?_))
          rintro v n7 es w7 ⟨pv, hpv, rfl, rfl⟩
          have hln := roundS_len t.evs.length (relOf t.evs.length (tsP t c)) (relOk_relOf _ _ hb)
          generalize hL2 : roundS t.evs.length (relOf t.evs.length (tsP t c)) = l at *
          refine gO_ ?_
          refine wl_fx (fx_call_mk (spec := fun w' hw => varcs_spec t.evs.length t.evs.length t.evs.length t.evs.length t.evs.length t.evs.length t.evs.length t.evs.length t.evs.length t.evs.length t.evs.length s1 s2 s3 s4 s5 s6 s7 s8 s9 sf sp (relOf t.evs.length (poP t)) (relOf t.evs.length (plP t)) (relOf t.evs.length (rfP t c)) (relOf t.evs.length (exP t (rfP t c))) (relOf t.evs.length (coP t c)) (relOf t.evs.length (exP t (coP t c))) (relOf t.evs.length (frP t c)) (relOf t.evs.length (exP t (frP t c))) (relOf t.evs.length (cmP t c)) (relOf t.evs.length (fnP t)) (relOf t.evs.length (ppP t)) pv l w' (hw.lend (.head _)) (by omega) ⟨rfl, hw.lend (.tail _ (.tail _ (.tail _ (.tail _ (.tail _ (.tail _ (.tail _ (.head _)))))))), rfl, hw.lend (.tail _ (.tail _ (.tail _ (.tail _ (.tail _ (.tail _ (.tail _ (.tail _ (.head _))))))))), rfl, hw.lend (.tail _ (.tail _ (.tail _ (.tail _ (.tail _ (.tail _ (.tail _ (.tail _ (.tail _ (.head _)))))))))), rfl, hw.lend (.tail _ (.tail _ (.tail _ (.tail _ (.tail _ (.tail _ (.tail _ (.tail _ (.tail _ (.tail _ (.head _))))))))))), rfl, hw.lend (.tail _ (.tail _ (.tail _ (.tail _ (.tail _ (.tail _ (.tail _ (.tail _ (.tail _ (.tail _ (.tail _ (.head _)))))))))))), rfl, hw.lend (.tail _ (.tail _ (.tail _ (.tail _ (.tail _ (.tail _ (.tail _ (.tail _ (.tail _ (.tail _ (.tail _ (.tail _ (.head _))))))))))))), rfl, hw.lend (.tail _ (.tail _ (.tail _ (.tail _ (.tail _ (.tail _ (.tail _ (.tail _ (.tail _ (.tail _ (.tail _ (.tail _ (.tail _ (.head _)))))))))))))), rfl, hw.lend (.tail _ (.tail _ (.tail _ (.tail _ (.tail _ (.tail _ (.tail _ (.tail _ (.tail _ (.tail _ (.tail _ (.tail _ (.tail _ (.tail _ (.head _))))))))))))))), rfl, hw.lend (.tail _ (.tail _ (.tail _ (.tail _ (.tail _ (.tail _ (.tail _ (.tail _ (.tail _ (.tail _ (.tail _ (.tail _ (.tail _ (.tail _ (.tail _ (.head _)))))))))))))))), rfl, hw.lend (.tail _ (.tail _ (.tail _ (.head _)))), rfl, hw.lend (.tail _ (.tail _ (.tail _ (.tail _ (.tail _ (.head _)))))), trivial⟩) (next := ?_))
          rintro v n8 es w8 ⟨av', hav, rfl, rfl⟩
          refine gO_ ?_
          refine mk_ret Tryz.results34 (.tmp rfl (.tmp rfl .nil)) (.tail _ (.tail _ (.tail _ (.tail _ (.tail _ (.tail _ (.tail _ (.tail _ (.head _))))))))) [_] [0] rfl (by decide) fun w' hw => ?_
          unfold twhyE twhyL
          rw [if_pos hz, if_pos h2, if_neg (by rw [h3]; simp), if_pos hz, if_pos h2, if_neg (by rw [h3]; simp), hL2]
          exact ⟨av', hav, rfl, rfl⟩
  · refine wl_fx (fx_call (spec := fun w' hw => made_no fv ov c w' (h.now hw (.head _)) (hc.now hw (.head _)) (hT.now hw (.head _)) hz) (next := ?_))
    rintro v n1 w1 rfl hn1
    refine gO_ ?_
    refine wl_fx (fx_alloc (next := ?_)); intro b6
    refine gO_ ?_
    refine wl_fx (fx_store_box (i := 0) (hi := rfl) (next := ?_))
    refine gO_ ?_
    refine wc_cond rfl (fun h1 => ?_) (fun h1 => ?_)
    · refine gO_ ?_
      refine kp_nil 62 3 encArc ?_
      refine mk_ret Tryz.results34 (.tmp rfl (.tmp rfl .nil)) (.tail _ (.head _)) [_] [0] rfl (by decide) fun w' hw => ?_
      unfold twhyE twhyL
      rw [if_neg hz, if_neg hz]
      exact ⟨_, sv_nil, rfl, rfl⟩
    · rw [Bool.not_eq_false', dc_true] at h1
      exact absurd h1 hz

set_option maxRecDepth 8000 in
set_option maxHeartbeats 12800000 in
theorem rwhy19_spec {lv iv ev bv av dv cv tv nv : Value} {t : Tr} (fv ov : Value) (c : Cd) (w : World) (h : TrIn All w lv iv ev bv av dv cv tv nv t) (hc : CdIn All w fv ov c) :
    Mk Tryz.prog 35 [.agg #[lv, iv, ev, bv, av, dv, cv, tv, nv], .agg #[fv, ov]] w (ArcsΨ (twhyE t c) (twhyL t c)) := by
  have hfs := hc.rf.sv
  have hos := hc.cosv
  have g1 := h.locs.sv; have g2 := h.init.sv; have g3 := h.evs.sv; have g4 := h.bars.sv; have g5 := h.addr.sv; have g6 := h.data.sv; have g7 := h.ctrl.sv; have g8 := h.things.sv; have g9 := h.ends.sv
  refine enter_mk Tryz.func35 Tryz.ntmps35 rfl rfl ?_
  refine gO_ ?_
  refine wl_fx (fx_box (next := ?_)); intro bT
  refine gO_ ?_
  refine wl_fx (fx_box (next := ?_)); intro bC
  refine gO_ ?_
  refine wl_fx (fx_call (spec := fun w' hw => rcons19_spec fv ov c w' (h.now hw (.head _)) (hc.now hw (.head _))) (next := ?_))
  rintro v n1 w1 rfl hn1
  refine gO_ ?_
  refine wc_cond rfl (fun h1 => ?_) (fun h1 => ?_)
  · rw [Bool.not_eq_true', dc_false] at h1
    refine gO_ ?_
    refine kp_nil 62 3 encArc ?_
    refine mk_ret Tryz.results35 (.tmp rfl (.tmp rfl .nil)) (.tail _ (.head _)) [_] [0] rfl (by decide) fun w' hw => ?_
    unfold twhyE twhyL
    rw [if_neg h1, if_neg h1]
    exact ⟨_, sv_nil, rfl, rfl⟩
  · rw [Bool.not_eq_false', dc_true] at h1
    have hok := (cdE_ok h1).1
    obtain ⟨hb, hlb⟩ := trOk_lens hok
    obtain ⟨hN, hR, hE0⟩ := tr_ok hok
    refine gO_ ?_
    refine wc_cond rfl (fun h2 => ?_) (fun h2 => ?_)
    · unfold tsB at h2
      rw [Bool.and_eq_true] at h2
      refine gO_ ?_
      refine kp_nil 62 3 encArc ?_
      refine mk_ret Tryz.results35 (.tmp rfl (.tmp rfl .nil)) (.tail _ (.head _)) [_] [0] rfl (by decide) fun w' hw => ?_
      unfold twhyE twhyL
      rw [if_pos h1, if_pos h2.1, if_pos h2.2, if_pos h1, if_pos h2.1, if_pos h2.2]
      exact ⟨_, sv_nil, rfl, rfl⟩
    · refine gO_ ?_
      refine wl_fx (fx_call_mk (spec := fun w' hw => rwhy_spec fv ov c w' (h.now hw (.tail _ (.head _))) (hc.now hw (.tail _ (.head _)))) (next := ?_))
      rintro v n2 es w2 ⟨a1, ha1, rfl, rfl⟩
      refine gO_ ?_
      refine wc_cond rfl (fun h3 => ?_) (fun h3 => ?_)
      · rw [dc_true] at h3
        have hco : ¬ cohB t c = true := fun q => by have := (why_held h1 q).1; omega
        refine gO_ ?_
        refine mk_ret Tryz.results35 (.tmp rfl (.tmp rfl .nil)) (.tail _ (.tail _ (.head _))) [_] [0] rfl (by decide) fun w' hw => ?_
        unfold twhyE twhyL
        rw [if_pos h1, if_neg hco, if_pos h1, if_neg hco]
        exact ⟨a1, ha1, by rw [h3]; rfl, rfl⟩
      · rw [dc_false] at h3
        have hco : cohB t c = true := by
          by_cases q : cohB t c = true
          · exact q
          · exact absurd (why_round h1 (by simpa using q)).1 h3
        have hac : ¬ acyP t (tsP t c) = true := fun q => by
          unfold tsB at h2; rw [hco, q] at h2; cases h2
        refine gO_ ?_
        refine wl_fx (fx_call_mk (spec := fun w' hw => rvof_spec fv ov c w' (h.now hw (.tail _ (.tail _ (.head _)))) (hc.now hw (.tail _ (.tail _ (.head _))))) (next := ?_))
        rintro v n3 es w3 ⟨s1, s2, s3, s4, s5, s6, s7, s8, s9, ⟨hs1, hs2, hs3, hs4, hs5, hs6, hs7, hs8, hs9⟩, rfl, rfl⟩
        rw [vwOf_ok h1]
        refine gO_ ?_
        refine wl_fx (fx_alloc (next := ?_)); intro b10
        refine gO_ ?_
        refine wl_fx (fx_store_box (i := 0) (hi := rfl) (next := ?_))
        refine gO_ ?_
        refine wl_fx (fx_call_mk (spec := fun w' hw => rppo_spec (t := t) w' (h.now hw (.tail _ (.tail _ (.tail _ (.head _)))))) (next := ?_))
        rintro v n4 es w4 ⟨sp, hsp, rfl, rfl⟩
        rw [hN, hR (ppP t)]
        refine gO_ ?_
        refine wl_fx (fx_alloc (next := ?_)); intro b12
        refine gO_ ?_
        refine wl_fx (fx_store_box (i := 0) (hi := rfl) (next := ?_))
        refine gO_ ?_
        refine wl_fx (fx_call_mk (spec := fun w' hw => rfenced_spec (t := t) w' (h.now hw (.tail _ (.tail _ (.tail _ (.tail _ (.head _))))))) (next := ?_))
        rintro v n5 es w5 ⟨sf, hsf, rfl, rfl⟩
        rw [hN, hR (fnP t)]
        refine gO_ ?_
        refine wl_fx (fx_alloc (next := ?_)); intro b14
        refine gO_ ?_
        refine wl_fx (fx_store_box (i := 0) (hi := rfl) (next := ?_))
        refine gO_ ?_
        refine wl_fx (fx_call_mk (spec := fun w' hw => rhapp_spec c sp s1 s2 s3 s4 s5 s6 s7 s8 s9 w' hb (hw.lend (.tail _ (.tail _ (.tail _ (.head _))))) (hw.lend (.tail _ (.tail _ (.tail _ (.tail _ (.tail _ (.tail _ (.tail _ (.tail _ (.head _)))))))))) (hw.lend (.tail _ (.tail _ (.tail _ (.tail _ (.tail _ (.tail _ (.tail _ (.tail _ (.tail _ (.head _))))))))))) (hw.lend (.tail _ (.tail _ (.tail _ (.tail _ (.tail _ (.tail _ (.tail _ (.tail _ (.tail _ (.tail _ (.tail _ (.head _))))))))))))) hs1 hs2 hs3 hs4 hs5 hs6 hs7 hs8 hs9) (next := ?_))
        rintro v n6 es w6 ⟨sh, hsh, rfl, rfl⟩
        refine gO_ ?_
        refine wl_fx (fx_call_mk (spec := fun w' hw => rround_all t.evs.length sh (relOf t.evs.length (tsP t c)) w' (hw.lend (.head _))) (next := ?_))
        rintro v n7 es w7 ⟨pv, hpv, rfl, rfl⟩
        have hln := roundS_len t.evs.length (relOf t.evs.length (tsP t c)) (relOk_relOf _ _ hb)
        generalize hL2 : roundS t.evs.length (relOf t.evs.length (tsP t c)) = l at *
        refine gO_ ?_
        refine wl_fx (fx_call_mk (spec := fun w' hw => rarcs_spec t.evs.length t.evs.length t.evs.length t.evs.length t.evs.length t.evs.length t.evs.length t.evs.length t.evs.length t.evs.length t.evs.length s1 s2 s3 s4 s5 s6 s7 s8 s9 sf sp (relOf t.evs.length (poP t)) (relOf t.evs.length (plP t)) (relOf t.evs.length (rfP t c)) (relOf t.evs.length (exP t (rfP t c))) (relOf t.evs.length (coP t c)) (relOf t.evs.length (exP t (coP t c))) (relOf t.evs.length (frP t c)) (relOf t.evs.length (exP t (frP t c))) (relOf t.evs.length (cmP t c)) (relOf t.evs.length (fnP t)) (relOf t.evs.length (ppP t)) pv l w' (hw.lend (.head _)) (by omega) ⟨rfl, hw.lend (.tail _ (.tail _ (.tail _ (.tail _ (.tail _ (.tail _ (.tail _ (.head _)))))))), rfl, hw.lend (.tail _ (.tail _ (.tail _ (.tail _ (.tail _ (.tail _ (.tail _ (.tail _ (.head _))))))))), rfl, hw.lend (.tail _ (.tail _ (.tail _ (.tail _ (.tail _ (.tail _ (.tail _ (.tail _ (.tail _ (.head _)))))))))), rfl, hw.lend (.tail _ (.tail _ (.tail _ (.tail _ (.tail _ (.tail _ (.tail _ (.tail _ (.tail _ (.tail _ (.head _))))))))))), rfl, hw.lend (.tail _ (.tail _ (.tail _ (.tail _ (.tail _ (.tail _ (.tail _ (.tail _ (.tail _ (.tail _ (.tail _ (.head _)))))))))))), rfl, hw.lend (.tail _ (.tail _ (.tail _ (.tail _ (.tail _ (.tail _ (.tail _ (.tail _ (.tail _ (.tail _ (.tail _ (.tail _ (.head _))))))))))))), rfl, hw.lend (.tail _ (.tail _ (.tail _ (.tail _ (.tail _ (.tail _ (.tail _ (.tail _ (.tail _ (.tail _ (.tail _ (.tail _ (.tail _ (.head _)))))))))))))), rfl, hw.lend (.tail _ (.tail _ (.tail _ (.tail _ (.tail _ (.tail _ (.tail _ (.tail _ (.tail _ (.tail _ (.tail _ (.tail _ (.tail _ (.tail _ (.head _))))))))))))))), rfl, hw.lend (.tail _ (.tail _ (.tail _ (.tail _ (.tail _ (.tail _ (.tail _ (.tail _ (.tail _ (.tail _ (.tail _ (.tail _ (.tail _ (.tail _ (.tail _ (.head _)))))))))))))))), rfl, hw.lend (.tail _ (.tail _ (.tail _ (.head _)))), rfl, hw.lend (.tail _ (.tail _ (.tail _ (.tail _ (.tail _ (.head _)))))), trivial⟩) (next := ?_))
        rintro v n8 es w8 ⟨av', hav, rfl, rfl⟩
        refine gO_ ?_
        refine mk_ret Tryz.results35 (.tmp rfl (.tmp rfl .nil)) (.tail _ (.tail _ (.tail _ (.tail _ (.tail _ (.tail _ (.tail _ (.tail _ (.head _))))))))) [_] [0] rfl (by decide) fun w' hw => ?_
        unfold twhyE twhyL
        rw [if_pos h1, if_pos hco, if_neg hac, if_pos h1, if_pos hco, if_neg hac, hL2]
        exact ⟨av', hav, rfl, rfl⟩

end Go.Proofs.YtnplmhfjoemgdaaGreatDoor
