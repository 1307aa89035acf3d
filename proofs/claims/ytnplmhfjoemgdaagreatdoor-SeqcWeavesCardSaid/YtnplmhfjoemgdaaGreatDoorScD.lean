/- The walks: seqc.held, Consistent, Order, Why; alembicref18.Happens, Consistent; the law TsoWithin (printed by gen_sc.py). -/
import Derived.Test.YtnplmhfjoemgdaaGreatDoorTsF
import Derived.Test.YtnplmhfjoemgdaaGreatDoorScB
set_option linter.unusedSimpArgs false
set_option linter.unusedVariables false
namespace Go.Proofs.YtnplmhfjoemgdaaGreatDoor
open Go Go.Eng Go.Tc Go.Rl Go.Vw
attribute [local irreducible] wpList Code.wp bodyPost Exit.then Exit.inBlock Calls
theorem acy_roundE {t : Tr} (hb : t.evs.length ≤ 64) {p : Nat → Nat → Bool} : roundE t.evs.length (relOf t.evs.length p) = if acyP t p = true then 4 else 0 := by
  have ok := relOk_relOf t.evs.length p hb
  unfold roundE acyP acycS
  rw [if_pos ok, if_pos ok, Int.toNat_natCast]
  by_cases h : turnsL t.evs.length (relOf t.evs.length p) = true
  · rw [h, if_neg (fun q => by rw [(findR_turns ok).1 q] at h; cases h)]; rfl
  · rw [Bool.not_eq_true] at h
    rw [h, if_pos ((findR_turns ok).2 h)]; rfl
def sordE (t : Tr) (c : Cd) : Int := if cdE t c = 0 then if scB t c = true then 0 else 181 else cdE t c
def sordL (t : Tr) (c : Cd) : List Int := if scB t c = true then lineS t.evs.length (relOf t.evs.length (scP t c)) else []
def swhyE (t : Tr) (c : Cd) : Int := if cdE t c = 0 then if scB t c = true then 4 else arcsE (whyR t c) (roundS t.evs.length (relOf t.evs.length (scP t c))) else cdE t c
def swhyL (t : Tr) (c : Cd) : List Arc := if cdE t c = 0 then if scB t c = true then [] else arcsL (whyR t c) (roundS t.evs.length (relOf t.evs.length (scP t c))) else []
theorem scB_ok {t : Tr} {c : Cd} (h : cdE t c = 0) : scB t c = acyP t (scP t c) := by unfold scB; rw [if_pos h]
theorem scB_bad {t : Tr} {c : Cd} (h : ¬ cdE t c = 0) : scB t c = false := by unfold scB; rw [if_neg h]

set_option maxHeartbeats 3200000 in
theorem sheld_no {lv iv ev bv av dv cv tv nv : Value} {t : Tr} (fv ov : Value) (c : Cd) (w : World) (h : TrIn All w lv iv ev bv av dv cv tv nv t) (hc : CdIn All w fv ov c) (hT : Tab w) (hz : ¬ cdE t c = 0) :
    Pur Tryz.prog 59 [.agg #[lv, iv, ev, bv, av, dv, cv, tv, nv], .agg #[fv, ov]] w fun _ v _ => v = .tuple #[.agg #[.int .i64 0, .slice none 0 0, .int .i64 0, .slice none 0 0, .int .i64 0, .slice none 0 0, .int .i64 0, .slice none 0 0, .int .i64 0, .slice none 0 0, .int .i64 0, .slice none 0 0, .int .i64 0, .slice none 0 0, .int .i64 0, .slice none 0 0, .int .i64 0, .slice none 0 0], .agg #[.int .i64 0, .slice none 0 0], .int .i64 (cdE t c)] := by
  have hfs := hc.rf.sv
  have hos := hc.cosv
  have g1 := h.locs.sv; have g2 := h.init.sv; have g3 := h.evs.sv; have g4 := h.bars.sv; have g5 := h.addr.sv; have g6 := h.data.sv; have g7 := h.ctrl.sv; have g8 := h.things.sv; have g9 := h.ends.sv
  refine enter_pur Tryz.func59 Tryz.ntmps59 rfl rfl ?_
  refine gO_ ?_
  refine wl_fx (fx_box (next := ?_)); intro bT
  refine gO_ ?_
  refine wl_fx (fx_box (next := ?_)); intro bC
  refine gO_ ?_
  refine wl_fx (fx_alloc (next := ?_)); intro b4
  refine gO_ ?_
  refine wl_fx (fx_alloc (next := ?_)); intro b5
  refine gO_ ?_
  refine wl_fx (fx_call (spec := fun w' hw => ccheck_spec fv ov c w' (h.now hw (.head _)) (hc.now hw (.head _))) (next := ?_))
  rintro v n1 w1 rfl hn1
  refine gO_ ?_
  refine wc_cond rfl (fun h1 => ?_) (fun h1 => ?_)
  · refine gO_ ?_
    refine wl_fx (fx_store_box (i := 1) (hi := rfl) (next := ?_))
    refine gO_ ?_
    refine wl_fx (fx_store_box (i := 0) (hi := rfl) (next := ?_))
    refine gO_ ?_
    refine pur_ret Tryz.results59 (.cellN inferInstance rfl (.tail _ (.head _)) rfl (.cellN inferInstance rfl (.head _) rfl (.tmp rfl .nil))) (.tail _ (.head _)) fun w' hw => ?_
    rfl
  · rw [Bool.not_eq_false', dc_true] at h1
    exact absurd h1 hz

set_option maxHeartbeats 6400000 in
theorem sheld_ok {lv iv ev bv av dv cv tv nv : Value} {t : Tr} (fv ov : Value) (c : Cd) (w : World) (h : TrIn All w lv iv ev bv av dv cv tv nv t) (hc : CdIn All w fv ov c) (hT : Tab w) (hz : cdE t c = 0) :
    Mk Tryz.prog 59 [.agg #[lv, iv, ev, bv, av, dv, cv, tv, nv], .agg #[fv, ov]] w fun _ v es _ => ∃ s1 s2 s3 s4 s5 s6 s7 s8 s9 sh, (SV s1 ∧ SV s2 ∧ SV s3 ∧ SV s4 ∧ SV s5 ∧ SV s6 ∧ SV s7 ∧ SV s8 ∧ SV s9) ∧ SV sh ∧ v = .tuple #[.agg #[.int .i64 t.evs.length, s1, .int .i64 t.evs.length, s2, .int .i64 t.evs.length, s3, .int .i64 t.evs.length, s4, .int .i64 t.evs.length, s5, .int .i64 t.evs.length, s6, .int .i64 t.evs.length, s7, .int .i64 t.evs.length, s8, .int .i64 t.evs.length, s9], .agg #[.int .i64 t.evs.length, sh], .int .i64 0] ∧ es = [ownW s1 (relOf t.evs.length (poP t)), ownW s2 (relOf t.evs.length (plP t)), ownW s3 (relOf t.evs.length (rfP t c)), ownW s4 (relOf t.evs.length (exP t (rfP t c))), ownW s5 (relOf t.evs.length (coP t c)), ownW s6 (relOf t.evs.length (exP t (coP t c))), ownW s7 (relOf t.evs.length (frP t c)), ownW s8 (relOf t.evs.length (exP t (frP t c))), ownW s9 (relOf t.evs.length (cmP t c)), ownW sh (relOf t.evs.length (scP t c))] := by
  have hfs := hc.rf.sv
  have hos := hc.cosv
  have g1 := h.locs.sv; have g2 := h.init.sv; have g3 := h.evs.sv; have g4 := h.bars.sv; have g5 := h.addr.sv; have g6 := h.data.sv; have g7 := h.ctrl.sv; have g8 := h.things.sv; have g9 := h.ends.sv
  refine enter_mk Tryz.func59 Tryz.ntmps59 rfl rfl ?_
  refine gO_ ?_
  refine wl_fx (fx_box (next := ?_)); intro bT
  refine gO_ ?_
  refine wl_fx (fx_box (next := ?_)); intro bC
  refine gO_ ?_
  refine wl_fx (fx_alloc (next := ?_)); intro b4
  refine gO_ ?_
  refine wl_fx (fx_alloc (next := ?_)); intro b5
  refine gO_ ?_
  have hb := (trOk_lens (cdE_ok hz).1).1
  refine wl_fx (fx_call (spec := fun w' hw => ccheck_spec fv ov c w' (h.now hw (.head _)) (hc.now hw (.head _))) (next := ?_))
  rintro v n1 w1 rfl hn1
  refine gO_ ?_
  refine wc_cond rfl (fun h1 => ?_) (fun h1 => ?_)
  · rw [Bool.not_eq_true', dc_false] at h1
    exact absurd hz h1
  · refine gO_ ?_
    refine wl_fx (fx_call_mk (spec := fun w' hw => vof_spec fv ov c w' (h.now hw (.tail _ (.head _))) (hc.now hw (.tail _ (.head _))) (hT.now hw (.tail _ (.head _)))) (next := ?_))
    rintro v n2 es w2 ⟨s1, s2, s3, s4, s5, s6, s7, s8, s9, ⟨hs1, hs2, hs3, hs4, hs5, hs6, hs7, hs8, hs9⟩, rfl, rfl⟩
    rw [vwOf_ok hz, hz]
    refine gO_ ?_
    refine wl_fx (fx_alloc (next := ?_)); intro b8
    refine gO_ ?_
    refine wl_fx (fx_store_box (i := 0) (hi := rfl) (next := ?_))
    refine gO_ ?_
    refine wc_cond rfl (fun h2 => ?_) (fun h2 => ?_)
    · rw [Bool.not_eq_true', dc_false] at h2
      exact absurd rfl h2
    · clear h2
      refine gO_ ?_
      refine wl_fx (fx_call_mk (spec := fun w' hw => union_ok (relOk_relOf _ (poP t) hb) (relOk_relOf _ (cmP t c) hb) (hw.lend (.tail _ (.head _))) (hw.lend (.tail _ (.tail _ (.tail _ (.tail _ (.tail _ (.tail _ (.tail _ (.tail _ (.tail _ (.head _)))))))))))) (next := ?_))
      rintro v n3 es w3 ⟨sh, hsh, rfl, rfl⟩
      rw [relOf_uni hb]
      refine gO_ ?_
      refine wl_fx (fx_alloc (next := ?_)); intro b10
      refine gO_ ?_
      refine wl_fx (fx_store_box (i := 0) (hi := rfl) (next := ?_))
      refine gO_ ?_
      refine wc_drawS (Mem [(w, All)] [.box b10 [.int .i64 t.evs.length, sh] 33, .box b8 [.int .i64 t.evs.length, s1, .int .i64 t.evs.length, s2, .int .i64 t.evs.length, s3, .int .i64 t.evs.length, s4, .int .i64 t.evs.length, s5, .int .i64 t.evs.length, s6, .int .i64 t.evs.length, s7, .int .i64 t.evs.length, s8, .int .i64 t.evs.length, s9] 78]) [0, 1, 2, 3, 4, 5] mixed (fun _ h => (h.last rfl).sel [0, 2] rfl (by decide)) ?_
      refine kG_ ?_
      refine kg_f _ (h := fx_store_box (i := 13) (hi := rfl) (next := ?_)) (hSS := fun _ h => h)
      refine kp_S ?_ (fun _ h => (h.last rfl).sel [0, 2] rfl (by decide))
      refine kG_ ?_
      refine kg_f _ (h := fx_store_box (i := 12) (hi := rfl) (next := ?_)) (hSS := fun _ h => h)
      refine kp_S ?_ (fun _ h => (h.last rfl).sel [0, 2] rfl (by decide))
      refine kG_ ?_
      refine gO_ ?_
      refine mk_ret Tryz.results59 (.cellN inferInstance rfl (.tail _ (.tail _ (.tail _ (.tail _ (.tail _ (.tail _ (.tail _ (.tail _ (.tail _ (.tail _ (.tail _ (.tail _ (.tail _ (.head _)))))))))))))) rfl (.cellN inferInstance rfl (.tail _ (.tail _ (.tail _ (.tail _ (.tail _ (.tail _ (.tail _ (.tail _ (.tail _ (.tail _ (.tail _ (.tail _ (.head _))))))))))))) rfl (.tmp rfl .nil))) (.tail _ (.tail _ (.tail _ (.head _)))) [_, _, _, _, _, _, _, _, _, _] [3, 4, 5, 6, 7, 8, 9, 10, 11, 1] rfl (by decide) fun w' hw => ?_
      exact ⟨s1, s2, s3, s4, s5, s6, s7, s8, s9, sh, ⟨hs1, hs2, hs3, hs4, hs5, hs6, hs7, hs8, hs9⟩, hsh, rfl, rfl⟩

set_option maxHeartbeats 3200000 in
theorem scons_spec {lv iv ev bv av dv cv tv nv : Value} {t : Tr} (fv ov : Value) (c : Cd) (w : World) (h : TrIn All w lv iv ev bv av dv cv tv nv t) (hc : CdIn All w fv ov c) (hT : Tab w) :
    Pur Tryz.prog 19 [.agg #[lv, iv, ev, bv, av, dv, cv, tv, nv], .agg #[fv, ov]] w fun _ v _ => v = .tuple #[.bool (scB t c), .int .i64 (cdE t c)] := by
  have hfs := hc.rf.sv
  have hos := hc.cosv
  have g1 := h.locs.sv; have g2 := h.init.sv; have g3 := h.evs.sv; have g4 := h.bars.sv; have g5 := h.addr.sv; have g6 := h.data.sv; have g7 := h.ctrl.sv; have g8 := h.things.sv; have g9 := h.ends.sv
  refine enter_pur Tryz.func19 Tryz.ntmps19 rfl rfl ?_
  refine gO_ ?_
  refine wl_fx (fx_box (next := ?_)); intro bT
  refine gO_ ?_
  refine wl_fx (fx_box (next := ?_)); intro bC
  refine gO_ ?_
  by_cases hz : cdE t c = 0
  · have hb := (trOk_lens (cdE_ok hz).1).1
    refine wl_fx (fx_call_mk (spec := fun w' hw => sheld_ok fv ov c w' (h.now hw (.head _)) (hc.now hw (.head _)) (hT.now hw (.head _)) hz) (next := ?_))
    rintro v n1 es w1 ⟨s1, s2, s3, s4, s5, s6, s7, s8, s9, sh, ⟨hs1, hs2, hs3, hs4, hs5, hs6, hs7, hs8, hs9⟩, hsh, rfl, rfl⟩
    refine gO_ ?_
    refine wl_fx (fx_alloc (next := ?_)); intro b6
    refine gO_ ?_
    refine wl_fx (fx_alloc (next := ?_)); intro b7
    refine gO_ ?_
    refine wl_fx (fx_store_box (i := 1) (hi := rfl) (next := ?_))
    refine gO_ ?_
    refine wl_fx (fx_store_box (i := 0) (hi := rfl) (next := ?_))
    refine gO_ ?_
    refine wc_cond rfl (fun h1 => ?_) (fun h1 => ?_)
    · rw [Bool.not_eq_true', dc_false] at h1
      exact absurd rfl h1
    · clear h1
      refine gO_ ?_
      refine wl_fx (fx_call (spec := fun w' hw => acyclic_spec t.evs.length sh (relOf t.evs.length (scP t c)) w' (hw.lend (.tail _ (.tail _ (.tail _ (.tail _ (.tail _ (.tail _ (.tail _ (.tail _ (.tail _ (.tail _ (.tail _ (.head _)))))))))))))) (next := ?_))
      rintro v n2 w2 rfl hn2
      refine gO_ ?_
      refine pur_ret Tryz.results19 (.tmp rfl (.tmp rfl .nil)) (.tail _ (.tail _ (.head _))) fun w' hw => ?_
      rw [scB_ok hz, hz, relOk_relOf _ _ hb]; rfl
  · refine wl_fx (fx_call (spec := fun w' hw => sheld_no fv ov c w' (h.now hw (.head _)) (hc.now hw (.head _)) (hT.now hw (.head _)) hz) (next := ?_))
    rintro v n1 w1 rfl hn1
    refine gO_ ?_
    refine wl_fx (fx_alloc (next := ?_)); intro b6
    refine gO_ ?_
    refine wl_fx (fx_alloc (next := ?_)); intro b7
    refine gO_ ?_
    refine wl_fx (fx_store_box (i := 1) (hi := rfl) (next := ?_))
    refine gO_ ?_
    refine wl_fx (fx_store_box (i := 0) (hi := rfl) (next := ?_))
    refine gO_ ?_
    refine wc_cond rfl (fun h1 => ?_) (fun h1 => ?_)
    · refine gO_ ?_
      refine pur_ret Tryz.results19 (.tmp rfl (.tmp rfl .nil)) (.tail _ (.head _)) fun w' hw => ?_
      rw [scB_bad hz]; rfl
    · rw [Bool.not_eq_false', dc_true] at h1
      exact absurd h1 hz

set_option maxHeartbeats 3200000 in
theorem sord_spec {lv iv ev bv av dv cv tv nv : Value} {t : Tr} (fv ov : Value) (c : Cd) (w : World) (h : TrIn All w lv iv ev bv av dv cv tv nv t) (hc : CdIn All w fv ov c) (hT : Tab w) :
    Mk Tryz.prog 23 [.agg #[lv, iv, ev, bv, av, dv, cv, tv, nv], .agg #[fv, ov]] w (IntsΨ (sordL t c) (sordE t c)) := by
  have hfs := hc.rf.sv
  have hos := hc.cosv
  have g1 := h.locs.sv; have g2 := h.init.sv; have g3 := h.evs.sv; have g4 := h.bars.sv; have g5 := h.addr.sv; have g6 := h.data.sv; have g7 := h.ctrl.sv; have g8 := h.things.sv; have g9 := h.ends.sv
  refine enter_mk Tryz.func23 Tryz.ntmps23 rfl rfl ?_
  refine gO_ ?_
  refine wl_fx (fx_box (next := ?_)); intro bT
  refine gO_ ?_
  refine wl_fx (fx_box (next := ?_)); intro bC
  refine gO_ ?_
  by_cases hz : cdE t c = 0
  · have hb := (trOk_lens (cdE_ok hz).1).1
    refine wl_fx (fx_call_mk (spec := fun w' hw => sheld_ok fv ov c w' (h.now hw (.head _)) (hc.now hw (.head _)) (hT.now hw (.head _)) hz) (next := ?_))
    rintro v n1 es w1 ⟨s1, s2, s3, s4, s5, s6, s7, s8, s9, sh, ⟨hs1, hs2, hs3, hs4, hs5, hs6, hs7, hs8, hs9⟩, hsh, rfl, rfl⟩
    refine gO_ ?_
    refine wl_fx (fx_alloc (next := ?_)); intro b6
    refine gO_ ?_
    refine wl_fx (fx_alloc (next := ?_)); intro b7
    refine gO_ ?_
    refine wl_fx (fx_store_box (i := 1) (hi := rfl) (next := ?_))
    refine gO_ ?_
    refine wl_fx (fx_store_box (i := 0) (hi := rfl) (next := ?_))
    refine gO_ ?_
    refine wc_cond rfl (fun h1 => ?_) (fun h1 => ?_)
    · rw [Bool.not_eq_true', dc_false] at h1
      exact absurd rfl h1
    · clear h1
      refine gO_ ?_
      refine wl_fx (fx_call_mk (spec := fun w' hw => line_all t.evs.length sh (relOf t.evs.length (scP t c)) w' (hw.lend (.tail _ (.tail _ (.tail _ (.tail _ (.tail _ (.tail _ (.tail _ (.tail _ (.tail _ (.tail _ (.tail _ (.head _)))))))))))))) (next := ?_))
      rintro v n2 es w2 ⟨pv, hpv, rfl, rfl⟩
      by_cases hs : scB t c = true
      · have hl := (line_free hb (by rw [← scB_ok hz]; exact hs)).1
        rw [hl]
        refine gO_ ?_
        refine wc_cond rfl (fun h2 => ?_) (fun h2 => ?_)
        · rw [Bool.not_eq_true', dc_false] at h2
          exact absurd rfl h2
        · refine gO_ ?_
          refine mk_ret Tryz.results23 (.tmp rfl (.tmp rfl .nil)) (.tail _ (.tail _ (.head _))) [_] [0] rfl (by decide) fun w' hw => ?_
          unfold sordE sordL
          rw [if_pos hz, if_pos hs, if_pos hs]
          exact ⟨pv, hpv, rfl, rfl⟩
      · have hl := (line_turned (p := scP t c) hb (by rw [← scB_ok hz]; simpa using hs)).1
        rw [hl]
        refine gO_ ?_
        refine wc_cond rfl (fun h2 => ?_) (fun h2 => ?_)
        · refine gO_ ?_
          refine kp_nil 3 1 Eng.encI ?_
          refine mk_ret Tryz.results23 (.tmp rfl (.tmp rfl .nil)) (.tail _ (.tail _ (.head _))) [_] [0] rfl (by decide) fun w' hw => ?_
          unfold sordE sordL
          rw [if_pos hz, if_neg hs, if_neg hs]
          exact ⟨_, sv_nil, rfl, rfl⟩
        · rw [Bool.not_eq_false', dc_true] at h2
          omega
  · refine wl_fx (fx_call (spec := fun w' hw => sheld_no fv ov c w' (h.now hw (.head _)) (hc.now hw (.head _)) (hT.now hw (.head _)) hz) (next := ?_))
    rintro v n1 w1 rfl hn1
    refine gO_ ?_
    refine wl_fx (fx_alloc (next := ?_)); intro b6
    refine gO_ ?_
    refine wl_fx (fx_alloc (next := ?_)); intro b7
    refine gO_ ?_
    refine wl_fx (fx_store_box (i := 1) (hi := rfl) (next := ?_))
    refine gO_ ?_
    refine wl_fx (fx_store_box (i := 0) (hi := rfl) (next := ?_))
    refine gO_ ?_
    refine wc_cond rfl (fun h1 => ?_) (fun h1 => ?_)
    · refine gO_ ?_
      refine kp_nil 3 1 Eng.encI ?_
      refine mk_ret Tryz.results23 (.tmp rfl (.tmp rfl .nil)) (.tail _ (.head _)) [_] [0] rfl (by decide) fun w' hw => ?_
      unfold sordE sordL
      rw [if_neg hz, if_neg (by rw [scB_bad hz]; simp)]
      exact ⟨_, sv_nil, rfl, rfl⟩
    · rw [Bool.not_eq_false', dc_true] at h1
      exact absurd h1 hz

set_option maxRecDepth 8000 in
set_option maxHeartbeats 12800000 in
theorem swhy_spec {lv iv ev bv av dv cv tv nv : Value} {t : Tr} (fv ov : Value) (c : Cd) (w : World) (h : TrIn All w lv iv ev bv av dv cv tv nv t) (hc : CdIn All w fv ov c) (hT : Tab w) :
    Mk Tryz.prog 24 [.agg #[lv, iv, ev, bv, av, dv, cv, tv, nv], .agg #[fv, ov]] w (ArcsΨ (swhyE t c) (swhyL t c)) := by
  have hE := h.evs; have hEl := hE.le
  have hfs := hc.rf.sv
  have hos := hc.cosv
  have g1 := h.locs.sv; have g2 := h.init.sv; have g3 := h.evs.sv; have g4 := h.bars.sv; have g5 := h.addr.sv; have g6 := h.data.sv; have g7 := h.ctrl.sv; have g8 := h.things.sv; have g9 := h.ends.sv
  refine enter_mk Tryz.func24 Tryz.ntmps24 rfl rfl ?_
  refine gO_ ?_
  refine wl_fx (fx_box (next := ?_)); intro bT
  refine gO_ ?_
  refine wl_fx (fx_box (next := ?_)); intro bC
  refine gO_ ?_
  by_cases hz : cdE t c = 0
  · have hb := (trOk_lens (cdE_ok hz).1).1
    refine wl_fx (fx_call_mk (spec := fun w' hw => sheld_ok fv ov c w' (h.now hw (.head _)) (hc.now hw (.head _)) (hT.now hw (.head _)) hz) (next := ?_))
    rintro v n1 es w1 ⟨s1, s2, s3, s4, s5, s6, s7, s8, s9, sh, ⟨hs1, hs2, hs3, hs4, hs5, hs6, hs7, hs8, hs9⟩, hsh, rfl, rfl⟩
    refine gO_ ?_
    refine wl_fx (fx_alloc (next := ?_)); intro b6
    refine gO_ ?_
    refine wl_fx (fx_alloc (next := ?_)); intro b7
    refine gO_ ?_
    refine wl_fx (fx_store_box (i := 1) (hi := rfl) (next := ?_))
    refine gO_ ?_
    refine wl_fx (fx_store_box (i := 0) (hi := rfl) (next := ?_))
    refine gO_ ?_
    refine wc_cond rfl (fun h1 => ?_) (fun h1 => ?_)
    · rw [Bool.not_eq_true', dc_false] at h1
      exact absurd rfl h1
    · clear h1
      refine gO_ ?_
      refine wl_fx (fx_call_mk (spec := fun w' hw => round_all t.evs.length sh (relOf t.evs.length (scP t c)) w' (hw.lend (.tail _ (.tail _ (.tail _ (.tail _ (.tail _ (.tail _ (.tail _ (.tail _ (.tail _ (.tail _ (.tail _ (.head _)))))))))))))) (next := ?_))
      rintro v n2 es w2 ⟨pv, hpv, rfl, rfl⟩
      rw [acy_roundE hb, ← scB_ok hz]
      have hln := roundS_len t.evs.length (relOf t.evs.length (scP t c)) (relOk_relOf _ _ hb)
      generalize hL2 : roundS t.evs.length (relOf t.evs.length (scP t c)) = l at *
      by_cases hs : scB t c = true
      · rw [if_pos hs]
        refine gO_ ?_
        refine wc_cond rfl (fun h2 => ?_) (fun h2 => ?_)
        · refine gO_ ?_
          refine kp_nil 62 3 encArc ?_
          refine mk_ret Tryz.results24 (.tmp rfl (.tmp rfl .nil)) (.tail _ (.tail _ (.head _))) [_] [0] rfl (by decide) fun w' hw => ?_
          unfold swhyE swhyL
          rw [if_pos hz, if_pos hs, if_pos hz, if_pos hs]
          exact ⟨_, sv_nil, rfl, rfl⟩
        · rw [Bool.not_eq_false', dc_true] at h2
          omega
      · rw [if_neg hs]
        refine gO_ ?_
        refine wc_cond rfl (fun h2 => ?_) (fun h2 => ?_)
        · rw [Bool.not_eq_true', dc_false] at h2
          exact absurd rfl h2
        · refine gO_ ?_
          refine wl_fx (fx_call_mk (spec := fun w' hw => of_ok hb (.slice none 0 0) [] w' (sl_nil _ _) (fun x hx => by cases hx)) (next := ?_))
          rintro v n4 es w4 ⟨sz, hsz, rfl, rfl⟩
          rw [show relOf t.evs.length (memb []) = List.replicate t.evs.length 0#64 by rw [← relOf_zero]; exact relOf_ext fun a b _ _ => rfl]
          refine gO_ ?_
          refine wl_fx (fx_alloc (next := ?_)); intro b10
          refine gO_ ?_
          refine wl_fx (fx_store_box (i := 0) (hi := rfl) (next := ?_))
          refine gO_ ?_
          refine wl_fx (fx_call_mk (spec := fun w' hw => varcs_spec t.evs.length t.evs.length t.evs.length t.evs.length t.evs.length t.evs.length t.evs.length t.evs.length t.evs.length t.evs.length t.evs.length s1 s2 s3 s4 s5 s6 s7 s8 s9 sz sz (relOf t.evs.length (poP t)) (relOf t.evs.length (plP t)) (relOf t.evs.length (rfP t c)) (relOf t.evs.length (exP t (rfP t c))) (relOf t.evs.length (coP t c)) (relOf t.evs.length (exP t (coP t c))) (relOf t.evs.length (frP t c)) (relOf t.evs.length (exP t (frP t c))) (relOf t.evs.length (cmP t c)) (List.replicate t.evs.length 0#64) (List.replicate t.evs.length 0#64) pv l w' (hw.lend (.tail _ (.tail _ (.head _)))) (by omega) ⟨rfl, hw.lend (.tail _ (.tail _ (.tail _ (.tail _ (.tail _ (.head _)))))), rfl, hw.lend (.tail _ (.tail _ (.tail _ (.tail _ (.tail _ (.tail _ (.head _))))))), rfl, hw.lend (.tail _ (.tail _ (.tail _ (.tail _ (.tail _ (.tail _ (.tail _ (.head _)))))))), rfl, hw.lend (.tail _ (.tail _ (.tail _ (.tail _ (.tail _ (.tail _ (.tail _ (.tail _ (.head _))))))))), rfl, hw.lend (.tail _ (.tail _ (.tail _ (.tail _ (.tail _ (.tail _ (.tail _ (.tail _ (.tail _ (.head _)))))))))), rfl, hw.lend (.tail _ (.tail _ (.tail _ (.tail _ (.tail _ (.tail _ (.tail _ (.tail _ (.tail _ (.tail _ (.head _))))))))))), rfl, hw.lend (.tail _ (.tail _ (.tail _ (.tail _ (.tail _ (.tail _ (.tail _ (.tail _ (.tail _ (.tail _ (.tail _ (.head _)))))))))))), rfl, hw.lend (.tail _ (.tail _ (.tail _ (.tail _ (.tail _ (.tail _ (.tail _ (.tail _ (.tail _ (.tail _ (.tail _ (.tail _ (.head _))))))))))))), rfl, hw.lend (.tail _ (.tail _ (.tail _ (.tail _ (.tail _ (.tail _ (.tail _ (.tail _ (.tail _ (.tail _ (.tail _ (.tail _ (.tail _ (.head _)))))))))))))), rfl, hw.lend (.tail _ (.head _)), rfl, hw.lend (.tail _ (.head _)), trivial⟩) (next := ?_))
          rintro v n5 es w5 ⟨av', hav, rfl, rfl⟩
          refine gO_ ?_
          refine mk_ret Tryz.results24 (.tmp rfl (.tmp rfl .nil)) (.tail _ (.tail _ (.tail _ (.tail _ (.head _))))) [_] [0] rfl (by decide) fun w' hw => ?_
          unfold swhyE swhyL
          rw [if_pos hz, if_neg hs, if_pos hz, if_neg hs, hL2]
          exact ⟨av', hav, rfl, rfl⟩
  · refine wl_fx (fx_call (spec := fun w' hw => sheld_no fv ov c w' (h.now hw (.head _)) (hc.now hw (.head _)) (hT.now hw (.head _)) hz) (next := ?_))
    rintro v n1 w1 rfl hn1
    refine gO_ ?_
    refine wl_fx (fx_alloc (next := ?_)); intro b6
    refine gO_ ?_
    refine wl_fx (fx_alloc (next := ?_)); intro b7
    refine gO_ ?_
    refine wl_fx (fx_store_box (i := 1) (hi := rfl) (next := ?_))
    refine gO_ ?_
    refine wl_fx (fx_store_box (i := 0) (hi := rfl) (next := ?_))
    refine gO_ ?_
    refine wc_cond rfl (fun h1 => ?_) (fun h1 => ?_)
    · refine gO_ ?_
      refine kp_nil 62 3 encArc ?_
      refine mk_ret Tryz.results24 (.tmp rfl (.tmp rfl .nil)) (.tail _ (.head _)) [_] [0] rfl (by decide) fun w' hw => ?_
      unfold swhyE swhyL
      rw [if_neg hz, if_neg hz]
      exact ⟨_, sv_nil, rfl, rfl⟩
    · rw [Bool.not_eq_false', dc_true] at h1
      exact absurd h1 hz

set_option maxHeartbeats 3200000 in
theorem rhapp18_spec {t : Tr} (c : Cd) (s1 s2 s3 s4 s5 s6 s7 s8 s9 : Value) (w : World) (hb : t.evs.length ≤ 64) (r1 : Sl All w encW 1 s1 (relOf t.evs.length (poP t))) (r9 : Sl All w encW 1 s9 (relOf t.evs.length (cmP t c))) (hs1 : SV s1) (hs2 : SV s2) (hs3 : SV s3) (hs4 : SV s4) (hs5 : SV s5) (hs6 : SV s6) (hs7 : SV s7) (hs8 : SV s8) (hs9 : SV s9) :
    Mk Tryz.prog 61 [.agg #[.int .i64 t.evs.length, s1, .int .i64 t.evs.length, s2, .int .i64 t.evs.length, s3, .int .i64 t.evs.length, s4, .int .i64 t.evs.length, s5, .int .i64 t.evs.length, s6, .int .i64 t.evs.length, s7, .int .i64 t.evs.length, s8, .int .i64 t.evs.length, s9]] w (Rel1Ψ t.evs.length (relOf t.evs.length (scP t c))) := by
  refine enter_mk Tryz.func61 Tryz.ntmps61 rfl rfl ?_
  refine gO_ ?_
  refine wl_fx (fx_box (next := ?_)); intro bv
  refine gO_ ?_
  refine wl_fx (fx_alloc (next := ?_)); intro b2
  refine gO_ ?_
  refine wl_fx (fx_call_mk (spec := fun w' hw => runion_ok (relOk_relOf _ (poP t) hb) (relOk_relOf _ (cmP t c) hb) (hw.now r1 (.head _)) (hw.now r9 (.head _))) (next := ?_))
  rintro v n1 es w1 ⟨s, hs, rfl, rfl⟩
  rw [relOf_uni hb]
  refine gO_ ?_
  refine wl_fx (fx_alloc (next := ?_)); intro b3
  refine gO_ ?_
  refine wl_fx (fx_store_box (i := 0) (hi := rfl) (next := ?_))
  refine gO_ ?_
  refine wl_fx (fx_store_box (i := 2) (hi := rfl) (next := ?_))
  refine gO_ ?_
  exact mk_ret Tryz.results61 (.cellN inferInstance rfl (.tail _ (.tail _ (.head _))) rfl .nil) (.tail _ (.head _)) [_] [1] rfl (by decide) fun w' hw => ⟨s, hs, rfl, rfl⟩

set_option maxHeartbeats 3200000 in
theorem rcons18_spec {lv iv ev bv av dv cv tv nv : Value} {t : Tr} (fv ov : Value) (c : Cd) (w : World) (h : TrIn All w lv iv ev bv av dv cv tv nv t) (hc : CdIn All w fv ov c) :
    Pur Tryz.prog 20 [.agg #[lv, iv, ev, bv, av, dv, cv, tv, nv], .agg #[fv, ov]] w fun _ v _ => v = .tuple #[.bool (scB t c), .int .i64 (cdE t c)] := by
  have hfs := hc.rf.sv
  have hos := hc.cosv
  have g1 := h.locs.sv; have g2 := h.init.sv; have g3 := h.evs.sv; have g4 := h.bars.sv; have g5 := h.addr.sv; have g6 := h.data.sv; have g7 := h.ctrl.sv; have g8 := h.things.sv; have g9 := h.ends.sv
  refine enter_pur Tryz.func20 Tryz.ntmps20 rfl rfl ?_
  refine gO_ ?_
  refine wl_fx (fx_box (next := ?_)); intro bT
  refine gO_ ?_
  refine wl_fx (fx_box (next := ?_)); intro bC
  refine gO_ ?_
  refine wl_fx (fx_call (spec := fun w' hw => rCheck_spec fv ov c w' (h.now hw (.head _)) (hc.now hw (.head _))) (next := ?_))
  rintro v n1 w1 rfl hn1
  refine gO_ ?_
  refine wc_cond rfl (fun h1 => ?_) (fun h1 => ?_)
  · rw [Bool.not_eq_true', dc_false] at h1
    refine gO_ ?_
    refine pur_ret Tryz.results20 (.tmp rfl (.tmp rfl .nil)) (.tail _ (.head _)) fun w' hw => ?_
    rw [scB_bad h1]; rfl
  · rw [Bool.not_eq_false', dc_true] at h1
    have hb := (trOk_lens (cdE_ok h1).1).1
    refine gO_ ?_
    refine wl_fx (fx_call_mk (spec := fun w' hw => rvof_spec fv ov c w' (h.now hw (.tail _ (.head _))) (hc.now hw (.tail _ (.head _)))) (next := ?_))
    rintro v n2 es w2 ⟨s1, s2, s3, s4, s5, s6, s7, s8, s9, ⟨hs1, hs2, hs3, hs4, hs5, hs6, hs7, hs8, hs9⟩, rfl, rfl⟩
    rw [vwOf_ok h1]
    refine gO_ ?_
    refine wl_fx (fx_alloc (next := ?_)); intro b7
    refine gO_ ?_
    refine wl_fx (fx_store_box (i := 0) (hi := rfl) (next := ?_))
    refine gO_ ?_
    refine wl_fx (fx_call_mk (spec := fun w' hw => rhapp18_spec c s1 s2 s3 s4 s5 s6 s7 s8 s9 w' hb (hw.lend (.tail _ (.head _))) (hw.lend (.tail _ (.tail _ (.tail _ (.tail _ (.tail _ (.tail _ (.tail _ (.tail _ (.tail _ (.head _))))))))))) hs1 hs2 hs3 hs4 hs5 hs6 hs7 hs8 hs9) (next := ?_))
    rintro v n3 es w3 ⟨sh, hsh, rfl, rfl⟩
    refine gO_ ?_
    refine wl_fx (fx_call (spec := fun w' hw => racyclic_spec t.evs.length sh (relOf t.evs.length (scP t c)) w' (hw.lend (.head _))) (next := ?_))
    rintro v n4 w4 rfl hn4
    refine gO_ ?_
    refine pur_ret Tryz.results20 (.tmp rfl (.tmp rfl .nil)) (.tail _ (.tail _ (.tail _ (.tail _ (.head _))))) fun w' hw => ?_
    rw [scB_ok h1, h1]; rfl

set_option maxHeartbeats 3200000 in
theorem tsoWithin_spec {lv iv ev bv av dv cv tv nv : Value} {t : Tr} (fv ov : Value) (c : Cd) (w : World) (h : TrIn All w lv iv ev bv av dv cv tv nv t) (hc : CdIn All w fv ov c) (hT : Tab w) :
    Pur Tryz.prog 5 [.agg #[lv, iv, ev, bv, av, dv, cv, tv, nv], .agg #[fv, ov]] w fun _ v _ => v = .bool true := by
  have hfs := hc.rf.sv
  have hos := hc.cosv
  have g1 := h.locs.sv; have g2 := h.init.sv; have g3 := h.evs.sv; have g4 := h.bars.sv; have g5 := h.addr.sv; have g6 := h.data.sv; have g7 := h.ctrl.sv; have g8 := h.things.sv; have g9 := h.ends.sv
  refine enter_pur Tryz.func5 Tryz.ntmps5 rfl rfl ?_
  refine gO_ ?_
  refine wl_fx (fx_box (next := ?_)); intro bT
  refine gO_ ?_
  refine wl_fx (fx_box (next := ?_)); intro bC
  refine gO_ ?_
  refine wl_fx (fx_call (spec := fun w' hw => scons_spec fv ov c w' (h.now hw (.head _)) (hc.now hw (.head _)) (hT.now hw (.head _))) (next := ?_))
  rintro v n1 w1 rfl hn1
  refine gO_ ?_
  refine wl_fx (fx_call (spec := fun w' hw => tcons_spec fv ov c w' (h.now hw (.tail _ (.head _))) (hc.now hw (.tail _ (.head _))) (hT.now hw (.tail _ (.head _)))) (next := ?_))
  rintro v n2 w2 rfl hn2
  refine gO_ ?_
  refine wl_fx (fx_call (spec := fun w' hw => rcons18_spec fv ov c w' (h.now hw (.tail _ (.tail _ (.head _)))) (hc.now hw (.tail _ (.tail _ (.head _))))) (next := ?_))
  rintro v n3 w3 rfl hn3
  refine gO_ ?_
  refine wl_gx (h := gx_call (spec := fun _ w' hw => tawake_spec w' (hT.now hw (.tail _ (.tail _ (.tail _ (.head _))))))) (next := ?_)
  refine gO_ ?_
  refine pur_ret Tryz.results5 (.tmp rfl .nil) (.tail _ (.tail _ (.tail _ (.head _)))) fun w' hw => ?_
  have hst : (!scB t c || tsB t c) = true := by
    cases hs : scB t c
    · rfl
    · rw [sc_ts hs]; rfl
  simp only [dc_eq, decide_true, Bool.and_true, beq_self_eq_true, hst]
  rfl
end Go.Proofs.YtnplmhfjoemgdaaGreatDoor
