/- The walks: seqc.held, Consistent, Order, Why; alembicref18.Happens, Consistent; the law TsoWithin (printed by gen_sc.py). -/
import Derived.Test.YtifgncgiiojikaaGreatDoorTsF
import Derived.Test.YtifgncgiiojikaaGreatDoorScB
set_option linter.unusedSimpArgs false
set_option linter.unusedVariables false
namespace Go.Proofs.YtifgncgiiojikaaGreatDoor
open Go Go.Eng Go.Tc Go.Rl Go.Vw
attribute [local irreducible] wpList Code.wp bodyPost Exit.then Exit.inBlock Calls
theorem acy_roundE {t : Tr} (hb : t.evs.length ≤ 64) {p : Nat → Nat → Bool} : roundE t.evs.length (relOf t.evs.length p) = if acyP t p = true then 4 else 0 := by
  have ok := relOk_relOf t.evs.length p hb
  unfold roundE acyP acycS
  rw [if_pos ok, if_pos ok, Int.toNat_natCast]
  by_cases h : turnsL t.evs.length (relOf t.evs.length p) = true
  · rw [h, if_neg (fun q => by rw [(findR_turns ok).1 q] at h; cases h)]; rfl
  · rw [Bool.not_eq_true] at h
    rw [h, if_pos ((findR_turns ok).2 h)]; rfl
def sordE (t : Tr) (c : Cd) : Int := if cdE t c = 0 then if scB t c = true then 0 else 181 else cdE t c
def sordL (t : Tr) (c : Cd) : List Int := if scB t c = true then lineS t.evs.length (relOf t.evs.length (scP t c)) else []
def swhyE (t : Tr) (c : Cd) : Int := if cdE t c = 0 then if scB t c = true then 4 else arcsE (whyR t c) (roundS t.evs.length (relOf t.evs.length (scP t c))) else cdE t c
def swhyL (t : Tr) (c : Cd) : List Arc := if cdE t c = 0 then if scB t c = true then [] else arcsL (whyR t c) (roundS t.evs.length (relOf t.evs.length (scP t c))) else []
theorem scB_ok {t : Tr} {c : Cd} (h : cdE t c = 0) : scB t c = acyP t (scP t c) := by unfold scB; rw [if_pos h]
theorem scB_bad {t : Tr} {c : Cd} (h : ¬ cdE t c = 0) : scB t c = false := by unfold scB; rw [if_neg h]

set_option maxHeartbeats 3200000 in
theorem sheld_no {lv iv ev bv av dv cv tv nv : Value} {t : Tr} (fv ov : Value) (c : Cd) (w : World) (h : TrIn All w lv iv ev bv av dv cv tv nv t) (hc : CdIn All w fv ov c) (hT : Tab w) (hz : ¬ cdE t c = 0) :
    Pur Tryz.prog 21 [.agg #[lv, iv, ev, bv, av, dv, cv, tv, nv], .agg #[fv, ov]] w fun _ v _ => v = .tuple #[.agg #[.int .i64 0, .slice none 0 0, .int .i64 0, .slice none 0 0, .int .i64 0, .slice none 0 0, .int .i64 0, .slice none 0 0, .int .i64 0, .slice none 0 0, .int .i64 0, .slice none 0 0, .int .i64 0, .slice none 0 0, .int .i64 0, .slice none 0 0, .int .i64 0, .slice none 0 0], .agg #[.int .i64 0, .slice none 0 0], .int .i64 (cdE t c)] := by
  have hfs := hc.rf.sv
  have hos := hc.cosv
  have g1 := h.locs.sv; have g2 := h.init.sv; have g3 := h.evs.sv; have g4 := h.bars.sv; have g5 := h.addr.sv; have g6 := h.data.sv; have g7 := h.ctrl.sv; have g8 := h.things.sv; have g9 := h.ends.sv
  refine enter_pur Tryz.func21 Tryz.ntmps21 rfl rfl ?_
  refine gO_ ?_
  refine wl_fx (fx_box (next := ?_)); intro bT
  refine gO_ ?_
  refine wl_fx (fx_box (next := ?_)); intro bC
  refine gO_ ?_
  refine wl_fx (fx_alloc (next := ?_)); intro b4
  refine gO_ ?_
  refine wl_fx (fx_alloc (next := ?_)); intro b5
  refine gO_ ?_
  refine wl_fx (fx_call (spec := fun w' hw => ccheck_spec fv ov c w' (h.now hw (.head _)) (hc.now hw (.head _))) (next := ?_))
  rintro v n1 w1 rfl hn1
  refine gO_ ?_
  refine wc_cond rfl (fun h1 => ?_) (fun h1 => ?_)
  · refine gO_ ?_
    refine wl_fx (fx_store_box (i := 1) (hi := rfl) (next := ?_))
    refine gO_ ?_
    refine wl_fx (fx_store_box (i := 0) (hi := rfl) (next := ?_))
    refine gO_ ?_
    refine pur_ret Tryz.results21 (.cellN inferInstance rfl (.tail _ (.head _)) rfl (.cellN inferInstance rfl (.head _) rfl (.tmp rfl .nil))) (.tail _ (.head _)) fun w' hw => ?_
    rfl
  · rw [Bool.not_eq_false', dc_true] at h1
    exact absurd h1 hz

set_option maxHeartbeats 6400000 in
theorem sheld_ok {lv iv ev bv av dv cv tv nv : Value} {t : Tr} (fv ov : Value) (c : Cd) (w : World) (h : TrIn All w lv iv ev bv av dv cv tv nv t) (hc : CdIn All w fv ov c) (hT : Tab w) (hz : cdE t c = 0) :
    Mk Tryz.prog 21 [.agg #[lv, iv, ev, bv, av, dv, cv, tv, nv], .agg #[fv, ov]] w fun _ v es _ => ∃ s1 s2 s3 s4 s5 s6 s7 s8 s9 sh, (SV s1 ∧ SV s2 ∧ SV s3 ∧ SV s4 ∧ SV s5 ∧ SV s6 ∧ SV s7 ∧ SV s8 ∧ SV s9) ∧ SV sh ∧ v = .tuple #[.agg #[.int .i64 t.evs.length, s1, .int .i64 t.evs.length, s2, .int .i64 t.evs.length, s3, .int .i64 t.evs.length, s4, .int .i64 t.evs.length, s5, .int .i64 t.evs.length, s6, .int .i64 t.evs.length, s7, .int .i64 t.evs.length, s8, .int .i64 t.evs.length, s9], .agg #[.int .i64 t.evs.length, sh], .int .i64 0] ∧ es = [ownW s1 (relOf t.evs.length (poP t)), ownW s2 (relOf t.evs.length (plP t)), ownW s3 (relOf t.evs.length (rfP t c)), ownW s4 (relOf t.evs.length (exP t (rfP t c))), ownW s5 (relOf t.evs.length (coP t c)), ownW s6 (relOf t.evs.length (exP t (coP t c))), ownW s7 (relOf t.evs.length (frP t c)), ownW s8 (relOf t.evs.length (exP t (frP t c))), ownW s9 (relOf t.evs.length (cmP t c)), ownW sh (relOf t.evs.length (scP t c))] := by
  have hfs := hc.rf.sv
  have hos := hc.cosv
  have g1 := h.locs.sv; have g2 := h.init.sv; have g3 := h.evs.sv; have g4 := h.bars.sv; have g5 := h.addr.sv; have g6 := h.data.sv; have g7 := h.ctrl.sv; have g8 := h.things.sv; have g9 := h.ends.sv
  refine enter_mk Tryz.func21 Tryz.ntmps21 rfl rfl ?_
  refine gO_ ?_
  refine wl_fx (fx_box (next := ?_)); intro bT
  refine gO_ ?_
  refine wl_fx (fx_box (next := ?_)); intro bC
  refine gO_ ?_
  refine wl_fx (fx_alloc (next := ?_)); intro b4
  refine gO_ ?_
  refine wl_fx (fx_alloc (next := ?_)); intro b5
  refine gO_ ?_
  have hb := (trOk_lens (cdE_ok hz).1).1
  refine wl_fx (fx_call (spec := fun w' hw => ccheck_spec fv ov c w' (h.now hw (.head _)) (hc.now hw (.head _))) (next := ?_))
  rintro v n1 w1 rfl hn1
  refine gO_ ?_
  refine wc_cond rfl (fun h1 => ?_) (fun h1 => ?_)
  · rw [Bool.not_eq_true', dc_false] at h1
    exact absurd hz h1
  · refine gO_ ?_
    refine wl_fx (fx_call_mk (spec := fun w' hw => vof_spec fv ov c w' (h.now hw (.tail _ (.head _))) (hc.now hw (.tail _ (.head _))) (hT.now hw (.tail _ (.head _)))) (next := ?_))
    rintro v n2 es w2 ⟨s1, s2, s3, s4, s5, s6, s7, s8, s9, ⟨hs1, hs2, hs3, hs4, hs5, hs6, hs7, hs8, hs9⟩, rfl, rfl⟩
    rw [vwOf_ok hz, hz]
    refine gO_ ?_
    refine wl_fx (fx_alloc (next := ?_)); intro b8
    refine gO_ ?_
    refine wl_fx (fx_store_box (i := 0) (hi := rfl) (next := ?_))
    refine gO_ ?_
    refine wc_cond rfl (fun h2 => ?_) (fun h2 => ?_)
    · rw [Bool.not_eq_true', dc_false] at h2
      exact absurd rfl h2
    · clear h2
      refine gO_ ?_
      refine wl_fx (fx_call_mk (spec := fun w' hw => union_ok (relOk_relOf _ (poP t) hb) (relOk_relOf _ (cmP t c) hb) (hw.lend (.tail _ (.head _))) (hw.lend (.tail _ (.tail _ (.tail _ (.tail _ (.tail _ (.tail _ (.tail _ (.tail _ (.tail _ (.head _)))))))))))) (next := ?_))
      rintro v n3 es w3 ⟨sh, hsh, rfl, rfl⟩
      rw [relOf_uni hb]
      refine gO_ ?_
      refine wl_fx (fx_alloc (next := ?_)); intro b10
      refine gO_ ?_
      refine wl_fx (fx_store_box (i := 0) (hi := rfl) (next := ?_))
      refine gO_ ?_
      refine wc_drawS (Mem [(w, All)] [.box b10 [.int .i64 t.evs.length, sh] 60, .box b8 [.int .i64 t.evs.length, s1, .int .i64 t.evs.length, s2, .int .i64 t.evs.length, s3, .int .i64 t.evs.length, s4, .int .i64 t.evs.length, s5, .int .i64 t.evs.length, s6, .int .i64 t.evs.length, s7, .int .i64 t.evs.length, s8, .int .i64 t.evs.length, s9] 62]) [0, 1, 2, 3, 4, 5] mixed (fun _ h => (h.last rfl).sel [0, 2] rfl (by decide)) ?_
      refine kG_ ?_
      refine kg_f _ (h := fx_store_box (i := 13) (hi := rfl) (next := ?_)) (hSS := fun _ h => h)
      refine kp_S ?_ (fun _ h => (h.last rfl).sel [0, 2] rfl (by decide))
      refine kG_ ?_
      refine kg_f _ (h := fx_store_box (i := 12) (hi := rfl) (next := ?_)) (hSS := fun _ h => h)
      refine kp_S ?_ (fun _ h => (h.last rfl).sel [0, 2] rfl (by decide))
      refine kG_ ?_
      refine gO_ ?_
      refine mk_ret Tryz.results21 (.cellN inferInstance rfl (.tail _ (.tail _ (.tail _ (.tail _ (.tail _ (.tail _ (.tail _ (.tail _ (.tail _ (.tail _ (.tail _ (.tail _ (.tail _ (.head _)))))))))))))) rfl (.cellN inferInstance rfl (.tail _ (.tail _ (.tail _ (.tail _ (.tail _ (.tail _ (.tail _ (.tail _ (.tail _ (.tail _ (.tail _ (.tail _ (.head _))))))))))))) rfl (.tmp rfl .nil))) (.tail _ (.tail _ (.tail _ (.head _)))) [_, _, _, _, _, _, _, _, _, _] [3, 4, 5, 6, 7, 8, 9, 10, 11, 1] rfl (by decide) fun w' hw => ?_
      exact ⟨s1, s2, s3, s4, s5, s6, s7, s8, s9, sh, ⟨hs1, hs2, hs3, hs4, hs5, hs6, hs7, hs8, hs9⟩, hsh, rfl, rfl⟩

set_option maxHeartbeats 3200000 in
theorem scons_spec {lv iv ev bv av dv cv tv nv : Value} {t : Tr} (fv ov : Value) (c : Cd) (w : World) (h : TrIn All w lv iv ev bv av dv cv tv nv t) (hc : CdIn All w fv ov c) (hT : Tab w) :
    Pur Tryz.prog 8 [.agg #[lv, iv, ev, bv, av, dv, cv, tv, nv], .agg #[fv, ov]] w fun _ v _ => v = .tuple #[.bool (scB t c), .int .i64 (cdE t c)] := by
  have hfs := hc.rf.sv
  have hos := hc.cosv
  have g1 := h.locs.sv; have g2 := h.init.sv; have g3 := h.evs.sv; have g4 := h.bars.sv; have g5 := h.addr.sv; have g6 := h.data.sv; have g7 := h.ctrl.sv; have g8 := h.things.sv; have g9 := h.ends.sv
  refine enter_pur Tryz.func8 Tryz.ntmps8 rfl rfl ?_
  refine gO_ ?_
  refine wl_fx (fx_box (next := ?_)); intro bT
  refine gO_ ?_
  refine wl_fx (fx_box (next := ?_)); intro bC
  refine gO_ ?_
  by_cases hz : cdE t c = 0
  · have hb := (trOk_lens (cdE_ok hz).1).1
    refine wl_fx (fx_call_mk (spec := fun w' hw => sheld_ok fv ov c w' (h.now hw (.head _)) (hc.now hw (.head _)) (hT.now hw (.head _)) hz) (next := ?_))
    rintro v n1 es w1 ⟨s1, s2, s3, s4, s5, s6, s7, s8, s9, sh, ⟨hs1, hs2, hs3, hs4, hs5, hs6, hs7, hs8, hs9⟩, hsh, rfl, rfl⟩
    refine gO_ ?_
    refine wl_fx (fx_alloc (next := ?_)); intro b6
    refine gO_ ?_
    refine wl_fx (fx_alloc (next := ?_)); intro b7
    refine gO_ ?_
    refine wl_fx (fx_store_box (i := 1) (hi := rfl) (next := ?_))
    refine gO_ ?_
    refine wl_fx (fx_store_box (i := 0) (hi := rfl) (next := ?_))
    refine gO_ ?_
    refine wc_cond rfl (fun h1 => ?_) (fun h1 => ?_)
    · rw [Bool.not_eq_true', dc_false] at h1
      exact absurd rfl h1
    · clear h1
      refine gO_ ?_
      refine wl_fx (fx_call (spec := fun w' hw => acyclic_spec t.evs.length sh (relOf t.evs.length (scP t c)) w' (hw.lend (.tail _ (.tail _ (.tail _ (.tail _ (.tail _ (.tail _ (.tail _ (.tail _ (.tail _ (.tail _ (.tail _ (.head _)))))))))))))) (next := ?_))
      rintro v n2 w2 rfl hn2
      refine gO_ ?_
      refine pur_ret Tryz.results8 (.tmp rfl (.tmp rfl .nil)) (.tail _ (.tail _ (.head _))) fun w' hw => ?_
      rw [scB_ok hz, hz, relOk_relOf _ _ hb]; rfl
  · refine wl_fx (fx_call (spec := fun w' hw => sheld_no fv ov c w' (h.now hw (.head _)) (hc.now hw (.head _)) (hT.now hw (.head _)) hz) (next := ?_))
    rintro v n1 w1 rfl hn1
    refine gO_ ?_
    refine wl_fx (fx_alloc (next := ?_)); intro b6
    refine gO_ ?_
    refine wl_fx (fx_alloc (next := ?_)); intro b7
    refine gO_ ?_
    refine wl_fx (fx_store_box (i := 1) (hi := rfl) (next := ?_))
    refine gO_ ?_
    refine wl_fx (fx_store_box (i := 0) (hi := rfl) (next := ?_))
    refine gO_ ?_
    refine wc_cond rfl (fun h1 => ?_) (fun h1 => ?_)
    · refine gO_ ?_
      refine pur_ret Tryz.results8 (.tmp rfl (.tmp rfl .nil)) (.tail _ (.head _)) fun w' hw => ?_
      rw [scB_bad hz]; rfl
    · rw [Bool.not_eq_false', dc_true] at h1
      exact absurd h1 hz

end Go.Proofs.YtifgncgiiojikaaGreatDoor
