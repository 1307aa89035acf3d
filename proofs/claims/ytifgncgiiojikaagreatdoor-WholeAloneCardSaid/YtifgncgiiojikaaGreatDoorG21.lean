import Derived.Test.YtifgncgiiojikaaGreatDoorG18
import Derived.Test.YtifgncgiiojikaaGreatDoorG20
set_option linter.unusedSimpArgs false
set_option linter.unusedVariables false
section
/- The walks: alembicref17.All, name, Arcs (printed by gen_rarcs.py). -/
namespace Go.Proofs.YtifgncgiiojikaaGreatDoor
open Go Go.Eng Go.Tc Go.Rl Go.Vw
attribute [local irreducible] wpList Code.wp bodyPost Exit.then Exit.inBlock Calls

end Go.Proofs.YtifgncgiiojikaaGreatDoor
end

section
/- The walks: view.held, Coherent; alembicref17.Held, Coherent (printed by gen_coh.py). -/
namespace Go.Vw
open Go Go.Eng Go.Tc Go.Rl
theorem vwOf_ok {t : Tr} {c : Cd} (h : cdE t c = 0) : vwOf t c = { n := t.evs.length, po := relOf t.evs.length (poP t), pl := relOf t.evs.length (plP t), rf := relOf t.evs.length (rfP t c), rfe := relOf t.evs.length (exP t (rfP t c)), co := relOf t.evs.length (coP t c), coe := relOf t.evs.length (exP t (coP t c)), fr := relOf t.evs.length (frP t c), fre := relOf t.evs.length (exP t (frP t c)), cm := relOf t.evs.length (cmP t c) } := if_pos h
def hdP (t : Tr) (c : Cd) (i j : Nat) : Bool := plP t i j || cmP t c i j
theorem _root_.Go.Tc.CdIn.cosv {S : Nat → Prop} {w : World} {fv cv : Value} {c : Cd} (h : CdIn S w fv cv c) : SV cv := by
  obtain ⟨vs, hv, _⟩ := h.co
  exact hv.sv
end Go.Vw
namespace Go.Proofs.YtifgncgiiojikaaGreatDoor
open Go Go.Eng Go.Tc Go.Rl Go.Vw
attribute [local irreducible] wpList Code.wp bodyPost Exit.then Exit.inBlock Calls
def cohB (t : Tr) (c : Cd) : Bool := if cdE t c = 0 then acycS t.evs.length (relOf t.evs.length (hdP t c)) else false

set_option maxHeartbeats 1600000 in
theorem vheld_spec (m : Nat) (s1 s2 s3 s4 s5 s6 s7 s8 s9 : Value) (a b : List W) (w : World) (hs1 : SV s1) (hs2 : SV s2) (hs3 : SV s3) (hs4 : SV s4) (hs5 : SV s5) (hs6 : SV s6) (hs7 : SV s7) (hs8 : SV s8) (hs9 : SV s9) (ha : Sl All w encW 1 s2 a) (hb : Sl All w encW 1 s9 b) (oa : relOk m a = true) (ob : relOk m b = true) :
    Mk Tryz.prog 49 [.agg #[.int .i64 m, s1, .int .i64 m, s2, .int .i64 m, s3, .int .i64 m, s4, .int .i64 m, s5, .int .i64 m, s6, .int .i64 m, s7, .int .i64 m, s8, .int .i64 m, s9]] w (Rel1Ψ m (uni m a b)) := by
  refine enter_mk Tryz.func49 Tryz.ntmps49 rfl rfl ?_
  refine gO_ ?_
  refine wl_fx (fx_box (next := ?_)); intro bv
  refine gO_ ?_
  refine wl_fx (fx_alloc (next := ?_)); intro b2
  refine gO_ ?_
  refine wl_fx (fx_call_mk (spec := fun w' hw => union_ok oa ob (hw.now ha (.head _)) (hw.now hb (.head _))) (next := ?_))
  rintro v n1 es w1 ⟨s, hs, rfl, rfl⟩
  refine gO_ ?_
  refine wl_fx (fx_alloc (next := ?_)); intro b3
  refine gO_ ?_
  refine wl_fx (fx_store_box (i := 0) (hi := rfl) (next := ?_))
  refine gO_ ?_
  refine wl_fx (fx_store_box (i := 2) (hi := rfl) (next := ?_))
  refine gO_ ?_
  exact mk_ret Tryz.results49 (.cellN inferInstance rfl (.tail _ (.tail _ (.head _))) rfl .nil) (.tail _ (.head _)) [_] [1] rfl (by decide) fun w' hw => ⟨s, hs, rfl, rfl⟩

set_option maxHeartbeats 3200000 in
theorem vcoh_spec {lv iv ev bv av dv cv tv nv : Value} {t : Tr} (fv ov : Value) (c : Cd) (w : World) (h : TrIn All w lv iv ev bv av dv cv tv nv t) (hc : CdIn All w fv ov c) (hT : Tab w) :
    Pur Tryz.prog 26 [.agg #[lv, iv, ev, bv, av, dv, cv, tv, nv], .agg #[fv, ov]] w fun _ v _ => v = .tuple #[.bool (cohB t c), .int .i64 (cdE t c)] := by
  have hfs := hc.rf.sv
  have hos := hc.cosv
  refine enter_pur Tryz.func26 Tryz.ntmps26 rfl rfl ?_
  refine gO_ ?_
  refine wl_fx (fx_box (next := ?_)); intro bT
  refine gO_ ?_
  refine wl_fx (fx_box (next := ?_)); intro bC
  refine gO_ ?_
  refine wl_fx (fx_call_mk (spec := fun w' hw => vof_spec fv ov c w' (h.now hw (.head _)) (hc.now hw (.head _)) (hT.now hw (.head _))) (next := ?_))
  rintro v n1 es w1 ⟨s1, s2, s3, s4, s5, s6, s7, s8, s9, ⟨hs1, hs2, hs3, hs4, hs5, hs6, hs7, hs8, hs9⟩, rfl, rfl⟩
  refine gO_ ?_
  refine wl_fx (fx_alloc (next := ?_)); intro b6
  refine gO_ ?_
  refine wl_fx (fx_store_box (i := 0) (hi := rfl) (next := ?_))
  refine gO_ ?_
  refine wc_cond rfl (fun h1 => ?_) (fun h1 => ?_)
  · rw [Bool.not_eq_true', dc_false] at h1
    refine gO_ ?_
    refine pur_ret Tryz.results26 (.tmp rfl (.tmp rfl .nil)) (.tail _ (.head _)) fun w' hw => ?_
    unfold cohB
    rw [if_neg h1]; rfl
  · rw [Bool.not_eq_false', dc_true] at h1
    obtain ⟨ht, hcb⟩ := cdE_ok h1
    obtain ⟨hb, hlb⟩ := trOk_lens ht
    have hV := vwOf_ok h1
    rw [hV]
    refine gO_ ?_
    refine wl_fx (fx_call_mk (spec := fun w' hw => vheld_spec t.evs.length s1 s2 s3 s4 s5 s6 s7 s8 s9 (relOf t.evs.length (plP t)) (relOf t.evs.length (cmP t c)) w' hs1 hs2 hs3 hs4 hs5 hs6 hs7 hs8 hs9 (hw.lend (.tail _ (.tail _ (.head _)))) (hw.lend (.tail _ (.tail _ (.tail _ (.tail _ (.tail _ (.tail _ (.tail _ (.tail _ (.tail _ (.head _))))))))))) (relOk_relOf _ _ hb) (relOk_relOf _ _ hb)) (next := ?_))
    rintro v n2 es w2 ⟨s, hs, rfl, rfl⟩
    rw [relOf_uni hb]
    refine gO_ ?_
    refine wl_fx (fx_call (spec := fun w' hw => acyclic_spec t.evs.length s (relOf t.evs.length (hdP t c)) w' (hw.lend (.head _))) (next := ?_))
    rintro v n3 w3 rfl hn3
    refine gO_ ?_
    refine pur_ret Tryz.results26 (.tmp rfl (.tmp rfl .nil)) (.tail _ (.tail _ (.tail _ (.head _)))) fun w' hw => ?_
    unfold cohB
    rw [if_pos h1, h1, relOk_relOf _ _ hb]; rfl

end Go.Proofs.YtifgncgiiojikaaGreatDoor
end
