/- The law ViewRound, walked. -/
import Derived.Test.YtcjabnfgkfiajaaDoorVwP
set_option linter.unusedSimpArgs false
set_option linter.unusedVariables false
namespace Go.Proofs.YtcjabnfgkfiajaaDoor
open Go Go.Eng Go.Tc Go.Rl Go.Vw
attribute [local irreducible] wpList Code.wp bodyPost Exit.then Exit.inBlock Calls

set_option maxHeartbeats 800000 in
theorem refused_spec {lv iv ev bv av dv cv tv nv : Value} {t : Tr} (fv ov : Value) (c : Cd) (e : Int) (w : World) (h : TrIn All w lv iv ev bv av dv cv tv nv t) (hc : CdIn All w fv ov c) (hT : Tab w) :
    Pur Tryd.prog 11 [.agg #[lv, iv, ev, bv, av, dv, cv, tv, nv], .agg #[fv, ov], .int .i64 e] w fun _ v _ => v = .bool (decide (e = cdE t c)) := by
  have hfs := hc.rf.sv
  have hos := hc.cosv
  refine enter_pur Tryd.func11 Tryd.ntmps11 rfl rfl ?_
  refine gO_ ?_
  refine wl_fx (fx_box (next := ?_)); intro bT
  refine gO_ ?_
  refine wl_fx (fx_box (next := ?_)); intro bC
  refine gO_ ?_
  refine wl_fx (fx_call (spec := fun w' hw => rCheck_spec fv ov c w' (h.now hw (.head _)) (hc.now hw (.head _))) (next := ?_))
  rintro v n1 w1 rfl hn1
  refine gO_ ?_
  refine wl_gx (h := gx_call (spec := fun _ w' hw => vawake_spec w' (hT.now hw (.tail _ (.head _))))) (next := ?_)
  refine gO_ ?_
  refine pur_ret Tryd.results11 (.tmp rfl .nil) (.tail _ (.head _)) fun w' hw => ?_
  simp only [dc_eq, Bool.and_true]
  rfl

end Go.Proofs.YtcjabnfgkfiajaaDoor
