/- The walk: alembicref15.Copy. -/
import Derived.Test.YtifgncgiiojikaaGreatDoorScD
import Derived.Test.YtifgncgiiojikaaGreatDoorG25
set_option linter.unusedSimpArgs false
set_option linter.unusedVariables false
namespace Go.Proofs.YtifgncgiiojikaaGreatDoor
open Go Go.Eng Go.Tc Go.Rl Go.Vw
attribute [local irreducible] wpList Code.wp bodyPost Exit.then Exit.inBlock Calls

set_option maxHeartbeats 3200000 in
theorem rcopy15_spec {lv iv ev bv av dv cv tv nv : Value} {t : Tr} (w : World) (h : TrIn All w lv iv ev bv av dv cv tv nv t) (hB : TrBig t) :
    Mk Tryz.prog 4 [.agg #[lv, iv, ev, bv, av, dv, cv, tv, nv]] w fun _ v es _ => ∃ u1 u2 u3 u4 u5 u6 u7 u8 u9, (SV u1 ∧ SV u2 ∧ SV u3 ∧ SV u4 ∧ SV u5 ∧ SV u6 ∧ SV u7 ∧ SV u8 ∧ SV u9) ∧ v = .agg #[u1, u2, u3, u4, u5, u6, u7, u8, u9] ∧ es = [.own u1 9 1 encT t.locs, .own u2 3 1 Eng.encI t.init, .own u3 36 6 encEv t.evs, .own u4 81 3 encBar t.bars, .own u5 83 2 encPair t.addr, .own u6 83 2 encPair t.data, .own u7 83 2 encPair t.ctrl, .own u8 50 3 encThing t.things, .own u9 52 2 encEnd t.ends] := by
  refine enter_mk Tryz.func4 Tryz.ntmps4 rfl rfl ?_
  refine gO_ ?_
  refine wl_fx (fx_box (next := ?_)); intro bT
  refine gO_ ?_
  refine wl_fx (fx_alloc (next := ?_)); intro b2
  refine gO_ ?_
  refine wl_fx (fx_alloc (next := ?_)); intro b3
  refine gO_ ?_
  have z1 := hB.locs
  have y1 := (h.locs).le
  refine kp_nil 9 1 encT ?_
  refine wl_fx (fx_append_base (k := 0) (hk := rfl) (h := h.locs) (hlen := by simp only [List.length_nil, Nat.zero_add]; omega) (next := ?_)); intro u1 hu1
  refine gO_ ?_
  refine wl_fx (fx_store_box (i := 1) (hi := rfl) (next := ?_))
  refine kp_mem (A' := Mem [(w, All)] [.own u1 9 1 encT t.locs, .box b3 [u1, .slice none 0 0, .slice none 0 0, .slice none 0 0, .slice none 0 0, .slice none 0 0, .slice none 0 0, .slice none 0 0, .slice none 0 0] 30, .box b2 [.slice none 0 0, .slice none 0 0, .slice none 0 0, .slice none 0 0, .slice none 0 0, .slice none 0 0, .slice none 0 0, .slice none 0 0, .slice none 0 0] 30, .box bT [lv, iv, ev, bv, av, dv, cv, tv, nv] 30]) (fun _ h => h) ?_
  refine gO_ ?_
  have z2 := hB.init
  have y2 := (h.init).le
  refine kp_nil 3 1 Eng.encI ?_
  refine wl_fx (fx_append_base (k := 0) (hk := rfl) (h := h.init) (hlen := by simp only [List.length_nil, Nat.zero_add]; omega) (next := ?_)); intro u2 hu2
  refine gO_ ?_
  refine wl_fx (fx_store_box (i := 2) (hi := rfl) (next := ?_))
  refine kp_mem (A' := Mem [(w, All)] [.own u2 3 1 Eng.encI t.init, .own u1 9 1 encT t.locs, .box b3 [u1, u2, .slice none 0 0, .slice none 0 0, .slice none 0 0, .slice none 0 0, .slice none 0 0, .slice none 0 0, .slice none 0 0] 30, .box b2 [.slice none 0 0, .slice none 0 0, .slice none 0 0, .slice none 0 0, .slice none 0 0, .slice none 0 0, .slice none 0 0, .slice none 0 0, .slice none 0 0] 30, .box bT [lv, iv, ev, bv, av, dv, cv, tv, nv] 30]) (fun _ h => h) ?_
  refine gO_ ?_
  have z3 := hB.evs
  have y3 := (h.evs).le
  refine kp_nil 36 6 encEv ?_
  refine wl_fx (fx_append_base (k := 0) (hk := rfl) (h := h.evs) (hlen := by simp only [List.length_nil, Nat.zero_add]; omega) (next := ?_)); intro u3 hu3
  refine gO_ ?_
  refine wl_fx (fx_store_box (i := 3) (hi := rfl) (next := ?_))
  refine kp_mem (A' := Mem [(w, All)] [.own u3 36 6 encEv t.evs, .own u2 3 1 Eng.encI t.init, .own u1 9 1 encT t.locs, .box b3 [u1, u2, u3, .slice none 0 0, .slice none 0 0, .slice none 0 0, .slice none 0 0, .slice none 0 0, .slice none 0 0] 30, .box b2 [.slice none 0 0, .slice none 0 0, .slice none 0 0, .slice none 0 0, .slice none 0 0, .slice none 0 0, .slice none 0 0, .slice none 0 0, .slice none 0 0] 30, .box bT [lv, iv, ev, bv, av, dv, cv, tv, nv] 30]) (fun _ h => h) ?_
  refine gO_ ?_
  have z4 := hB.bars
  have y4 := (h.bars).le
  refine kp_nil 81 3 encBar ?_
  refine wl_fx (fx_append_base (k := 0) (hk := rfl) (h := h.bars) (hlen := by simp only [List.length_nil, Nat.zero_add]; omega) (next := ?_)); intro u4 hu4
  refine gO_ ?_
  refine wl_fx (fx_store_box (i := 4) (hi := rfl) (next := ?_))
  refine kp_mem (A' := Mem [(w, All)] [.own u4 81 3 encBar t.bars, .own u3 36 6 encEv t.evs, .own u2 3 1 Eng.encI t.init, .own u1 9 1 encT t.locs, .box b3 [u1, u2, u3, u4, .slice none 0 0, .slice none 0 0, .slice none 0 0, .slice none 0 0, .slice none 0 0] 30, .box b2 [.slice none 0 0, .slice none 0 0, .slice none 0 0, .slice none 0 0, .slice none 0 0, .slice none 0 0, .slice none 0 0, .slice none 0 0, .slice none 0 0] 30, .box bT [lv, iv, ev, bv, av, dv, cv, tv, nv] 30]) (fun _ h => h) ?_
  refine gO_ ?_
  have z5 := hB.addr
  have y5 := (h.addr).le
  refine kp_nil 83 2 encPair ?_
  refine wl_fx (fx_append_base (k := 0) (hk := rfl) (h := h.addr) (hlen := by simp only [List.length_nil, Nat.zero_add]; omega) (next := ?_)); intro u5 hu5
  refine gO_ ?_
  refine wl_fx (fx_store_box (i := 5) (hi := rfl) (next := ?_))
  refine kp_mem (A' := Mem [(w, All)] [.own u5 83 2 encPair t.addr, .own u4 81 3 encBar t.bars, .own u3 36 6 encEv t.evs, .own u2 3 1 Eng.encI t.init, .own u1 9 1 encT t.locs, .box b3 [u1, u2, u3, u4, u5, .slice none 0 0, .slice none 0 0, .slice none 0 0, .slice none 0 0] 30, .box b2 [.slice none 0 0, .slice none 0 0, .slice none 0 0, .slice none 0 0, .slice none 0 0, .slice none 0 0, .slice none 0 0, .slice none 0 0, .slice none 0 0] 30, .box bT [lv, iv, ev, bv, av, dv, cv, tv, nv] 30]) (fun _ h => h) ?_
  refine gO_ ?_
  have z6 := hB.data
  have y6 := (h.data).le
  refine kp_nil 83 2 encPair ?_
  refine wl_fx (fx_append_base (k := 0) (hk := rfl) (h := h.data) (hlen := by simp only [List.length_nil, Nat.zero_add]; omega) (next := ?_)); intro u6 hu6
  refine gO_ ?_
  refine wl_fx (fx_store_box (i := 6) (hi := rfl) (next := ?_))
  refine kp_mem (A' := Mem [(w, All)] [.own u6 83 2 encPair t.data, .own u5 83 2 encPair t.addr, .own u4 81 3 encBar t.bars, .own u3 36 6 encEv t.evs, .own u2 3 1 Eng.encI t.init, .own u1 9 1 encT t.locs, .box b3 [u1, u2, u3, u4, u5, u6, .slice none 0 0, .slice none 0 0, .slice none 0 0] 30, .box b2 [.slice none 0 0, .slice none 0 0, .slice none 0 0, .slice none 0 0, .slice none 0 0, .slice none 0 0, .slice none 0 0, .slice none 0 0, .slice none 0 0] 30, .box bT [lv, iv, ev, bv, av, dv, cv, tv, nv] 30]) (fun _ h => h) ?_
  refine gO_ ?_
  have z7 := hB.ctrl
  have y7 := (h.ctrl).le
  refine kp_nil 83 2 encPair ?_
  refine wl_fx (fx_append_base (k := 0) (hk := rfl) (h := h.ctrl) (hlen := by simp only [List.length_nil, Nat.zero_add]; omega) (next := ?_)); intro u7 hu7
  refine gO_ ?_
  refine wl_fx (fx_store_box (i := 7) (hi := rfl) (next := ?_))
  refine kp_mem (A' := Mem [(w, All)] [.own u7 83 2 encPair t.ctrl, .own u6 83 2 encPair t.data, .own u5 83 2 encPair t.addr, .own u4 81 3 encBar t.bars, .own u3 36 6 encEv t.evs, .own u2 3 1 Eng.encI t.init, .own u1 9 1 encT t.locs, .box b3 [u1, u2, u3, u4, u5, u6, u7, .slice none 0 0, .slice none 0 0] 30, .box b2 [.slice none 0 0, .slice none 0 0, .slice none 0 0, .slice none 0 0, .slice none 0 0, .slice none 0 0, .slice none 0 0, .slice none 0 0, .slice none 0 0] 30, .box bT [lv, iv, ev, bv, av, dv, cv, tv, nv] 30]) (fun _ h => h) ?_
  refine gO_ ?_
  have z8 := hB.things
  have y8 := (h.things).le
  refine kp_nil 50 3 encThing ?_
  refine wl_fx (fx_append_base (k := 0) (hk := rfl) (h := h.things) (hlen := by simp only [List.length_nil, Nat.zero_add]; omega) (next := ?_)); intro u8 hu8
  refine gO_ ?_
  refine wl_fx (fx_store_box (i := 8) (hi := rfl) (next := ?_))
  refine kp_mem (A' := Mem [(w, All)] [.own u8 50 3 encThing t.things, .own u7 83 2 encPair t.ctrl, .own u6 83 2 encPair t.data, .own u5 83 2 encPair t.addr, .own u4 81 3 encBar t.bars, .own u3 36 6 encEv t.evs, .own u2 3 1 Eng.encI t.init, .own u1 9 1 encT t.locs, .box b3 [u1, u2, u3, u4, u5, u6, u7, u8, .slice none 0 0] 30, .box b2 [.slice none 0 0, .slice none 0 0, .slice none 0 0, .slice none 0 0, .slice none 0 0, .slice none 0 0, .slice none 0 0, .slice none 0 0, .slice none 0 0] 30, .box bT [lv, iv, ev, bv, av, dv, cv, tv, nv] 30]) (fun _ h => h) ?_
  refine gO_ ?_
  have z9 := hB.ends
  have y9 := (h.ends).le
  refine kp_nil 52 2 encEnd ?_
  refine wl_fx (fx_append_base (k := 0) (hk := rfl) (h := h.ends) (hlen := by simp only [List.length_nil, Nat.zero_add]; omega) (next := ?_)); intro u9 hu9
  refine gO_ ?_
  refine wl_fx (fx_store_box (i := 9) (hi := rfl) (next := ?_))
  refine kp_mem (A' := Mem [(w, All)] [.own u9 52 2 encEnd t.ends, .own u8 50 3 encThing t.things, .own u7 83 2 encPair t.ctrl, .own u6 83 2 encPair t.data, .own u5 83 2 encPair t.addr, .own u4 81 3 encBar t.bars, .own u3 36 6 encEv t.evs, .own u2 3 1 Eng.encI t.init, .own u1 9 1 encT t.locs, .box b3 [u1, u2, u3, u4, u5, u6, u7, u8, u9] 30, .box b2 [.slice none 0 0, .slice none 0 0, .slice none 0 0, .slice none 0 0, .slice none 0 0, .slice none 0 0, .slice none 0 0, .slice none 0 0, .slice none 0 0] 30, .box bT [lv, iv, ev, bv, av, dv, cv, tv, nv] 30]) (fun _ h => h) ?_
  refine gO_ ?_
  refine wl_fx (fx_store_box (i := 10) (hi := rfl) (next := ?_))
  refine gO_ ?_
  exact mk_ret Tryz.results4 (.cellN inferInstance rfl (.tail _ (.tail _ (.tail _ (.tail _ (.tail _ (.tail _ (.tail _ (.tail _ (.tail _ (.tail _ (.head _))))))))))) rfl .nil) (.head _) [_, _, _, _, _, _, _, _, _] [8, 7, 6, 5, 4, 3, 2, 1, 0] rfl (by decide) fun w' hw => ⟨u1, u2, u3, u4, u5, u6, u7, u8, u9, ⟨hu1, hu2, hu3, hu4, hu5, hu6, hu7, hu8, hu9⟩, rfl, rfl⟩
end Go.Proofs.YtifgncgiiojikaaGreatDoor
