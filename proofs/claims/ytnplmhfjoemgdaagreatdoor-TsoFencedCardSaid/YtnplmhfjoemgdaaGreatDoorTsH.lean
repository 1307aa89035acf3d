/- The walks: alembicref15.Copy; the law TsoFenced (printed by gen_fenced.py). -/
import Derived.Test.YtnplmhfjoemgdaaGreatDoorScD
import Derived.Test.YtnplmhfjoemgdaaGreatDoorG25
set_option linter.unusedSimpArgs false
set_option linter.unusedVariables false
namespace Go.Vw
open Go Go.Eng Go.Tc Go.Rl
def dbl (x : Ev) : Ev := { x with place := 2 * x.place }
def barF (x : Ev) : Bar := ⟨x.thread, 2 * x.place + 1, 1⟩
def evsF (l : List Ev) (k : Nat) : List Ev := (l.take k).map dbl ++ l.drop k
def barsF (l : List Ev) (k : Nat) : List Bar := (l.take k).map barF
theorem evsF_len (l : List Ev) (k : Nat) : (evsF l k).length = l.length := by
  unfold evsF; rw [List.length_append, List.length_map, List.length_take, List.length_drop]; omega
theorem evsF_get (l : List Ev) (k : Nat) (h : k < l.length) : (evsF l k).getD k default = l.getD k default := by
  unfold evsF
  have hl : ((l.take k).map dbl).length = k := by rw [List.length_map, List.length_take]; omega
  rw [List.getD_eq_getElem?_getD, List.getElem?_append_right (by omega), hl, List.getElem?_drop, Nat.sub_self, Nat.add_zero, ← List.getD_eq_getElem?_getD]
theorem evsF_set (l : List Ev) (k : Nat) (h : k < l.length) : (evsF l k).set k (dbl (l.getD k default)) = evsF l (k + 1) := by
  unfold evsF
  have hl : ((l.take k).map dbl).length = k := by rw [List.length_map, List.length_take]; omega
  rw [List.set_append_right _ _ (by omega), hl, Nat.sub_self, List.take_add_one, List.map_append, List.append_assoc]
  refine congrArg ((l.take k).map dbl ++ ·) ?_
  have hd : l.drop k = l.getD k default :: l.drop (k + 1) := by
    rw [List.getD_eq_getElem?_getD, List.getElem?_eq_getElem h]
    exact List.drop_eq_getElem_cons h
  rw [hd, List.getElem?_eq_getElem h, List.getD_eq_getElem?_getD, List.getElem?_eq_getElem h]
  rfl
theorem evsF_set_get (l : List Ev) (k : Nat) (h : k < l.length) : (evsF l (k + 1)).getD k default = dbl (l.getD k default) := by
  rw [← evsF_set l k h, List.getD_eq_getElem?_getD, List.getElem?_set_self (by rw [evsF_len]; exact h)]; rfl
theorem barsF_len (l : List Ev) (k : Nat) (h : k ≤ l.length) : (barsF l k).length = k := by unfold barsF; rw [List.length_map, List.length_take]; omega
theorem barsF_succ (l : List Ev) (k : Nat) (h : k < l.length) : barsF l k ++ [barF (l.getD k default)] = barsF l (k + 1) := by
  unfold barsF
  rw [List.take_add_one, List.map_append, List.getElem?_eq_getElem h, List.getD_eq_getElem?_getD, List.getElem?_eq_getElem h]; rfl
theorem evsF_all (l : List Ev) : evsF l l.length = l.map dbl := by unfold evsF; rw [List.take_length, List.drop_length, List.append_nil]
theorem barsF_all (l : List Ev) : barsF l l.length = l.map barF := by unfold barsF; rw [List.take_length]
/-- a trace with a fence behind each event -/
def fencedT (t : Tr) : Tr := { t with evs := t.evs.map dbl, bars := t.evs.map barF }
end Go.Vw
namespace Go.Proofs.YtnplmhfjoemgdaaGreatDoor
open Go Go.Eng Go.Tc Go.Rl Go.Vw
attribute [local irreducible] wpList Code.wp bodyPost Exit.then Exit.inBlock Calls
theorem fx_q {P : Program} {N d : Nat} {op : Op} {Q : Exit → Act → World → Prop} {tm : Tm} {A : World → Prop} {K : Act → World → Prop} {v : Value} (h : QY P N op tm A true v) (next : KP N K ((d, true, v) :: tm) A) (hd : Nat.blt d N = true := by rfl) : FX P N op (some d) Q tm A K := by
  unfold FX KP QY at *
  intro a w ty pos aft g hs hw
  unfold Oper.wp
  rw [h rfl a w _ _ _ _ _ hs hw]
  exact next _ _ (by simpa using hs.put (Nat.ble_eq.mp hd) true v) hw
theorem fencedT_all {t : Tr} (ht : trOk (fencedT t) = true) {i j : Nat} (hi : i < (fencedT t).evs.length) (hj : j < (fencedT t).evs.length) (hp : poP (fencedT t) i j = true) : fnP (fencedT t) i j = true := by
  have hil : i < t.evs.length := by simpa [fencedT] using hi
  have hjl : j < t.evs.length := by simpa [fencedT] using hj
  have ei : evi (fencedT t) i = dbl (evi t i) := by
    unfold evi fencedT
    rw [List.getD_eq_getElem?_getD, List.getElem?_map, List.getElem?_eq_getElem hil, List.getD_eq_getElem?_getD, List.getElem?_eq_getElem hil]; rfl
  have ej : evi (fencedT t) j = dbl (evi t j) := by
    unfold evi fencedT
    rw [List.getD_eq_getElem?_getD, List.getElem?_map, List.getElem?_eq_getElem hjl, List.getD_eq_getElem?_getD, List.getElem?_eq_getElem hjl]; rfl
  have hd1 := trOk_dir ht hi
  have hd2 := trOk_dir ht hj
  unfold fnP
  rw [hp, Bool.true_and]
  unfold fnB
  rw [List.any_eq_true]
  refine ⟨barF (evi t i), ?_, ?_⟩
  · show barF (evi t i) ∈ t.evs.map barF
    refine List.mem_map.2 ⟨evi t i, ?_, rfl⟩
    unfold evi
    rw [List.getD_eq_getElem?_getD, List.getElem?_eq_getElem hil]
    exact List.getElem_mem hil
  · unfold poP at hp
    rw [Bool.and_eq_true, decide_eq_true_eq, ei, ej] at hp
    rw [ei] at hd1
    rw [ej] at hd2
    unfold barB
    rw [ei, ej, show ordB (barF (evi t i)).fence (dbl (evi t i)).dir (dbl (evi t j)).dir = true from ordB_m ⟨hd1, hd2⟩ rfl]
    have h2 : 2 * (evi t i).place < 2 * (evi t j).place := hp.2
    have q1 : (barF (evi t i)).thread = (dbl (evi t i)).thread := rfl
    have q2 : (dbl (evi t i)).place < (barF (evi t i)).place := by show 2 * (evi t i).place < 2 * (evi t i).place + 1; omega
    have q3 : (barF (evi t i)).place < (dbl (evi t j)).place := by show 2 * (evi t i).place + 1 < 2 * (evi t j).place; omega
    rw [decide_eq_true q1, decide_eq_true q2, decide_eq_true q3]; rfl
theorem fencedT_same (t : Tr) (c : Cd) : scB (fencedT t) c = tsB (fencedT t) c := by
  by_cases hz : cdE (fencedT t) c = 0
  · rw [Bool.eq_iff_iff]
    constructor
    · exact sc_ts
    · intro h
      unfold tsB at h
      rw [Bool.and_eq_true] at h
      exact ts_sc hz h.1 (fun i j hi hj hp => fencedT_all (cdE_ok hz).1 hi hj hp) h.2
  · rw [scB_bad hz]; unfold tsB; rw [cohB_bad hz]; rfl

set_option maxHeartbeats 3200000 in
theorem rcopy15_spec {lv iv ev bv av dv cv tv nv : Value} {t : Tr} (w : World) (h : TrIn All w lv iv ev bv av dv cv tv nv t) (hB : TrBig t) :
    Mk Tryz.prog 21 [.agg #[lv, iv, ev, bv, av, dv, cv, tv, nv]] w fun _ v es _ => ∃ u1 u2 u3 u4 u5 u6 u7 u8 u9, (SV u1 ∧ SV u2 ∧ SV u3 ∧ SV u4 ∧ SV u5 ∧ SV u6 ∧ SV u7 ∧ SV u8 ∧ SV u9) ∧ v = .agg #[u1, u2, u3, u4, u5, u6, u7, u8, u9] ∧ es = [.own u1 9 1 encT t.locs, .own u2 3 1 Eng.encI t.init, .own u3 49 6 encEv t.evs, .own u4 53 3 encBar t.bars, .own u5 125 2 encPair t.addr, .own u6 125 2 encPair t.data, .own u7 125 2 encPair t.ctrl, .own u8 104 3 encThing t.things, .own u9 106 2 encEnd t.ends] := by
  refine enter_mk Tryz.func21 Tryz.ntmps21 rfl rfl ?_
  refine gO_ ?_
  refine wl_fx (fx_box (next := ?_)); intro bT
  refine gO_ ?_
  refine wl_fx (fx_alloc (next := ?_)); intro b2
  refine gO_ ?_
  refine wl_fx (fx_alloc (next := ?_)); intro b3
  refine gO_ ?_
  have z1 := hB.locs
  have y1 := (h.locs).le
  refine kp_nil 9 1 encT ?_
  refine wl_fx (fx_append_base (k := 0) (hk := rfl) (h := h.locs) (hlen := by simp only [List.length_nil, Nat.zero_add]; omega) (next := ?_)); intro u1 hu1
  refine gO_ ?_
  refine wl_fx (fx_store_box (i := 1) (hi := rfl) (next := ?_))
  refine kp_mem (A' := Mem [(w, All)] [.own u1 9 1 encT t.locs, .box b3 [u1, .slice none 0 0, .slice none 0 0, .slice none 0 0, .slice none 0 0, .slice none 0 0, .slice none 0 0, .slice none 0 0, .slice none 0 0] 30, .box b2 [.slice none 0 0, .slice none 0 0, .slice none 0 0, .slice none 0 0, .slice none 0 0, .slice none 0 0, .slice none 0 0, .slice none 0 0, .slice none 0 0] 30, .box bT [lv, iv, ev, bv, av, dv, cv, tv, nv] 30]) (fun _ h => h) ?_
  refine gO_ ?_
  have z2 := hB.init
  have y2 := (h.init).le
  refine kp_nil 3 1 Eng.encI ?_
  refine wl_fx (fx_append_base (k := 0) (hk := rfl) (h := h.init) (hlen := by simp only [List.length_nil, Nat.zero_add]; omega) (next := ?_)); intro u2 hu2
  refine gO_ ?_
  refine wl_fx (fx_store_box (i := 2) (hi := rfl) (next := ?_))
  refine kp_mem (A' := Mem [(w, All)] [.own u2 3 1 Eng.encI t.init, .own u1 9 1 encT t.locs, .box b3 [u1, u2, .slice none 0 0, .slice none 0 0, .slice none 0 0, .slice none 0 0, .slice none 0 0, .slice none 0 0, .slice none 0 0] 30, .box b2 [.slice none 0 0, .slice none 0 0, .slice none 0 0, .slice none 0 0, .slice none 0 0, .slice none 0 0, .slice none 0 0, .slice none 0 0, .slice none 0 0] 30, .box bT [lv, iv, ev, bv, av, dv, cv, tv, nv] 30]) (fun _ h => h) ?_
  refine gO_ ?_
  have z3 := hB.evs
  have y3 := (h.evs).le
  refine kp_nil 49 6 encEv ?_
  refine wl_fx (fx_append_base (k := 0) (hk := rfl) (h := h.evs) (hlen := by simp only [List.length_nil, Nat.zero_add]; omega) (next := ?_)); intro u3 hu3
  refine gO_ ?_
  refine wl_fx (fx_store_box (i := 3) (hi := rfl) (next := ?_))
  refine kp_mem (A' := Mem [(w, All)] [.own u3 49 6 encEv t.evs, .own u2 3 1 Eng.encI t.init, .own u1 9 1 encT t.locs, .box b3 [u1, u2, u3, .slice none 0 0, .slice none 0 0, .slice none 0 0, .slice none 0 0, .slice none 0 0, .slice none 0 0] 30, .box b2 [.slice none 0 0, .slice none 0 0, .slice none 0 0, .slice none 0 0, .slice none 0 0, .slice none 0 0, .slice none 0 0, .slice none 0 0, .slice none 0 0] 30, .box bT [lv, iv, ev, bv, av, dv, cv, tv, nv] 30]) (fun _ h => h) ?_
  refine gO_ ?_
  have z4 := hB.bars
  have y4 := (h.bars).le
  refine kp_nil 53 3 encBar ?_
  refine wl_fx (fx_append_base (k := 0) (hk := rfl) (h := h.bars) (hlen := by simp only [List.length_nil, Nat.zero_add]; omega) (next := ?_)); intro u4 hu4
  refine gO_ ?_
  refine wl_fx (fx_store_box (i := 4) (hi := rfl) (next := ?_))
  refine kp_mem (A' := Mem [(w, All)] [.own u4 53 3 encBar t.bars, .own u3 49 6 encEv t.evs, .own u2 3 1 Eng.encI t.init, .own u1 9 1 encT t.locs, .box b3 [u1, u2, u3, u4, .slice none 0 0, .slice none 0 0, .slice none 0 0, .slice none 0 0, .slice none 0 0] 30, .box b2 [.slice none 0 0, .slice none 0 0, .slice none 0 0, .slice none 0 0, .slice none 0 0, .slice none 0 0, .slice none 0 0, .slice none 0 0, .slice none 0 0] 30, .box bT [lv, iv, ev, bv, av, dv, cv, tv, nv] 30]) (fun _ h => h) ?_
  refine gO_ ?_
  have z5 := hB.addr
  have y5 := (h.addr).le
  refine kp_nil 125 2 encPair ?_
  refine wl_fx (fx_append_base (k := 0) (hk := rfl) (h := h.addr) (hlen := by simp only [List.length_nil, Nat.zero_add]; omega) (next := ?_)); intro u5 hu5
  refine gO_ ?_
  refine wl_fx (fx_store_box (i := 5) (hi := rfl) (next := ?_))
  refine kp_mem (A' := Mem [(w, All)] [.own u5 125 2 encPair t.addr, .own u4 53 3 encBar t.bars, .own u3 49 6 encEv t.evs, .own u2 3 1 Eng.encI t.init, .own u1 9 1 encT t.locs, .box b3 [u1, u2, u3, u4, u5, .slice none 0 0, .slice none 0 0, .slice none 0 0, .slice none 0 0] 30, .box b2 [.slice none 0 0, .slice none 0 0, .slice none 0 0, .slice none 0 0, .slice none 0 0, .slice none 0 0, .slice none 0 0, .slice none 0 0, .slice none 0 0] 30, .box bT [lv, iv, ev, bv, av, dv, cv, tv, nv] 30]) (fun _ h => h) ?_
  refine gO_ ?_
  have z6 := hB.data
  have y6 := (h.data).le
  refine kp_nil 125 2 encPair ?_
  refine wl_fx (fx_append_base (k := 0) (hk := rfl) (h := h.data) (hlen := by simp only [List.length_nil, Nat.zero_add]; omega) (next := ?_)); intro u6 hu6
  refine gO_ ?_
  refine wl_fx (fx_store_box (i := 6) (hi := rfl) (next := ?_))
  refine kp_mem (A' := Mem [(w, All)] [.own u6 125 2 encPair t.data, .own u5 125 2 encPair t.addr, .own u4 53 3 encBar t.bars, .own u3 49 6 encEv t.evs, .own u2 3 1 Eng.encI t.init, .own u1 9 1 encT t.locs, .box b3 [u1, u2, u3, u4, u5, u6, .slice none 0 0, .slice none 0 0, .slice none 0 0] 30, .box b2 [.slice none 0 0, .slice none 0 0, .slice none 0 0, .slice none 0 0, .slice none 0 0, .slice none 0 0, .slice none 0 0, .slice none 0 0, .slice none 0 0] 30, .box bT [lv, iv, ev, bv, av, dv, cv, tv, nv] 30]) (fun _ h => h) ?_
  refine gO_ ?_
  have z7 := hB.ctrl
  have y7 := (h.ctrl).le
  refine kp_nil 125 2 encPair ?_
  refine wl_fx (fx_append_base (k := 0) (hk := rfl) (h := h.ctrl) (hlen := by simp only [List.length_nil, Nat.zero_add]; omega) (next := ?_)); intro u7 hu7
  refine gO_ ?_
  refine wl_fx (fx_store_box (i := 7) (hi := rfl) (next := ?_))
  refine kp_mem (A' := Mem [(w, All)] [.own u7 125 2 encPair t.ctrl, .own u6 125 2 encPair t.data, .own u5 125 2 encPair t.addr, .own u4 53 3 encBar t.bars, .own u3 49 6 encEv t.evs, .own u2 3 1 Eng.encI t.init, .own u1 9 1 encT t.locs, .box b3 [u1, u2, u3, u4, u5, u6, u7, .slice none 0 0, .slice none 0 0] 30, .box b2 [.slice none 0 0, .slice none 0 0, .slice none 0 0, .slice none 0 0, .slice none 0 0, .slice none 0 0, .slice none 0 0, .slice none 0 0, .slice none 0 0] 30, .box bT [lv, iv, ev, bv, av, dv, cv, tv, nv] 30]) (fun _ h => h) ?_
  refine gO_ ?_
  have z8 := hB.things
  have y8 := (h.things).le
  refine kp_nil 104 3 encThing ?_
  refine wl_fx (fx_append_base (k := 0) (hk := rfl) (h := h.things) (hlen := by simp only [List.length_nil, Nat.zero_add]; omega) (next := ?_)); intro u8 hu8
  refine gO_ ?_
  refine wl_fx (fx_store_box (i := 8) (hi := rfl) (next := ?_))
  refine kp_mem (A' := Mem [(w, All)] [.own u8 104 3 encThing t.things, .own u7 125 2 encPair t.ctrl, .own u6 125 2 encPair t.data, .own u5 125 2 encPair t.addr, .own u4 53 3 encBar t.bars, .own u3 49 6 encEv t.evs, .own u2 3 1 Eng.encI t.init, .own u1 9 1 encT t.locs, .box b3 [u1, u2, u3, u4, u5, u6, u7, u8, .slice none 0 0] 30, .box b2 [.slice none 0 0, .slice none 0 0, .slice none 0 0, .slice none 0 0, .slice none 0 0, .slice none 0 0, .slice none 0 0, .slice none 0 0, .slice none 0 0] 30, .box bT [lv, iv, ev, bv, av, dv, cv, tv, nv] 30]) (fun _ h => h) ?_
  refine gO_ ?_
  have z9 := hB.ends
  have y9 := (h.ends).le
  refine kp_nil 106 2 encEnd ?_
  refine wl_fx (fx_append_base (k := 0) (hk := rfl) (h := h.ends) (hlen := by simp only [List.length_nil, Nat.zero_add]; omega) (next := ?_)); intro u9 hu9
  refine gO_ ?_
  refine wl_fx (fx_store_box (i := 9) (hi := rfl) (next := ?_))
  refine kp_mem (A' := Mem [(w, All)] [.own u9 106 2 encEnd t.ends, .own u8 104 3 encThing t.things, .own u7 125 2 encPair t.ctrl, .own u6 125 2 encPair t.data, .own u5 125 2 encPair t.addr, .own u4 53 3 encBar t.bars, .own u3 49 6 encEv t.evs, .own u2 3 1 Eng.encI t.init, .own u1 9 1 encT t.locs, .box b3 [u1, u2, u3, u4, u5, u6, u7, u8, u9] 30, .box b2 [.slice none 0 0, .slice none 0 0, .slice none 0 0, .slice none 0 0, .slice none 0 0, .slice none 0 0, .slice none 0 0, .slice none 0 0, .slice none 0 0] 30, .box bT [lv, iv, ev, bv, av, dv, cv, tv, nv] 30]) (fun _ h => h) ?_
  refine gO_ ?_
  refine wl_fx (fx_store_box (i := 10) (hi := rfl) (next := ?_))
  refine gO_ ?_
  exact mk_ret Tryz.results21 (.cellN inferInstance rfl (.tail _ (.tail _ (.tail _ (.tail _ (.tail _ (.tail _ (.tail _ (.tail _ (.tail _ (.tail _ (.head _))))))))))) rfl .nil) (.head _) [_, _, _, _, _, _, _, _, _] [8, 7, 6, 5, 4, 3, 2, 1, 0] rfl (by decide) fun w' hw => ⟨u1, u2, u3, u4, u5, u6, u7, u8, u9, ⟨hu1, hu2, hu3, hu4, hu5, hu6, hu7, hu8, hu9⟩, rfl, rfl⟩

set_option maxRecDepth 8000 in
set_option maxHeartbeats 12800000 in
theorem tsoFenced_spec {lv iv ev bv av dv cv tv nv : Value} {t : Tr} (fv ov : Value) (c : Cd) (w : World) (h : TrIn All w lv iv ev bv av dv cv tv nv t) (hB : TrBig t) (hc : CdIn All w fv ov c) (hT : Tab w) :
    Pur Tryz.prog 6 [.agg #[lv, iv, ev, bv, av, dv, cv, tv, nv], .agg #[fv, ov]] w fun _ v _ => v = .bool true := by
  have hfs := hc.rf.sv
  have hos := hc.cosv
  have hE := h.evs; have hEl := hE.le
  have hEb := hB.evs
  refine enter_pur Tryz.func6 Tryz.ntmps6 rfl rfl ?_
  refine gO_ ?_
  refine wl_fx (fx_box (next := ?_)); intro bT
  refine gO_ ?_
  refine wl_fx (fx_box (next := ?_)); intro bC
  refine gO_ ?_
  refine wl_fx (fx_call_mk (spec := fun w' hw => rcopy15_spec w' (h.now hw (.head _)) hB) (next := ?_))
  rintro v n1 es w1 ⟨u1, u2, u3, u4, u5, u6, u7, u8, u9, ⟨hu1, hu2, hu3, hu4, hu5, hu6, hu7, hu8, hu9⟩, rfl, rfl⟩
  refine gO_ ?_
  refine wl_fx (fx_alloc (next := ?_)); intro b5
  refine gO_ ?_
  refine wl_fx (fx_store_box (i := 0) (hi := rfl) (next := ?_))
  refine gO_ ?_
  refine wl_fx (fx_store_box (i := 0) (hi := rfl) (next := ?_))
  refine gO_ ?_
  refine kp_nil 53 3 encBar ?_
  refine wc_loop (fun s : Nat × Value => s.1 ≤ t.evs.length ∧ SV s.2) (fun s => [(6, true, .int .i64 s.1), (5, true, .pointer (some ⟨b5, 0, none⟩)), (3, true, .pointer (some ⟨bC, 0, none⟩)), (2, true, .pointer (some ⟨bT, 0, none⟩))])
    (fun s => Mem [(w, All)] [.own s.2 53 3 encBar (barsF t.evs s.1), .box b5 [u1, u2, u3, s.2, u5, u6, u7, u8, u9] 30, .own u1 9 1 encT t.locs, .own u2 3 1 Eng.encI t.init, .own u3 49 6 encEv (evsF t.evs s.1), .own u5 125 2 encPair t.addr, .own u6 125 2 encPair t.data, .own u7 125 2 encPair t.ctrl, .own u8 104 3 encThing t.things, .own u9 106 2 encEnd t.ends, .box bC [fv, ov] 42, .box bT [lv, iv, ev, bv, av, dv, cv, tv, nv] 30]) (fun s => t.evs.length - s.1) (0, .slice none 0 0) ⟨Nat.zero_le _, sv_nil⟩ ⟨rfl, rfl, rfl, rfl, trivial⟩ (fun _ h => (h.last rfl).sel [0, 1, 2, 3, 4, 6, 7, 8, 9, 10, 11, 12] rfl (by decide)) ?_
  rintro ⟨i, sb⟩ ⟨hi, hsb⟩
  dsimp only at hi hsb ⊢
  have hel := evsF_len t.evs i
  refine gO_ ?_
  rw [hel]
  refine wc_cond rfl (fun h1 => ?_) (fun h1 => ?_)
  · have h1' : i < t.evs.length := by rw [dc_true] at h1; omega
    have hie : i < (evsF t.evs i).length := by omega
    have hge := evsF_get t.evs i h1'
    refine gO_ ?_
    rw [hge]
    refine wc_cond rfl (fun h2 => ?_) (fun h2 => ?_)
    · refine gO_ ?_
      refine wl_fx (fx_call (spec := fun w' hw => tawake_spec w' (hT.now hw (.head _))) (next := ?_))
      rintro v n9 w9 rfl hn9
      refine gO_ ?_
      refine pur_ret Tryz.results6 (.tmp rfl .nil) (.tail _ (.head _)) fun w' hw => ?_
      rfl
    · simp only [dc_eq, Bool.or_eq_false_iff, decide_eq_false_iff_not] at h2
      have hpl : 0 ≤ (t.evs.getD i default).place ∧ (t.evs.getD i default).place ≤ 100 := by omega
      refine gO_ ?_
      refine wc_drawS (fun w' => ∃ s : { ys : List Ev // ys.length = t.evs.length }, Mem [(w, All)] [.box b5 [u1, u2, u3, sb, u5, u6, u7, u8, u9] 30, .own u3 49 6 encEv s.1] w') [0, 1, 2, 3, 4, 5, 6, 7, 8, 9, 10, 11, 12] mixed (fun _ h => ⟨⟨evsF t.evs i, hel⟩, h.sel [1, 4] rfl (by decide)⟩) ?_
      refine kG_ ?_
      refine kg_a (v := u3) (h := ?_) (next := ?_)
      · exact qy_ex fun _ => qy_load_box1 (hm := .head _)
      refine kG_ ?_
      refine kg_a (v := u3) (h := ?_) (next := ?_)
      · exact qy_ex fun _ => qy_load_box1 (hm := .head _)
      refine kG_ ?_
      refine kg_a (v := .pointer (some (elt u3 6 i 0))) (h := ?_) (next := ?_)
      · exact qy_ex fun s => qy_index_own_nat (hm := .tail _ (.head _)) (hb := fun _ => by rw [s.2]; exact h1')
      refine kG_ ?_
      refine kg_f _ (h := fx_q (v := .int .i64 (t.evs.getD i default).place) (h := ?_) (next := ?_)) (hSS := fun _ h => h)
      · exact qy_val (qy_load_own1 (hm := .tail _ (.tail _ (.tail _ (.tail _ (.head _))))) (hv := rfl)) (by rw [hge])
      refine kp_S ?_ (fun _ h => ⟨⟨evsF t.evs i, hel⟩, h.sel [1, 4] rfl (by decide)⟩)
      refine kG_ ?_
      refine kg_a (v := .pointer (some (elt u3 6 i 0))) (h := ?_) (next := ?_)
      · exact qy_ex fun s => qy_index_own_nat (hm := .tail _ (.head _)) (hb := fun _ => by rw [s.2]; exact h1')
      refine kG_ ?_
      refine kg_f _ (h := fx_store_own (k := 4) (x' := dbl (t.evs.getD i default)) (hk := rfl) (hd := by rw [hge]; rfl) (next := ?_)) (hSS := fun _ h => h)
      rw [evsF_set _ _ h1']
      refine kp_S ?_ (fun _ h => ⟨⟨evsF t.evs (i + 1), evsF_len t.evs (i + 1)⟩, h.sel [1, 4] rfl (by decide)⟩)
      refine kG_ ?_
      have hel1 := evsF_len t.evs (i + 1)
      have hie1 : i < (evsF t.evs (i + 1)).length := by omega
      have hge1 := evsF_set_get t.evs i h1'
      have hbl := barsF_len t.evs i (by omega)
      have hpd : (dbl (t.evs.getD i default)).place = 2 * (t.evs.getD i default).place := rfl
      refine gO_ ?_
      refine wc_drawS (Mem [(w, All)] [.box b5 [u1, u2, u3, sb, u5, u6, u7, u8, u9] 30, .own u3 49 6 encEv (evsF t.evs (i + 1))]) [0, 1, 2, 3, 4, 5, 6, 7, 8, 9, 10, 11, 12, 13, 14, 15, 16, 17, 18, 19] mixed (fun _ h => h.sel [1, 4] rfl (by decide)) ?_
      refine kG_ ?_
      rw [hge1]
      refine kG_ ?_
      refine kg_f _ (h := fx_lit (enc := encBar) (dec := decBar) (e := 53) (sz := 3) (len := 1) (qs := [(0, [.int .i64 (dbl (t.evs.getD i default)).thread, .int .i64 ((dbl (t.evs.getD i default)).place + 1), .int .i64 1])]) (next := ?_)) (hSS := fun _ h => h)
      intro vl hvl
      refine kp_S ?_ (fun _ h => h.sel [2, 5] rfl (by decide))
      refine kG_ ?_
      refine kg_f _ (h := fx_append_own (k := 1) (hk := rfl) (hm := .head _) (hlen := by simp only [List.length_map, List.length_cons, List.length_nil]; omega) (next := ?_)) (hSS := fun _ h => h)
      intro vb hvb
      refine kp_S ?_ (fun _ h => h.sel [2, 5] rfl (by decide))
      refine kG_ ?_
      refine kg_z (h := fx_store_box (i := 2) (hi := rfl) (next := ?_))
      refine gO_ ?_
      refine po_loop (i + 1, vb) ⟨by dsimp only; omega, hvb⟩ (by dsimp only; omega) ⟨rfl, rfl, rfl, rfl, trivial⟩ (fun _ h => ?_)
      dsimp only
      rw [← barsF_succ t.evs i h1']
      exact h.tail
  · obtain rfl : i = t.evs.length := by rw [dc_false] at h1; omega
    rw [evsF_all, barsF_all]
    have hTr : ∀ {bs : List Base} {w' : World}, Mem bs [.own sb 53 3 encBar (t.evs.map barF), .box b5 [u1, u2, u3, sb, u5, u6, u7, u8, u9] 30, .own u1 9 1 encT t.locs, .own u2 3 1 Eng.encI t.init, .own u3 49 6 encEv (t.evs.map dbl), .own u5 125 2 encPair t.addr, .own u6 125 2 encPair t.data, .own u7 125 2 encPair t.ctrl, .own u8 104 3 encThing t.things, .own u9 106 2 encEnd t.ends, .box bC [fv, ov] 42, .box bT [lv, iv, ev, bv, av, dv, cv, tv, nv] 30] w' → TrIn All w' u1 u2 u3 sb u5 u6 u7 u8 u9 (fencedT t) := fun hw =>
      ⟨hw.lend (.tail _ (.tail _ (.head _))), hw.lend (.tail _ (.tail _ (.tail _ (.head _)))), hw.lend (.tail _ (.tail _ (.tail _ (.tail _ (.head _))))), hw.lend (.head _), hw.lend (.tail _ (.tail _ (.tail _ (.tail _ (.tail _ (.head _)))))), hw.lend (.tail _ (.tail _ (.tail _ (.tail _ (.tail _ (.tail _ (.head _))))))), hw.lend (.tail _ (.tail _ (.tail _ (.tail _ (.tail _ (.tail _ (.tail _ (.head _)))))))), hw.lend (.tail _ (.tail _ (.tail _ (.tail _ (.tail _ (.tail _ (.tail _ (.tail _ (.head _))))))))), hw.lend (.tail _ (.tail _ (.tail _ (.tail _ (.tail _ (.tail _ (.tail _ (.tail _ (.tail _ (.head _))))))))))⟩
    refine gO_ ?_
    refine wl_fx (fx_call (spec := fun w' hw => scons_spec (t := fencedT t) fv ov c w' (hTr hw) (hc.now hw (.head _)) (hT.now hw (.head _))) (next := ?_))
    rintro v n2 w2 rfl hn2
    refine gO_ ?_
    refine wl_fx (fx_call (spec := fun w' hw => tcons_spec (t := fencedT t) fv ov c w' (hTr hw) (hc.now hw (.tail _ (.head _))) (hT.now hw (.tail _ (.head _)))) (next := ?_))
    rintro v n3 w3 rfl hn3
    refine gO_ ?_
    refine wl_gx (h := gx_call (spec := fun _ w' hw => rCheck_spec (t := fencedT t) fv ov c w' (hTr hw) (hc.now hw (.tail _ (.tail _ (.head _)))))) (next := ?_)
    refine gO_ ?_
    refine wl_gx (h := gx_call (spec := fun _ w' hw => tawake_spec w' (hT.now hw (.tail _ (.tail _ (.head _)))))) (next := ?_)
    refine gO_ ?_
    refine pur_ret Tryz.results6 (.tmp rfl .nil) (.tail _ (.tail _ (.head _))) fun w' hw => ?_
    rw [fencedT_same]
    simp only [dc_eq, decide_true, Bool.and_true, beq_self_eq_true]
    rfl
end Go.Proofs.YtnplmhfjoemgdaaGreatDoor
