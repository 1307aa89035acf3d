/- The walks: trace.Deps, rvwmo.of, Consistent, Order, Why, Rule, Ppo (printed by gen_rv4.py). -/
import Derived.Test.YtifgncgiiojikaaGreatDoorRvD
import Derived.Test.YtifgncgiiojikaaGreatDoorVwP
set_option linter.unusedSimpArgs false
set_option linter.unusedVariables false
namespace Go.Proofs.YtifgncgiiojikaaGreatDoor
open Go Go.Eng Go.Tc Go.Rl Go.Vw
attribute [local irreducible] wpList Code.wp bodyPost Exit.then Exit.inBlock Calls
theorem pair_in {t : Tr} {l : List Pair} {w : Bool} (h : pairedB t l w = true) : InR t.evs.length l := by
  intro x hx
  obtain ⟨i, hi⟩ := List.getElem?_of_mem hx
  have hil := (List.getElem?_eq_some_iff.1 hi).1
  unfold pairedB at h
  rw [all_range] at h
  have h1 := h i hil
  have e : l.getD i default = x := by rw [List.getD_eq_getElem?_getD, hi]; rfl
  unfold pairAt pairOne at h1
  rw [e] at h1
  simp only [Bool.and_eq_true, decide_eq_true_eq] at h1
  obtain ⟨⟨⟨⟨⟨⟨q1, q2⟩, q3⟩, q4⟩, q5⟩, -⟩, -⟩ := h1
  exact ⟨by omega, by omega, by omega, by omega⟩

set_option maxHeartbeats 3200000 in
theorem tdeps_ok {lv iv ev bv av dv cv tv nv : Value} {t : Tr} (w : World) (h : TrIn All w lv iv ev bv av dv cv tv nv t) (ht : trOk t = true) :
    Mk Tryz.prog 48 [.agg #[lv, iv, ev, bv, av, dv, cv, tv, nv]] w fun _ v es _ => ∃ sa sd sc, SV sa ∧ SV sd ∧ SV sc ∧ v = .tuple #[.agg #[.int .i64 t.evs.length, sa], .agg #[.int .i64 t.evs.length, sd], .agg #[.int .i64 t.evs.length, sc], .int .i64 0] ∧ es = [ownW sa (relOf t.evs.length (memb t.addr)), ownW sd (relOf t.evs.length (memb t.data)), ownW sc (relOf t.evs.length (memb t.ctrl))] := by
  have hE := h.evs; have hEl := hE.le
  have hb := (trOk_lens ht).1
  have hz : trE t = 0 := by unfold trE; rw [if_pos ht]
  obtain ⟨g1, g2, g3⟩ := trOk_pairs ht
  have k1 := h.addr.sv; have k2 := h.data.sv; have k3 := h.ctrl.sv
  refine enter_mk Tryz.func48 Tryz.ntmps48 rfl rfl ?_
  refine gO_ ?_
  refine wl_fx (fx_box (next := ?_)); intro bt
  refine gO_ ?_
  refine wl_fx (fx_alloc (next := ?_)); intro baddr
  refine gO_ ?_
  refine wl_fx (fx_alloc (next := ?_)); intro bdata
  refine gO_ ?_
  refine wl_fx (fx_alloc (next := ?_)); intro bctrl
  refine gO_ ?_
  refine wl_fx (fx_call (spec := fun w' hw => tcheck_spec w' (h.now hw (.head _))) (next := ?_))
  rintro v n1 w1 rfl hn1
  rw [hz]
  refine gO_ ?_
  refine wc_cond rfl (fun h1 => ?_) (fun h1 => ?_)
  · simp [dc_eq] at h1
  clear h1
  refine gO_ ?_
  refine wl_fx (fx_call_mk (spec := fun w' hw => of_ok hb av t.addr w' (hw.now h.addr (.tail _ (.head _))) (pair_in g1)) (next := ?_))
  rintro v n2 es w2 ⟨sa, hsa, rfl, rfl⟩
  refine gO_ ?_
  refine wl_fx (fx_store_box (i := 3) (hi := rfl) (next := ?_))
  refine gO_ ?_
  refine wl_fx (fx_call_mk (spec := fun w' hw => of_ok hb dv t.data w' (hw.now h.data (.tail _ (.tail _ (.head _)))) (pair_in g2)) (next := ?_))
  rintro v n3 es w3 ⟨sd, hsd, rfl, rfl⟩
  refine gO_ ?_
  refine wl_fx (fx_store_box (i := 3) (hi := rfl) (next := ?_))
  refine gO_ ?_
  refine wl_fx (fx_call_mk (spec := fun w' hw => of_ok hb cv t.ctrl w' (hw.now h.ctrl (.tail _ (.tail _ (.tail _ (.head _))))) (pair_in g3)) (next := ?_))
  rintro v n4 es w4 ⟨sc, hsc, rfl, rfl⟩
  refine gO_ ?_
  refine wl_fx (fx_store_box (i := 3) (hi := rfl) (next := ?_))
  refine gO_ ?_
  refine wc_drawS (Mem [(w, All)] [.box bctrl [.int .i64 t.evs.length, sc] 60, .box bdata [.int .i64 t.evs.length, sd] 60, .box baddr [.int .i64 t.evs.length, sa] 60]) [0, 1, 2, 3, 4, 5, 6] mixed (fun _ h => (h.last rfl).sel [3, 4, 5] rfl (by decide)) ?_
  refine kG_ ?_
  refine kg_f _ (h := fx_store_box (i := 5) (hi := rfl) (next := ?_)) (hSS := fun _ h => h)
  refine kp_S ?_ (fun _ h => (h.last rfl).sel [3, 4, 5] rfl (by decide))
  refine kG_ ?_
  refine kg_f _ (h := fx_store_box (i := 4) (hi := rfl) (next := ?_)) (hSS := fun _ h => h)
  refine kp_S ?_ (fun _ h => (h.last rfl).sel [3, 4, 5] rfl (by decide))
  refine kG_ ?_
  refine kg_f _ (h := fx_store_box (i := 3) (hi := rfl) (next := ?_)) (hSS := fun _ h => h)
  refine kp_S ?_ (fun _ h => (h.last rfl).sel [3, 4, 5] rfl (by decide))
  refine kG_ ?_
  refine gO_ ?_
  refine mk_ret Tryz.results48 (.cellN inferInstance rfl (.tail _ (.tail _ (.tail _ (.tail _ (.tail _ (.head _)))))) rfl (.cellN inferInstance rfl (.tail _ (.tail _ (.tail _ (.tail _ (.head _))))) rfl (.cellN inferInstance rfl (.tail _ (.tail _ (.tail _ (.head _)))) rfl (.tmp rfl .nil)))) (.tail _ (.tail _ (.tail _ (.tail _ (.head _))))) [_, _, _] [2, 1, 0] rfl (by decide) fun w' hw => ?_
  exact ⟨sa, sd, sc, hsa, hsd, hsc, rfl, rfl⟩

/-- what rvwmo.of answers -/
def AkΨ (lv iv ev bv av dv cv tv nv fv ov : Value) (t : Tr) (c : Cd) : Nat → Value → List Ent → World → Prop := fun _ v es _ => ∃ ba s1 s2 s3 s4 s5 s6 s7 s8 s9 sf sa sd sc, (SV s1 ∧ SV s2 ∧ SV s3 ∧ SV s4 ∧ SV s5 ∧ SV s6 ∧ SV s7 ∧ SV s8 ∧ SV s9 ∧ SV sf ∧ SV sa ∧ SV sd ∧ SV sc) ∧ v = .tuple #[.pointer (some ⟨ba, 0, none⟩), .int .i64 0] ∧
  es = [.box ba (lv :: iv :: ev :: bv :: av :: dv :: cv :: tv :: nv :: fv :: ov :: .int .i64 t.evs.length :: s1 :: .int .i64 t.evs.length :: s2 :: .int .i64 t.evs.length :: s3 :: .int .i64 t.evs.length :: s4 :: .int .i64 t.evs.length :: s5 :: .int .i64 t.evs.length :: s6 :: .int .i64 t.evs.length :: s7 :: .int .i64 t.evs.length :: s8 :: .int .i64 t.evs.length :: s9 :: .int .i64 t.evs.length :: sf :: .int .i64 t.evs.length :: sa :: .int .i64 t.evs.length :: sd :: .int .i64 t.evs.length :: sc :: []) 93, ownW s1 (relOf t.evs.length (poP t)), ownW s2 (relOf t.evs.length (plP t)), ownW s3 (relOf t.evs.length (rfP t c)), ownW s4 (relOf t.evs.length (exP t (rfP t c))), ownW s5 (relOf t.evs.length (coP t c)), ownW s6 (relOf t.evs.length (exP t (coP t c))), ownW s7 (relOf t.evs.length (frP t c)), ownW s8 (relOf t.evs.length (exP t (frP t c))), ownW s9 (relOf t.evs.length (cmP t c)), ownW sf (relOf t.evs.length (fnP t)), ownW sa (relOf t.evs.length (memb t.addr)), ownW sd (relOf t.evs.length (memb t.data)), ownW sc (relOf t.evs.length (memb t.ctrl))]

theorem AkIn.made {lv iv ev bv av dv cv tv nv : Value} {t : Tr} (fv ov : Value) (c : Cd) (w : World) (h : TrIn All w lv iv ev bv av dv cv tv nv t) (hc : CdIn All w fv ov c) {ba : Nat} {s1 s2 s3 s4 s5 s6 s7 s8 s9 sf sa sd sc : Value} {bs : List Base} {H : List Ent} {w' : World} (hw : Mem bs H w') (hB : (w, All) ∈ bs) (hz : cdE t c = 0)
    (hx : Ent.box ba (lv :: iv :: ev :: bv :: av :: dv :: cv :: tv :: nv :: fv :: ov :: .int .i64 t.evs.length :: s1 :: .int .i64 t.evs.length :: s2 :: .int .i64 t.evs.length :: s3 :: .int .i64 t.evs.length :: s4 :: .int .i64 t.evs.length :: s5 :: .int .i64 t.evs.length :: s6 :: .int .i64 t.evs.length :: s7 :: .int .i64 t.evs.length :: s8 :: .int .i64 t.evs.length :: s9 :: .int .i64 t.evs.length :: sf :: .int .i64 t.evs.length :: sa :: .int .i64 t.evs.length :: sd :: .int .i64 t.evs.length :: sc :: []) 93 ∈ H) (h4 : ownW s4 (relOf t.evs.length (exP t (rfP t c))) ∈ H) (h5 : ownW s5 (relOf t.evs.length (coP t c)) ∈ H) (h7 : ownW s7 (relOf t.evs.length (frP t c)) ∈ H) (hf : ownW sf (relOf t.evs.length (fnP t)) ∈ H) (ha : ownW sa (relOf t.evs.length (memb t.addr)) ∈ H) (hd : ownW sd (relOf t.evs.length (memb t.data)) ∈ H) (hg : ownW sc (relOf t.evs.length (memb t.ctrl)) ∈ H) :
    AkIn w' ba lv iv ev bv av dv cv tv nv fv ov s1 s2 s3 s4 s5 s6 s7 s8 s9 sf sa sd sc t c :=
  ⟨hw.bx hx trivial, h.now hw hB, hc.now hw hB, hz, hw.lend h4, hw.lend h5, hw.lend h7, hw.lend hf, hw.lend ha, hw.lend hd, hw.lend hg⟩

set_option maxRecDepth 8000 in
set_option maxHeartbeats 12800000 in
theorem rvof_ok {lv iv ev bv av dv cv tv nv : Value} {t : Tr} (fv ov : Value) (c : Cd) (w : World) (h : TrIn All w lv iv ev bv av dv cv tv nv t) (hc : CdIn All w fv ov c) (hT : Tab w) (hz : cdE t c = 0) :
    Mk Tryz.prog 25 [.agg #[lv, iv, ev, bv, av, dv, cv, tv, nv], .agg #[fv, ov]] w (AkΨ lv iv ev bv av dv cv tv nv fv ov t c) := by
  have hfs := hc.rf.sv
  have hos := hc.cosv
  have g1 := h.locs.sv; have g2 := h.init.sv; have g3 := h.evs.sv; have g4 := h.bars.sv; have g5 := h.addr.sv; have g6 := h.data.sv; have g7 := h.ctrl.sv; have g8 := h.things.sv; have g9 := h.ends.sv
  have hok := (cdE_ok hz).1
  obtain ⟨hb, hlb⟩ := trOk_lens hok
  obtain ⟨hN, hR, hE0⟩ := tr_ok hok
  refine enter_mk Tryz.func25 Tryz.ntmps25 rfl rfl ?_
  refine gO_ ?_
  refine wl_fx (fx_box (next := ?_)); intro bT
  refine gO_ ?_
  refine wl_fx (fx_box (next := ?_)); intro bC
  refine gO_ ?_
  refine wl_fx (fx_call (spec := fun w' hw => ccheck_spec fv ov c w' (h.now hw (.head _)) (hc.now hw (.head _))) (next := ?_))
  rintro v n1 w1 rfl hn1
  rw [hz]
  refine gO_ ?_
  refine wc_cond rfl (fun h1 => ?_) (fun h1 => ?_)
  · simp [dc_eq] at h1
  clear h1
  refine gO_ ?_
  refine wl_fx (fx_box (next := ?_)); intro ba
  refine gO_ ?_
  refine wl_fx (fx_call_mk (spec := fun w' hw => vof_spec fv ov c w' (h.now hw (.tail _ (.head _))) (hc.now hw (.tail _ (.head _))) (hT.now hw (.tail _ (.head _)))) (next := ?_))
  rintro v n2 es w2 ⟨s1, s2, s3, s4, s5, s6, s7, s8, s9, ⟨hs1, hs2, hs3, hs4, hs5, hs6, hs7, hs8, hs9⟩, rfl, rfl⟩
  rw [vwOf_ok hz, hz]
  (refine gO_ ?_; repeat ((first | refine wl_a (h := qy_nilCheck) (next := ?_) | refine wl_ag (h := qy_nilCheck) (next := ?_)); refine gO_ ?_))
  refine wl_fx (fx_store_box (i := 9) (hi := rfl) (next := ?_))
  (refine gO_ ?_; repeat ((first | refine wl_a (h := qy_nilCheck) (next := ?_) | refine wl_ag (h := qy_nilCheck) (next := ?_)); refine gO_ ?_))
  refine wc_cond rfl (fun h2 => ?_) (fun h2 => ?_)
  · simp [dc_eq] at h2
  clear h2
  (refine gO_ ?_; repeat ((first | refine wl_a (h := qy_nilCheck) (next := ?_) | refine wl_ag (h := qy_nilCheck) (next := ?_)); refine gO_ ?_))
  refine wl_fx (fx_call_mk (spec := fun w' hw => tfenced_spec (t := t) w' (h.now hw (.tail _ (.tail _ (.head _))))) (next := ?_))
  rintro v n3 es w3 ⟨sf, hsf, rfl, rfl⟩
  rw [hN, hR (fnP t)]
  (refine gO_ ?_; repeat ((first | refine wl_a (h := qy_nilCheck) (next := ?_) | refine wl_ag (h := qy_nilCheck) (next := ?_)); refine gO_ ?_))
  refine wl_fx (fx_store_box (i := 10) (hi := rfl) (next := ?_))
  (refine gO_ ?_; repeat ((first | refine wl_a (h := qy_nilCheck) (next := ?_) | refine wl_ag (h := qy_nilCheck) (next := ?_)); refine gO_ ?_))
  refine wl_fx (fx_call_mk (spec := fun w' hw => tdeps_ok (t := t) w' (h.now hw (.tail _ (.tail _ (.tail _ (.head _))))) hok) (next := ?_))
  rintro v n4 es w4 ⟨sa, sd, sc, hsa, hsd, hsc, rfl, rfl⟩
  (refine gO_ ?_; repeat ((first | refine wl_a (h := qy_nilCheck) (next := ?_) | refine wl_ag (h := qy_nilCheck) (next := ?_)); refine gO_ ?_))
  refine wl_fx (fx_store_box (i := 13) (hi := rfl) (next := ?_))
  (refine gO_ ?_; repeat ((first | refine wl_a (h := qy_nilCheck) (next := ?_) | refine wl_ag (h := qy_nilCheck) (next := ?_)); refine gO_ ?_))
  refine wl_fx (fx_store_box (i := 13) (hi := rfl) (next := ?_))
  (refine gO_ ?_; repeat ((first | refine wl_a (h := qy_nilCheck) (next := ?_) | refine wl_ag (h := qy_nilCheck) (next := ?_)); refine gO_ ?_))
  refine wl_fx (fx_store_box (i := 13) (hi := rfl) (next := ?_))
  (refine gO_ ?_; repeat ((first | refine wl_a (h := qy_nilCheck) (next := ?_) | refine wl_ag (h := qy_nilCheck) (next := ?_)); refine gO_ ?_))
  refine mk_ret Tryz.results25 (.tmp rfl (.tmp rfl .nil)) (.tail _ (.tail _ (.tail _ (.tail _ (.head _))))) [_, _, _, _, _, _, _, _, _, _, _, _, _, _] [13, 4, 5, 6, 7, 8, 9, 10, 11, 12, 3, 0, 1, 2] rfl (by decide) fun w' hw => ?_
  exact ⟨ba, s1, s2, s3, s4, s5, s6, s7, s8, s9, sf, sa, sd, sc, ⟨hs1, hs2, hs3, hs4, hs5, hs6, hs7, hs8, hs9, hsf, hsa, hsd, hsc⟩, rfl, rfl⟩

set_option maxHeartbeats 3200000 in
theorem rvof_no {lv iv ev bv av dv cv tv nv : Value} {t : Tr} (fv ov : Value) (c : Cd) (w : World) (h : TrIn All w lv iv ev bv av dv cv tv nv t) (hc : CdIn All w fv ov c) (hz : ¬ cdE t c = 0) :
    Pur Tryz.prog 25 [.agg #[lv, iv, ev, bv, av, dv, cv, tv, nv], .agg #[fv, ov]] w fun _ v _ => v = .tuple #[.pointer none, .int .i64 (cdE t c)] := by
  have hfs := hc.rf.sv
  have hos := hc.cosv
  have g1 := h.locs.sv; have g2 := h.init.sv; have g3 := h.evs.sv; have g4 := h.bars.sv; have g5 := h.addr.sv; have g6 := h.data.sv; have g7 := h.ctrl.sv; have g8 := h.things.sv; have g9 := h.ends.sv
  refine enter_pur Tryz.func25 Tryz.ntmps25 rfl rfl ?_
  refine gO_ ?_
  refine wl_fx (fx_box (next := ?_)); intro bT
  refine gO_ ?_
  refine wl_fx (fx_box (next := ?_)); intro bC
  refine gO_ ?_
  refine wl_fx (fx_call (spec := fun w' hw => ccheck_spec fv ov c w' (h.now hw (.head _)) (hc.now hw (.head _))) (next := ?_))
  rintro v n1 w1 rfl hn1
  refine gO_ ?_
  refine wc_cond rfl (fun h1 => ?_) (fun h1 => ?_)
  · refine gO_ ?_
    exact pur_ret Tryz.results25 (.tmp rfl (.tmp rfl .nil)) (.tail _ (.head _)) fun w' hw => rfl
  · rw [Bool.not_eq_false', dc_true] at h1
    exact absurd h1 hz

set_option maxRecDepth 8000 in
set_option maxHeartbeats 6400000 in
theorem rvcons_spec {lv iv ev bv av dv cv tv nv : Value} {t : Tr} (fv ov : Value) (c : Cd) (w : World) (h : TrIn All w lv iv ev bv av dv cv tv nv t) (hc : CdIn All w fv ov c) (hT : Tab w) :
    Pur Tryz.prog 10 [.agg #[lv, iv, ev, bv, av, dv, cv, tv, nv], .agg #[fv, ov]] w fun _ v _ => v = .tuple #[.bool (rvB t c), .int .i64 (cdE t c)] := by
  have hfs := hc.rf.sv
  have hos := hc.cosv
  have g1 := h.locs.sv; have g2 := h.init.sv; have g3 := h.evs.sv; have g4 := h.bars.sv; have g5 := h.addr.sv; have g6 := h.data.sv; have g7 := h.ctrl.sv; have g8 := h.things.sv; have g9 := h.ends.sv
  refine enter_pur Tryz.func10 Tryz.ntmps10 rfl rfl ?_
  refine gO_ ?_
  refine wl_fx (fx_box (next := ?_)); intro bT
  refine gO_ ?_
  refine wl_fx (fx_box (next := ?_)); intro bC
  refine gO_ ?_
  by_cases hz : cdE t c = 0
  · have hb := (trOk_lens (cdE_ok hz).1).1
    refine wl_fx (fx_call_mk (spec := fun w' hw => rvof_ok fv ov c w' (h.now hw (.head _)) (hc.now hw (.head _)) (hT.now hw (.head _)) hz) (next := ?_))
    rintro v n1 es w1 ⟨ba, s1, s2, s3, s4, s5, s6, s7, s8, s9, sf, sa, sd, sc, ⟨hs1, hs2, hs3, hs4, hs5, hs6, hs7, hs8, hs9, hsf, hsa, hsd, hsc⟩, rfl, rfl⟩
    refine gO_ ?_
    refine wc_cond rfl (fun h1 => ?_) (fun h1 => ?_)
    · simp [dc_eq] at h1
    clear h1
    refine gO_ ?_
    refine wl_fx (fx_call (spec := fun w' hw => vcoh_spec fv ov c w' (h.now hw (.tail _ (.head _))) (hc.now hw (.tail _ (.head _))) (hT.now hw (.tail _ (.head _)))) (next := ?_))
    rintro v n2 w2 rfl hn2
    refine gO_ ?_
    refine wc_cond rfl (fun h2 => ?_) (fun h2 => ?_)
    · rw [Bool.not_eq_true'] at h2
      refine gO_ ?_
      refine pur_ret Tryz.results10 (.tmp rfl (.tmp rfl .nil)) (.tail _ (.tail _ (.head _))) fun w' hw => ?_
      unfold rvB; rw [h2, hz]; rfl
    · rw [Bool.not_eq_false'] at h2
      refine gO_ ?_
      refine wl_fx (fx_call_mk (spec := fun w' hw => rvhapp_spec w' (AkIn.made fv ov c w h hc hw (.tail _ (.tail _ (.head _))) hz (.head _) (.tail _ (.tail _ (.tail _ (.tail _ (.head _))))) (.tail _ (.tail _ (.tail _ (.tail _ (.tail _ (.head _)))))) (.tail _ (.tail _ (.tail _ (.tail _ (.tail _ (.tail _ (.tail _ (.head _)))))))) (.tail _ (.tail _ (.tail _ (.tail _ (.tail _ (.tail _ (.tail _ (.tail _ (.tail _ (.tail _ (.head _))))))))))) (.tail _ (.tail _ (.tail _ (.tail _ (.tail _ (.tail _ (.tail _ (.tail _ (.tail _ (.tail _ (.tail _ (.head _)))))))))))) (.tail _ (.tail _ (.tail _ (.tail _ (.tail _ (.tail _ (.tail _ (.tail _ (.tail _ (.tail _ (.tail _ (.tail _ (.head _))))))))))))) (.tail _ (.tail _ (.tail _ (.tail _ (.tail _ (.tail _ (.tail _ (.tail _ (.tail _ (.tail _ (.tail _ (.tail _ (.tail _ (.head _)))))))))))))))) (next := ?_))
      rintro v n3 es w3 ⟨sh, hsh, rfl, rfl⟩
      refine gO_ ?_
      refine wl_fx (fx_call (spec := fun w' hw => acyclic_spec t.evs.length sh (relOf t.evs.length (rhP t c)) w' (hw.lend (.head _))) (next := ?_))
      rintro v n4 w4 rfl hn4
      refine gO_ ?_
      refine pur_ret Tryz.results10 (.tmp rfl (.tmp rfl .nil)) (.tail _ (.tail _ (.tail _ (.tail _ (.head _))))) fun w' hw => ?_
      unfold rvB; rw [h2, hz, relOk_relOf _ _ hb]; rfl
  · refine wl_fx (fx_call (spec := fun w' hw => rvof_no fv ov c w' (h.now hw (.head _)) (hc.now hw (.head _)) hz) (next := ?_))
    rintro v n1 w1 rfl hn1
    refine gO_ ?_
    refine wc_cond rfl (fun h1 => ?_) (fun h1 => ?_)
    · refine gO_ ?_
      refine pur_ret Tryz.results10 (.tmp rfl (.tmp rfl .nil)) (.tail _ (.head _)) fun w' hw => ?_
      unfold rvB; rw [cohB_bad hz]; rfl
    · rw [Bool.not_eq_false', dc_true] at h1
      exact absurd h1 hz

def rvordE (t : Tr) (c : Cd) : Int := if cdE t c = 0 then if rvB t c = true then 0 else 181 else cdE t c
def rvordL (t : Tr) (c : Cd) : List Int := if rvB t c = true then lineS t.evs.length (relOf t.evs.length (rhP t c)) else []
theorem rvB_z {t : Tr} {c : Cd} (h : rvB t c = true) : cdE t c = 0 ∧ cohB t c = true ∧ acyP t (rhP t c) = true := by
  unfold rvB at h
  rw [Bool.and_eq_true] at h
  refine ⟨?_, h.1, h.2⟩
  by_cases q : cdE t c = 0
  · exact q
  · rw [cohB_bad q] at h; cases h.1
theorem rvB_bad {t : Tr} {c : Cd} (h : ¬ cdE t c = 0) : rvB t c = false := by unfold rvB; rw [cohB_bad h]; rfl

end Go.Proofs.YtifgncgiiojikaaGreatDoor