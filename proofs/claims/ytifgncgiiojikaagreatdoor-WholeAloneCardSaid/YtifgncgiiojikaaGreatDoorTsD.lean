/- The walks: tso's model, Consistent, Order, Why; alembicref19.Happens, Consistent, Why (printed by gen_tso.py). -/
import Derived.Test.YtifgncgiiojikaaGreatDoorTsC
import Derived.Test.YtifgncgiiojikaaGreatDoorVwP
set_option linter.unusedSimpArgs false
set_option linter.unusedVariables false
namespace Go.Proofs.YtifgncgiiojikaaGreatDoor
open Go Go.Eng Go.Tc Go.Rl Go.Vw
attribute [local irreducible] wpList Code.wp bodyPost Exit.then Exit.inBlock Calls
instance : EncOf Tryz.prog 70 encV decV := ⟨trivial⟩
def accP (t : Tr) (c : Cd) : Nat → Nat → Nat → Bool
  | 0 => ppP t
  | 1 => fun i j => ppP t i j || exP t (rfP t c) i j
  | 2 => fun i j => (ppP t i j || exP t (rfP t c) i j) || coP t c i j
  | _ => tsP t c
def thisP (t : Tr) (c : Cd) : Nat → Nat → Nat → Bool
  | 0 => exP t (rfP t c)
  | 1 => coP t c
  | _ => frP t c
theorem accP_succ (t : Tr) (c : Cd) {i : Nat} (h : i < 3) : accP t c (i + 1) = fun a b => accP t c i a b || thisP t c i a b := by
  rcases i with _ | _ | _ | i
  · rfl
  · rfl
  · rfl
  · omega
theorem tr_ok {t : Tr} (h1 : trOk t = true) : trN t = (t.evs.length : Int) ∧ (∀ p, trR t p = relOf t.evs.length p) ∧ trE t = 0 := by
  refine ⟨?_, fun p => ?_, ?_⟩
  · unfold trN; rw [if_pos h1]
  · unfold trR; rw [if_pos h1]
  · unfold trE; rw [if_pos h1]

set_option maxHeartbeats 3200000 in
theorem theld_spec {lv iv ev bv av dv cv tv nv : Value} {t : Tr} (fv ov : Value) (c : Cd) (s1 s2 s3 s4 s5 s6 s7 s8 s9 : Value) (w : World) (h : TrIn All w lv iv ev bv av dv cv tv nv t) (hc : CdIn All w fv ov c) (r4 : Sl All w encW 1 s4 (relOf t.evs.length (exP t (rfP t c)))) (r5 : Sl All w encW 1 s5 (relOf t.evs.length (coP t c))) (r7 : Sl All w encW 1 s7 (relOf t.evs.length (frP t c))) (hs1 : SV s1) (hs2 : SV s2) (hs3 : SV s3) (hs4 : SV s4) (hs5 : SV s5) (hs6 : SV s6) (hs7 : SV s7) (hs8 : SV s8) (hs9 : SV s9) (hz : cdE t c = 0) :
    Mk Tryz.prog 68 [.agg #[lv, iv, ev, bv, av, dv, cv, tv, nv, fv, ov, .int .i64 t.evs.length, s1, .int .i64 t.evs.length, s2, .int .i64 t.evs.length, s3, .int .i64 t.evs.length, s4, .int .i64 t.evs.length, s5, .int .i64 t.evs.length, s6, .int .i64 t.evs.length, s7, .int .i64 t.evs.length, s8, .int .i64 t.evs.length, s9]] w (Rel1Ψ t.evs.length (relOf t.evs.length (tsP t c))) := by
  have hfs := hc.rf.sv
  have hos := hc.cosv
  have h1 := (cdE_ok hz).1
  obtain ⟨hb, hlb⟩ := trOk_lens h1
  obtain ⟨hN, hR, hE0⟩ := tr_ok h1
  refine enter_mk Tryz.func68 Tryz.ntmps68 rfl rfl ?_
  refine gO_ ?_
  refine wl_fx (fx_box (next := ?_)); intro bm
  refine gO_ ?_
  refine wl_fx (fx_alloc (next := ?_)); intro b2
  refine gO_ ?_
  refine wl_fx (fx_call_mk (spec := fun w' hw => tppo_spec (t := t) w' (h.now hw (.head _))) (next := ?_))
  rintro v n1 es w1 ⟨s0, hs0, rfl, rfl⟩
  rw [hN, hR (ppP t)]
  refine gO_ ?_
  refine wl_fx (fx_alloc (next := ?_)); intro b3
  refine gO_ ?_
  refine wl_fx (fx_store_box (i := 0) (hi := rfl) (next := ?_))
  refine gO_ ?_
  refine wl_fx (fx_lit (next := ?_))
  intro rv hrv
  generalize hxs : (List.map _ _ : List RelV) = xs
  have hxs : xs = [⟨t.evs.length, s4⟩, ⟨t.evs.length, s5⟩, ⟨t.evs.length, s7⟩] := hxs.symm
  have hxl : xs.length = 3 := by rw [hxs]; rfl
  have hxi : ∀ i, i < 3 → (xs.getD i default).n = t.evs.length ∧ SV (xs.getD i default).s ∧ Sl All w encW 1 (xs.getD i default).s (relOf t.evs.length (thisP t c i)) := fun i hi => by
    rw [hxs]
    rcases i with _ | _ | _ | i
    · exact ⟨rfl, hs4, r4⟩
    · exact ⟨rfl, hs5, r5⟩
    · exact ⟨rfl, hs7, r7⟩
    · omega
  refine gO_ ?_
  rw [hxl]
  refine wc_loop (fun s : Nat × Value => s.1 ≤ 3 ∧ SV s.2) (fun s => [(24, true, .int .i64 s.1), (23, true, .int .i64 (3 : Nat)), (22, true, rv), (3, true, .pointer (some ⟨b3, 0, none⟩)), (2, true, .pointer (some ⟨b2, 0, none⟩))])
    (fun s => Mem [(w, All)] [.own rv 60 2 encRelV xs, .box b3 [.int .i64 t.evs.length, s.2] 60, ownW s.2 (relOf t.evs.length (accP t c s.1)), .box b2 [.int .i64 0, .slice none 0 0] 60, .box bm [lv, iv, ev, bv, av, dv, cv, tv, nv, fv, ov, .int .i64 t.evs.length, s1, .int .i64 t.evs.length, s2, .int .i64 t.evs.length, s3, .int .i64 t.evs.length, s4, .int .i64 t.evs.length, s5, .int .i64 t.evs.length, s6, .int .i64 t.evs.length, s7, .int .i64 t.evs.length, s8, .int .i64 t.evs.length, s9] 67]) (fun s => 3 - s.1) (0, s0) ⟨Nat.zero_le _, hs0⟩ ⟨rfl, rfl, rfl, rfl, rfl, trivial⟩ (fun _ h => h.last rfl) ?_
  rintro ⟨i, sa⟩ ⟨hi, hsa⟩
  dsimp only at hi hsa ⊢
  refine gO_ ?_
  refine wc_cond rfl (fun h2 => ?_) (fun h2 => ?_)
  · have h2' : i < 3 := by rw [dc_true] at h2; omega
    obtain ⟨hxn, hxv, hxr⟩ := hxi i h2'
    have hxi' : i < xs.length := by omega
    refine gO_ ?_
    refine wl_fx (fx_alloc (next := ?_)); intro b6
    generalize xs.getD i default = x at hxn hxv hxr ⊢
    obtain ⟨xn, xv⟩ := x
    dsimp only at hxn hxv hxr
    subst hxn
    refine gO_ ?_
    refine wl_fx (fx_store_box (i := 0) (hi := rfl) (next := ?_))
    refine gO_ ?_
    refine wl_fx (fx_call_mk (spec := fun w' hw => union_ok (relOk_relOf _ (accP t c i) hb) (relOk_relOf _ (thisP t c i) hb) (hw.lend (.tail _ (.tail _ (.tail _ (.head _))))) (hw.now hxr (.head _))) (next := ?_))
    rintro v n2 es w2 ⟨sb, hsb, rfl, rfl⟩
    rw [relOf_uni hb, ← accP_succ t c h2']
    refine gO_ ?_
    refine wl_fx (fx_store_box (i := 3) (hi := rfl) (next := ?_))
    refine gO_ ?_
    exact po_loop (i + 1, sb) ⟨by dsimp only; omega, hsb⟩ (by dsimp only; omega) ⟨rfl, rfl, rfl, rfl, rfl, trivial⟩ (fun _ h => (h.last rfl).sel [2, 3, 0, 5, 6] rfl (by decide))
  · obtain rfl : i = 3 := by rw [dc_false] at h2; omega
    refine gO_ ?_
    refine wl_fx (fx_store_box (i := 3) (hi := rfl) (next := ?_))
    refine gO_ ?_
    exact mk_ret Tryz.results68 (.cellN inferInstance rfl (.tail _ (.tail _ (.tail _ (.head _)))) rfl .nil) (.head _) [_] [2] rfl (by decide) fun w' hw => ⟨sa, hsa, rfl, rfl⟩

set_option maxHeartbeats 1600000 in
theorem tcoh_spec {lv iv ev bv av dv cv tv nv : Value} {t : Tr} (fv ov : Value) (c : Cd) (s1 s2 s3 s4 s5 s6 s7 s8 s9 : Value) (w : World) (h : TrIn All w lv iv ev bv av dv cv tv nv t) (hc : CdIn All w fv ov c) (hs1 : SV s1) (hs2 : SV s2) (hs3 : SV s3) (hs4 : SV s4) (hs5 : SV s5) (hs6 : SV s6) (hs7 : SV s7) (hs8 : SV s8) (hs9 : SV s9) (hT : Tab w) :
    Pur Tryz.prog 45 [.agg #[lv, iv, ev, bv, av, dv, cv, tv, nv, fv, ov, .int .i64 t.evs.length, s1, .int .i64 t.evs.length, s2, .int .i64 t.evs.length, s3, .int .i64 t.evs.length, s4, .int .i64 t.evs.length, s5, .int .i64 t.evs.length, s6, .int .i64 t.evs.length, s7, .int .i64 t.evs.length, s8, .int .i64 t.evs.length, s9]] w fun _ v _ => v = .bool (cohB t c) := by
  have hfs := hc.rf.sv
  have hos := hc.cosv
  refine enter_pur Tryz.func45 Tryz.ntmps45 rfl rfl ?_
  refine gO_ ?_
  refine wl_fx (fx_box (next := ?_)); intro bm
  refine gO_ ?_
  refine wl_fx (fx_call (spec := fun w' hw => vcoh_spec fv ov c w' (h.now hw (.head _)) (hc.now hw (.head _)) (hT.now hw (.head _))) (next := ?_))
  rintro v n1 w1 rfl hn1
  refine gO_ ?_
  refine pur_ret Tryz.results45 (.tmp rfl .nil) (.tail _ (.head _)) fun w' hw => ?_
  rfl

set_option maxHeartbeats 1600000 in
theorem tfree_spec {lv iv ev bv av dv cv tv nv : Value} {t : Tr} (fv ov : Value) (c : Cd) (s1 s2 s3 s4 s5 s6 s7 s8 s9 : Value) (w : World) (h : TrIn All w lv iv ev bv av dv cv tv nv t) (hc : CdIn All w fv ov c) (r4 : Sl All w encW 1 s4 (relOf t.evs.length (exP t (rfP t c)))) (r5 : Sl All w encW 1 s5 (relOf t.evs.length (coP t c))) (r7 : Sl All w encW 1 s7 (relOf t.evs.length (frP t c))) (hs1 : SV s1) (hs2 : SV s2) (hs3 : SV s3) (hs4 : SV s4) (hs5 : SV s5) (hs6 : SV s6) (hs7 : SV s7) (hs8 : SV s8) (hs9 : SV s9) (hz : cdE t c = 0) :
    Pur Tryz.prog 46 [.agg #[lv, iv, ev, bv, av, dv, cv, tv, nv, fv, ov, .int .i64 t.evs.length, s1, .int .i64 t.evs.length, s2, .int .i64 t.evs.length, s3, .int .i64 t.evs.length, s4, .int .i64 t.evs.length, s5, .int .i64 t.evs.length, s6, .int .i64 t.evs.length, s7, .int .i64 t.evs.length, s8, .int .i64 t.evs.length, s9]] w fun _ v _ => v = .bool (acyP t (tsP t c)) := by
  have hfs := hc.rf.sv
  have hos := hc.cosv
  refine enter_pur Tryz.func46 Tryz.ntmps46 rfl rfl ?_
  refine gO_ ?_
  refine wl_fx (fx_box (next := ?_)); intro bm
  refine gO_ ?_
  refine wl_fx (fx_call_mk (spec := fun w' hw => theld_spec fv ov c s1 s2 s3 s4 s5 s6 s7 s8 s9 w' (h.now hw (.head _)) (hc.now hw (.head _)) (hw.now r4 (.head _)) (hw.now r5 (.head _)) (hw.now r7 (.head _)) hs1 hs2 hs3 hs4 hs5 hs6 hs7 hs8 hs9 hz) (next := ?_))
  rintro v n1 es w1 ⟨s, hs, rfl, rfl⟩
  refine gO_ ?_
  refine wl_fx (fx_call (spec := fun w' hw => acyclic_spec t.evs.length s (relOf t.evs.length (tsP t c)) w' (hw.lend (.head _))) (next := ?_))
  rintro v n2 w2 rfl hn2
  refine gO_ ?_
  refine pur_ret Tryz.results46 (.tmp rfl .nil) (.tail _ (.tail _ (.head _))) fun w' hw => ?_
  rfl

set_option maxHeartbeats 3200000 in
theorem tmay_spec {lv iv ev bv av dv cv tv nv : Value} {t : Tr} (fv ov : Value) (c : Cd) (s1 s2 s3 s4 s5 s6 s7 s8 s9 : Value) (w : World) (h : TrIn All w lv iv ev bv av dv cv tv nv t) (hc : CdIn All w fv ov c) (r4 : Sl All w encW 1 s4 (relOf t.evs.length (exP t (rfP t c)))) (r5 : Sl All w encW 1 s5 (relOf t.evs.length (coP t c))) (r7 : Sl All w encW 1 s7 (relOf t.evs.length (frP t c))) (hs1 : SV s1) (hs2 : SV s2) (hs3 : SV s3) (hs4 : SV s4) (hs5 : SV s5) (hs6 : SV s6) (hs7 : SV s7) (hs8 : SV s8) (hs9 : SV s9) (hz : cdE t c = 0) (hT : Tab w) :
    Pur Tryz.prog 24 [.agg #[lv, iv, ev, bv, av, dv, cv, tv, nv, fv, ov, .int .i64 t.evs.length, s1, .int .i64 t.evs.length, s2, .int .i64 t.evs.length, s3, .int .i64 t.evs.length, s4, .int .i64 t.evs.length, s5, .int .i64 t.evs.length, s6, .int .i64 t.evs.length, s7, .int .i64 t.evs.length, s8, .int .i64 t.evs.length, s9]] w fun _ v _ => v = .bool (tsB t c) := by
  have hfs := hc.rf.sv
  have hos := hc.cosv
  refine enter_pur Tryz.func24 Tryz.ntmps24 rfl rfl ?_
  refine gO_ ?_
  refine wl_fx (fx_box (next := ?_)); intro bm
  refine gO_ ?_
  refine wl_fx (fx_lit (next := ?_))
  intro rv hrv
  generalize hxs : (List.map _ _ : List Value) = xs
  have hxs : xs = [.func (.func 45) #[.agg #[lv, iv, ev, bv, av, dv, cv, tv, nv, fv, ov, .int .i64 t.evs.length, s1, .int .i64 t.evs.length, s2, .int .i64 t.evs.length, s3, .int .i64 t.evs.length, s4, .int .i64 t.evs.length, s5, .int .i64 t.evs.length, s6, .int .i64 t.evs.length, s7, .int .i64 t.evs.length, s8, .int .i64 t.evs.length, s9]] #[], .func (.func 46) #[.agg #[lv, iv, ev, bv, av, dv, cv, tv, nv, fv, ov, .int .i64 t.evs.length, s1, .int .i64 t.evs.length, s2, .int .i64 t.evs.length, s3, .int .i64 t.evs.length, s4, .int .i64 t.evs.length, s5, .int .i64 t.evs.length, s6, .int .i64 t.evs.length, s7, .int .i64 t.evs.length, s8, .int .i64 t.evs.length, s9]] #[]] := hxs.symm
  have hxl : xs.length = 2 := by rw [hxs]; rfl
  refine gO_ ?_
  rw [hxl]
  refine wc_loop (fun i : Nat => i ≤ 2 ∧ (0 < i → cohB t c = true) ∧ (1 < i → acyP t (tsP t c) = true)) (fun i => [(11, true, .int .i64 i), (10, true, .int .i64 (2 : Nat)), (9, true, rv)])
    (fun _ => Mem [(w, All)] [.own rv 70 1 encV xs]) (fun i => 2 - i) 0 ⟨Nat.zero_le _, fun q => absurd q (Nat.lt_irrefl _), fun q => absurd q (by omega)⟩ ⟨rfl, rfl, rfl, trivial⟩ (fun _ h => (h.last rfl).sel [0] rfl (by decide)) ?_
  rintro i ⟨hi, hi0, hi1⟩
  refine gO_ ?_
  refine wc_cond rfl (fun h2 => ?_) (fun h2 => ?_)
  · have h2' : i < 2 := by rw [dc_true] at h2; omega
    have hxi' : i < xs.length := by omega
    obtain rfl | rfl : i = 0 ∨ i = 1 := by omega
    · refine gO_ ?_
      rw [show xs.getD 0 default = .func (.func 45) #[.agg #[lv, iv, ev, bv, av, dv, cv, tv, nv, fv, ov, .int .i64 t.evs.length, s1, .int .i64 t.evs.length, s2, .int .i64 t.evs.length, s3, .int .i64 t.evs.length, s4, .int .i64 t.evs.length, s5, .int .i64 t.evs.length, s6, .int .i64 t.evs.length, s7, .int .i64 t.evs.length, s8, .int .i64 t.evs.length, s9]] #[] by rw [hxs]; rfl]
      refine wl_fx (fx_call (k := 45) (first := [.agg #[lv, iv, ev, bv, av, dv, cv, tv, nv, fv, ov, .int .i64 t.evs.length, s1, .int .i64 t.evs.length, s2, .int .i64 t.evs.length, s3, .int .i64 t.evs.length, s4, .int .i64 t.evs.length, s5, .int .i64 t.evs.length, s6, .int .i64 t.evs.length, s7, .int .i64 t.evs.length, s8, .int .i64 t.evs.length, s9]]) (cap := []) (spec := fun w' hw => tcoh_spec fv ov c s1 s2 s3 s4 s5 s6 s7 s8 s9 w' (h.now hw (.head _)) (hc.now hw (.head _)) hs1 hs2 hs3 hs4 hs5 hs6 hs7 hs8 hs9 (hT.now hw (.head _))) (next := ?_))
      rintro v n1 w1 rfl hn1
      refine gO_ ?_
      refine wc_cond rfl (fun h3 => ?_) (fun h3 => ?_)
      · rw [Bool.not_eq_true'] at h3
        refine gO_ ?_
        refine pur_ret Tryz.results24 (.tmp rfl .nil) (.tail _ (.head _)) fun w' hw => ?_
        unfold tsB; rw [h3]; rfl
      · rw [Bool.not_eq_false'] at h3
        refine gO_ ?_
        exact po_loop 1 ⟨by omega, fun _ => h3, fun q => absurd q (by omega)⟩ (by omega) ⟨rfl, rfl, rfl, trivial⟩ (fun _ h => h.last rfl)
    · refine gO_ ?_
      rw [show xs.getD 1 default = .func (.func 46) #[.agg #[lv, iv, ev, bv, av, dv, cv, tv, nv, fv, ov, .int .i64 t.evs.length, s1, .int .i64 t.evs.length, s2, .int .i64 t.evs.length, s3, .int .i64 t.evs.length, s4, .int .i64 t.evs.length, s5, .int .i64 t.evs.length, s6, .int .i64 t.evs.length, s7, .int .i64 t.evs.length, s8, .int .i64 t.evs.length, s9]] #[] by rw [hxs]; rfl]
      refine wl_fx (fx_call (k := 46) (first := [.agg #[lv, iv, ev, bv, av, dv, cv, tv, nv, fv, ov, .int .i64 t.evs.length, s1, .int .i64 t.evs.length, s2, .int .i64 t.evs.length, s3, .int .i64 t.evs.length, s4, .int .i64 t.evs.length, s5, .int .i64 t.evs.length, s6, .int .i64 t.evs.length, s7, .int .i64 t.evs.length, s8, .int .i64 t.evs.length, s9]]) (cap := []) (spec := fun w' hw => tfree_spec fv ov c s1 s2 s3 s4 s5 s6 s7 s8 s9 w' (h.now hw (.head _)) (hc.now hw (.head _)) (hw.now r4 (.head _)) (hw.now r5 (.head _)) (hw.now r7 (.head _)) hs1 hs2 hs3 hs4 hs5 hs6 hs7 hs8 hs9 hz) (next := ?_))
      rintro v n1 w1 rfl hn1
      refine gO_ ?_
      refine wc_cond rfl (fun h3 => ?_) (fun h3 => ?_)
      · rw [Bool.not_eq_true'] at h3
        refine gO_ ?_
        refine pur_ret Tryz.results24 (.tmp rfl .nil) (.tail _ (.head _)) fun w' hw => ?_
        unfold tsB; rw [h3, Bool.and_false]; rfl
      · rw [Bool.not_eq_false'] at h3
        refine gO_ ?_
        exact po_loop 2 ⟨by omega, fun _ => hi0 (by omega), fun _ => h3⟩ (by omega) ⟨rfl, rfl, rfl, trivial⟩ (fun _ h => h.last rfl)
  · obtain rfl : i = 2 := by rw [dc_false] at h2; omega
    refine gO_ ?_
    refine pur_ret Tryz.results24 (.tmp rfl .nil) (.head _) fun w' hw => ?_
    unfold tsB; rw [hi0 (by omega), hi1 (by omega)]; rfl

set_option maxHeartbeats 3200000 in
theorem made_no {lv iv ev bv av dv cv tv nv : Value} {t : Tr} (fv ov : Value) (c : Cd) (w : World) (h : TrIn All w lv iv ev bv av dv cv tv nv t) (hc : CdIn All w fv ov c) (hT : Tab w) (hz : ¬ cdE t c = 0) :
    Pur Tryz.prog 23 [.agg #[lv, iv, ev, bv, av, dv, cv, tv, nv], .agg #[fv, ov]] w fun _ v _ => v = .tuple #[.agg #[.slice none 0 0, .slice none 0 0, .slice none 0 0, .slice none 0 0, .slice none 0 0, .slice none 0 0, .slice none 0 0, .slice none 0 0, .slice none 0 0, .slice none 0 0, .slice none 0 0, .int .i64 0, .slice none 0 0, .int .i64 0, .slice none 0 0, .int .i64 0, .slice none 0 0, .int .i64 0, .slice none 0 0, .int .i64 0, .slice none 0 0, .int .i64 0, .slice none 0 0, .int .i64 0, .slice none 0 0, .int .i64 0, .slice none 0 0, .int .i64 0, .slice none 0 0], .int .i64 (cdE t c)] := by
  have hfs := hc.rf.sv
  have hos := hc.cosv
  refine enter_pur Tryz.func23 Tryz.ntmps23 rfl rfl ?_
  refine gO_ ?_
  refine wl_fx (fx_box (next := ?_)); intro bT
  refine gO_ ?_
  refine wl_fx (fx_box (next := ?_)); intro bC
  refine gO_ ?_
  refine wl_fx (fx_alloc (next := ?_)); intro b4
  refine gO_ ?_
  refine wl_fx (fx_call (spec := fun w' hw => ccheck_spec fv ov c w' (h.now hw (.head _)) (hc.now hw (.head _))) (next := ?_))
  rintro v n1 w1 rfl hn1
  refine gO_ ?_
  refine wc_cond rfl (fun h1 => ?_) (fun h1 => ?_)
  · refine gO_ ?_
    refine wl_fx (fx_store_box (i := 0) (hi := rfl) (next := ?_))
    refine gO_ ?_
    refine pur_ret Tryz.results23 (.cellN inferInstance rfl (.head _) rfl (.tmp rfl .nil)) (.tail _ (.head _)) fun w' hw => ?_
    rfl
  · rw [Bool.not_eq_false', dc_true] at h1
    exact absurd h1 hz

set_option maxHeartbeats 3200000 in
theorem made_ok {lv iv ev bv av dv cv tv nv : Value} {t : Tr} (fv ov : Value) (c : Cd) (w : World) (h : TrIn All w lv iv ev bv av dv cv tv nv t) (hc : CdIn All w fv ov c) (hT : Tab w) (hz : cdE t c = 0) :
    Mk Tryz.prog 23 [.agg #[lv, iv, ev, bv, av, dv, cv, tv, nv], .agg #[fv, ov]] w fun _ v es _ => ∃ s1 s2 s3 s4 s5 s6 s7 s8 s9, (SV s1 ∧ SV s2 ∧ SV s3 ∧ SV s4 ∧ SV s5 ∧ SV s6 ∧ SV s7 ∧ SV s8 ∧ SV s9) ∧ v = .tuple #[.agg #[lv, iv, ev, bv, av, dv, cv, tv, nv, fv, ov, .int .i64 t.evs.length, s1, .int .i64 t.evs.length, s2, .int .i64 t.evs.length, s3, .int .i64 t.evs.length, s4, .int .i64 t.evs.length, s5, .int .i64 t.evs.length, s6, .int .i64 t.evs.length, s7, .int .i64 t.evs.length, s8, .int .i64 t.evs.length, s9], .int .i64 0] ∧ es = [ownW s1 (relOf t.evs.length (poP t)), ownW s2 (relOf t.evs.length (plP t)), ownW s3 (relOf t.evs.length (rfP t c)), ownW s4 (relOf t.evs.length (exP t (rfP t c))), ownW s5 (relOf t.evs.length (coP t c)), ownW s6 (relOf t.evs.length (exP t (coP t c))), ownW s7 (relOf t.evs.length (frP t c)), ownW s8 (relOf t.evs.length (exP t (frP t c))), ownW s9 (relOf t.evs.length (cmP t c))] := by
  have hfs := hc.rf.sv
  have hos := hc.cosv
  have g1 := h.locs.sv; have g2 := h.init.sv; have g3 := h.evs.sv; have g4 := h.bars.sv; have g5 := h.addr.sv; have g6 := h.data.sv; have g7 := h.ctrl.sv; have g8 := h.things.sv; have g9 := h.ends.sv
  refine enter_mk Tryz.func23 Tryz.ntmps23 rfl rfl ?_
  refine gO_ ?_
  refine wl_fx (fx_box (next := ?_)); intro bT
  refine gO_ ?_
  refine wl_fx (fx_box (next := ?_)); intro bC
  refine gO_ ?_
  refine wl_fx (fx_alloc (next := ?_)); intro b4
  refine gO_ ?_
  refine wl_fx (fx_call (spec := fun w' hw => ccheck_spec fv ov c w' (h.now hw (.head _)) (hc.now hw (.head _))) (next := ?_))
  rintro v n1 w1 rfl hn1
  refine gO_ ?_
  refine wc_cond rfl (fun h1 => ?_) (fun h1 => ?_)
  · rw [Bool.not_eq_true', dc_false] at h1
    exact absurd hz h1
  · refine gO_ ?_
    refine wl_fx (fx_call_mk (spec := fun w' hw => vof_spec fv ov c w' (h.now hw (.tail _ (.head _))) (hc.now hw (.tail _ (.head _))) (hT.now hw (.tail _ (.head _)))) (next := ?_))
    rintro v n2 es w2 ⟨s1, s2, s3, s4, s5, s6, s7, s8, s9, ⟨hs1, hs2, hs3, hs4, hs5, hs6, hs7, hs8, hs9⟩, rfl, rfl⟩
    rw [vwOf_ok hz, hz]
    refine gO_ ?_
    refine wl_fx (fx_alloc (next := ?_)); intro b7
    refine gO_ ?_
    refine wl_fx (fx_store_box (i := 0) (hi := rfl) (next := ?_))
    refine gO_ ?_
    refine wl_fx (fx_store_box (i := 10) (hi := rfl) (next := ?_))
    refine gO_ ?_
    refine mk_ret Tryz.results23 (.cellN inferInstance rfl (.tail _ (.tail _ (.tail _ (.tail _ (.tail _ (.tail _ (.tail _ (.tail _ (.tail _ (.tail _ (.head _))))))))))) rfl (.tmp rfl .nil)) (.tail _ (.tail _ (.head _))) [_, _, _, _, _, _, _, _, _] [1, 2, 3, 4, 5, 6, 7, 8, 9] rfl (by decide) fun w' hw => ?_
    exact ⟨s1, s2, s3, s4, s5, s6, s7, s8, s9, ⟨hs1, hs2, hs3, hs4, hs5, hs6, hs7, hs8, hs9⟩, rfl, rfl⟩

set_option maxHeartbeats 3200000 in
theorem tcons_spec {lv iv ev bv av dv cv tv nv : Value} {t : Tr} (fv ov : Value) (c : Cd) (w : World) (h : TrIn All w lv iv ev bv av dv cv tv nv t) (hc : CdIn All w fv ov c) (hT : Tab w) :
    Pur Tryz.prog 9 [.agg #[lv, iv, ev, bv, av, dv, cv, tv, nv], .agg #[fv, ov]] w fun _ v _ => v = .tuple #[.bool (tsB t c), .int .i64 (cdE t c)] := by
  have hfs := hc.rf.sv
  have hos := hc.cosv
  have g1 := h.locs.sv; have g2 := h.init.sv; have g3 := h.evs.sv; have g4 := h.bars.sv; have g5 := h.addr.sv; have g6 := h.data.sv; have g7 := h.ctrl.sv; have g8 := h.things.sv; have g9 := h.ends.sv
  refine enter_pur Tryz.func9 Tryz.ntmps9 rfl rfl ?_
  refine gO_ ?_
  refine wl_fx (fx_box (next := ?_)); intro bT
  refine gO_ ?_
  refine wl_fx (fx_box (next := ?_)); intro bC
  refine gO_ ?_
  by_cases hz : cdE t c = 0
  · refine wl_fx (fx_call_mk (spec := fun w' hw => made_ok fv ov c w' (h.now hw (.head _)) (hc.now hw (.head _)) (hT.now hw (.head _)) hz) (next := ?_))
    rintro v n1 es w1 ⟨s1, s2, s3, s4, s5, s6, s7, s8, s9, ⟨hs1, hs2, hs3, hs4, hs5, hs6, hs7, hs8, hs9⟩, rfl, rfl⟩
    refine gO_ ?_
    refine wl_fx (fx_alloc (next := ?_)); intro b6
    refine gO_ ?_
    refine wl_fx (fx_store_box (i := 0) (hi := rfl) (next := ?_))
    refine gO_ ?_
    refine wc_cond rfl (fun h1 => ?_) (fun h1 => ?_)
    · rw [Bool.not_eq_true', dc_false] at h1
      exact absurd rfl h1
    · clear h1
      refine gO_ ?_
      refine wl_fx (fx_call (spec := fun w' hw => tmay_spec fv ov c s1 s2 s3 s4 s5 s6 s7 s8 s9 w' (h.now hw (.tail _ (.head _))) (hc.now hw (.tail _ (.head _))) (hw.lend (.tail _ (.tail _ (.tail _ (.tail _ (.head _)))))) (hw.lend (.tail _ (.tail _ (.tail _ (.tail _ (.tail _ (.head _))))))) (hw.lend (.tail _ (.tail _ (.tail _ (.tail _ (.tail _ (.tail _ (.tail _ (.head _))))))))) hs1 hs2 hs3 hs4 hs5 hs6 hs7 hs8 hs9 hz (hT.now hw (.tail _ (.head _)))) (next := ?_))
      rintro v n2 w2 rfl hn2
      refine gO_ ?_
      refine pur_ret Tryz.results9 (.tmp rfl (.tmp rfl .nil)) (.tail _ (.tail _ (.head _))) fun w' hw => ?_
      rw [hz]; rfl
  · refine wl_fx (fx_call (spec := fun w' hw => made_no fv ov c w' (h.now hw (.head _)) (hc.now hw (.head _)) (hT.now hw (.head _)) hz) (next := ?_))
    rintro v n1 w1 rfl hn1
    refine gO_ ?_
    refine wl_fx (fx_alloc (next := ?_)); intro b6
    refine gO_ ?_
    refine wl_fx (fx_store_box (i := 0) (hi := rfl) (next := ?_))
    refine gO_ ?_
    refine wc_cond rfl (fun h1 => ?_) (fun h1 => ?_)
    · refine gO_ ?_
      refine pur_ret Tryz.results9 (.tmp rfl (.tmp rfl .nil)) (.tail _ (.head _)) fun w' hw => ?_
      unfold tsB; rw [cohB_bad hz]; rfl
    · rw [Bool.not_eq_false', dc_true] at h1
      exact absurd h1 hz

def tordE (t : Tr) (c : Cd) : Int := if cdE t c = 0 then if tsB t c = true then 0 else 181 else cdE t c
def tordL (t : Tr) (c : Cd) : List Int := if tsB t c = true then lineS t.evs.length (relOf t.evs.length (tsP t c)) else []

end Go.Proofs.YtifgncgiiojikaaGreatDoor
