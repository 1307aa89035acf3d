/- The law RvwmoLoads, walked; alembicref02.Lent, Kept. -/
import Derived.Test.YtgidhhpjabdnkaaGreatDoorG26
set_option linter.unusedSimpArgs false
set_option linter.unusedVariables false
namespace Go.Proofs.YtgidhhpjabdnkaaGreatDoor
open Go Go.Eng Go.Tc Go.Rl Go.Vw
attribute [local irreducible] wpList Code.wp bodyPost Exit.then Exit.inBlock Calls
def mkL (k : Nat) : List Int := (List.range k).map fun (i : Nat) => -770000 - (i : Int)
theorem mkL_len (k : Nat) : (mkL k).length = k := by unfold mkL; rw [List.length_map, List.length_range]
theorem mkL_succ (k : Nat) : mkL (k + 1) = mkL k ++ [-770000 - (k : Int)] := by unfold mkL; rw [List.range_succ, List.map_append]; rfl
theorem mkL_get {k i : Nat} (h : i < k) : (mkL k).getD i default = -770000 - (i : Int) := by
  unfold mkL; rw [List.getD_eq_getElem?_getD, List.getElem?_map, List.getElem?_range h]; rfl
theorem app_get {L M : List Int} (i : Nat) : (L ++ M).getD (L.length + i) default = M.getD i default := by
  rw [List.getD_eq_getElem?_getD, List.getElem?_append_right (by omega), List.getD_eq_getElem?_getD, show L.length + i - L.length = i by omega]

set_option maxHeartbeats 3200000 in
theorem lent02_spec (l : Value) (L : List Int) (w : World) (hl : Sl All w Eng.encI 1 l L) (hb : L.length * 8 ≤ 140737488351232) :
    Mk Tryz.prog 19 [l] w fun _ v es _ => ∃ va, SV va ∧ v = cutV L.length va ∧ es = [ownI va (L ++ mkL 70)] := by
  have hls := hl.sv
  have hLl := hl.le
  refine enter_mk Tryz.func19 Tryz.ntmps19 rfl rfl ?_
  refine gO_ ?_
  refine wl_fx (fx_make (next := ?_)); intro v8 hv8
  generalize hr : List.replicate (Int.toNat 0) _ = rep
  obtain rfl : rep = [] := by rw [← hr]; rfl
  clear hr
  refine gO_ ?_
  refine wl_fx (fx_append_base (k := 0) (hk := rfl) (h := hl) (hlen := by simp only [List.length_nil, Nat.zero_add]; omega) (next := ?_))
  intro v11 hv11
  refine gO_ ?_
  refine wc_loop (fun s : Nat × Value => s.1 ≤ 70 ∧ SV s.2) (fun s => [(4, true, .int .i64 s.1), (3, true, s.2), (0, true, l)])
    (fun s => Mem [(w, All)] [ownI s.2 (L ++ mkL s.1)]) (fun s => 70 - s.1) (0, v11) ⟨by omega, hv11⟩ ⟨rfl, rfl, rfl, trivial⟩ (fun _ h => by rw [show L ++ mkL 0 = [] ++ L by simp [mkL]]; exact h) ?_
  rintro ⟨i, c⟩ ⟨hi, hc⟩
  dsimp only at hi hc ⊢
  have hml := mkL_len i
  refine gO_ ?_
  refine wc_cond rfl (fun h1 => ?_) (fun h1 => ?_)
  · have h1' : i < 70 := by rw [dc_true] at h1; omega
    refine gO_ ?_
    refine wl_fx (fx_lit (next := ?_))
    intro v19 hv19
    refine gO_ ?_
    refine wl_fx (fx_append_own (k := 1) (hk := rfl) (hm := .head _) (hlen := by simp only [List.length_append, List.length_map, List.length_cons, List.length_nil]; omega) (next := ?_))
    intro v20 hv20
    refine gO_ ?_
    refine po_loop (i + 1, v20) ⟨by dsimp only; omega, hv20⟩ (by dsimp only; omega) ⟨rfl, rfl, rfl, trivial⟩ (fun _ h => ?_)
    dsimp only
    rw [mkL_succ, ← List.append_assoc]
    exact h.sel [1] rfl (by decide)
  · obtain rfl : i = 70 := by rw [dc_false] at h1; omega
    have hll : (L ++ mkL 70).length = L.length + 70 := by rw [List.length_append, hml]
    refine gO_ ?_
    refine wl_a (h := qy_cut_own (n := L.length) (v := c) ⟨_, rfl, fun _ => rfl⟩ ⟨_, rfl, fun _ => rfl⟩ (.head _) (fun _ => by omega)) (next := ?_)
    refine gO_ ?_
    exact mk_ret Tryz.results19 (.tmp rfl .nil) (.head _) [_] [0] rfl (by decide) fun w' hw => ⟨c, hc, rfl, rfl⟩

set_option maxHeartbeats 3200000 in
theorem kept02_spec (va l : Value) (L : List Int) (w : World) (ha : Sl All w Eng.encI 1 va (L ++ mkL 70)) (hl : Sl All w Eng.encI 1 l L) :
    Pur Tryz.prog 22 [cutV L.length va, l] w fun _ v _ => v = .bool true := by
  have hls := hl.sv
  have hLl := hl.le
  have has := ha.sv
  have hcs := has.cut L.length
  have hll : (L ++ mkL 70).length = L.length + 70 := by rw [List.length_append, mkL_len]
  have hc := ha.cut L.length (by omega)
  rw [List.take_left'  rfl] at hc
  refine enter_pur Tryz.func22 Tryz.ntmps22 rfl rfl ?_
  have hale := ha.le
  refine gO_ ?_
  refine wl_a (h := qy_cut (n := L.length + 70) (v := va) ⟨_, rfl, fun _ => rfl⟩ ⟨_, rfl, fun _ => rfl⟩ ha (fun _ => by rw [hll]; omega)) (next := ?_)
  have hw3 : Sl All w Eng.encI 1 (cutV (L.length + 70) va) (L ++ mkL 70) := by have := ha.cut (L.length + 70) (by rw [hll]; omega); rwa [List.take_of_length_le (by rw [hll]; omega)] at this
  have hw3s := hw3.sv
  refine gO_ ?_
  refine wc_loop (fun s : Nat => s ≤ 70) (fun s => [(6, true, .int .i64 s), (5, true, cutV (L.length + 70) va), (1, true, l), (0, true, cutV L.length va)])
    (fun _ => Mem [(w, All)] []) (fun s => 70 - s) 0 (by omega) ⟨rfl, rfl, rfl, rfl, trivial⟩ (fun _ h => h) ?_
  intro i hi
  refine gO_ ?_
  refine wc_cond rfl (fun h1 => ?_) (fun h1 => ?_)
  · have h1' : i < 70 := by rw [dc_true] at h1; omega
    have hget : (L ++ mkL 70).getD (L.length + i) default = -770000 - (i : Int) := by
      rw [app_get, mkL_get h1']
    have hidx : ((L.length : Int) + (i : Int)).toNat < (L ++ mkL 70).length := by rw [hll]; omega
    refine gO_ ?_
    rw [hget]
    refine wc_cond rfl (fun h2 => ?_) (fun h2 => ?_)
    · simp [dc_eq] at h2
    refine gO_ ?_
    exact po_loop (i + 1) (by omega) (by omega) ⟨rfl, rfl, rfl, rfl, trivial⟩ (fun _ h => h)
  · refine gO_ ?_
    refine wl_fx (fx_call (spec := fun w' hw => alike_spec (cutV L.length va) l L L w' (hw.now hc (.head _)) (hw.now hl (.head _))) (next := ?_))
    rintro v n1 w1 rfl hn1
    refine gO_ ?_
    refine pur_ret Tryz.results22 (.tmp rfl .nil) (.tail _ (.head _)) fun w' hw => ?_
    rw [decide_eq_true (rfl : L = L)]; rfl

set_option maxRecDepth 8000 in
set_option maxHeartbeats 12800000 in
theorem rvwmoLoads_spec {lv iv ev bv av dv cv tv nv : Value} {t : Tr} (fv ov : Value) (c : Cd) (lo : Value) (L : List Int) (w : World) (h : TrIn All w lv iv ev bv av dv cv tv nv t) (hc : CdIn All w fv ov c) (ho : Sl All w Eng.encI 1 lo L) (hbig : L.length * 8 ≤ 140737488351232) (hT : Tab w) :
    Pur Tryz.prog 4 [.agg #[lv, iv, ev, bv, av, dv, cv, tv, nv], .agg #[fv, ov], lo] w fun _ v _ => v = .bool true := by
  have hfs := hc.rf.sv
  have hos := hc.cosv
  have hls := ho.sv
  have hLl := ho.le
  have g1 := h.locs.sv; have g2 := h.init.sv; have g3 := h.evs.sv; have g4 := h.bars.sv; have g5 := h.addr.sv; have g6 := h.data.sv; have g7 := h.ctrl.sv; have g8 := h.things.sv; have g9 := h.ends.sv
  have hll : (L ++ mkL 70).length = L.length + 70 := by rw [List.length_append, mkL_len]
  refine enter_pur Tryz.func4 Tryz.ntmps4 rfl rfl ?_
  refine gO_ ?_
  refine wl_fx (fx_box (next := ?_)); intro bT
  refine gO_ ?_
  refine wl_fx (fx_box (next := ?_)); intro bC
  refine gO_ ?_
  refine wl_fx (fx_call_mk (spec := fun w' hw => lent02_spec lo L w' (hw.now ho (.head _)) hbig) (next := ?_))
  rintro v n1 es w1 ⟨va, hva, rfl, rfl⟩
  have hvc := hva.cut L.length
  have hcut : ∀ {bs : List Base} {H : List Ent} {w' : World}, Mem bs H w' → ownI va (L ++ mkL 70) ∈ H → Sl All w' Eng.encI 1 (cutV L.length va) L := fun hw hm => by
    have := hw.lendCut hm L.length (by rw [hll]; omega)
    rwa [List.take_left' rfl] at this
  refine gO_ ?_
  refine wl_fx (fx_call (spec := fun w' hw => rvloads_spec fv ov c (cutV L.length va) L w' (h.now hw (.tail _ (.head _))) (hc.now hw (.tail _ (.head _))) (hcut hw (.head _))) (next := ?_))
  rintro v n2 w2 rfl hn2
  refine gO_ ?_
  refine wl_fx (fx_call (spec := fun w' hw => rloads20_spec fv ov c lo L w' (h.now hw (.tail _ (.tail _ (.head _)))) (hc.now hw (.tail _ (.tail _ (.head _)))) (hw.now ho (.tail _ (.tail _ (.head _))))) (next := ?_))
  rintro v n3 w3 rfl hn3
  refine gO_ ?_
  refine wl_gx (h := gx_call (spec := fun _ w' hw => kept02_spec va lo L w' (hw.lend (.head _)) (hw.now ho (.tail _ (.tail _ (.tail _ (.head _))))))) (next := ?_)
  refine gO_ ?_
  refine wl_gx (h := gx_call (spec := fun _ w' hw => rvawake_spec w' (hT.now hw (.tail _ (.tail _ (.tail _ (.head _))))))) (next := ?_)
  refine gO_ ?_
  refine pur_ret Tryz.results4 (.tmp rfl .nil) (.tail _ (.tail _ (.tail _ (.head _)))) fun w' hw => ?_
  simp only [dc_eq, decide_true, Bool.and_true, beq_self_eq_true]
  rfl
end Go.Proofs.YtgidhhpjabdnkaaGreatDoor
