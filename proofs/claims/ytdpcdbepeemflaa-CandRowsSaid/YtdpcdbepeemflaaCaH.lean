/- The law CandAts, walked. -/
import Derived.Test.YtdpcdbepeemflaaCaG
import Derived.Test.YtdpcdbepeemflaaCaD
import Derived.Test.YtdpcdbepeemflaaMrk
set_option linter.unusedSimpArgs false
set_option linter.unusedVariables false
namespace Go.Eng
open Go Go.RowKit
theorem Mem.svs {bs : List Base} {H : List Ent} {w : World} {t t' : TypeId} {v : Value} {vs : List Value} {xss : List (List Int)} (hw : Mem bs H w) (ho : pack2 t t' v vs xss ∈ H) (hl : vs.length = xss.length) : ∀ u, u ∈ vs → SV u := fun u hu => by
  obtain ⟨i, hi⟩ := List.getElem?_of_mem hu
  have hlt := (List.getElem?_eq_some_iff.1 hi).1
  obtain ⟨ws, h1, h2, h3⟩ := hw.lend2 ho hl
  have h0 : Mem [] (.own v t' 1 encV vs :: inner t vs xss) w := hw.own _ ho w fun _ _ => rfl
  have := (h0.lend (.tail _ (inner_mem t hl hlt))).sv
  rwa [List.getD_eq_getElem?_getD, hi] at this
end Go.Eng
namespace Go.Tc
open Go Go.Eng
structure Small (c : Cd) : Prop where
  rf : c.rf.length ≤ 64
  co : c.co.length ≤ 64
  cs : ∀ i, i < c.co.length → (c.co.getD i default).length ≤ 64
theorem Small.big {c : Cd} (h : Small c) : ∀ i, i < c.co.length → (c.co.getD i default).length * 8 ≤ 140737488351232 := fun i hi => by have := h.cs i hi; omega
theorem atE_ok {t : Tr} {n : Int} (h : atE t n = 0) : trOk t = true ∧ candN t ≤ 65536 ∧ cntE t = 0 ∧ 0 ≤ n ∧ n < candN t := by
  unfold atE at h
  by_cases h1 : cntE t = 0
  · rw [if_pos h1] at h
    have h2 : trOk t = true ∧ candN t ≤ 65536 := by
      unfold cntE at h1
      by_cases a : trOk t = true
      · rw [if_pos a] at h1
        by_cases b : candN t ≤ 65536
        · exact ⟨a, b⟩
        · rw [if_neg b] at h1; cases h1
      · rw [if_neg a] at h1; cases h1
    have h3 : cntN t = candN t := by unfold cntN; rw [if_pos h2.1, if_pos h2.2]
    by_cases h4 : 0 ≤ n ∧ n < cntN t
    · rw [h3] at h4; exact ⟨h2.1, h2.2, h1, h4⟩
    · rw [if_neg h4] at h; cases h
  · rw [if_neg h1] at h; exact absurd h h1
theorem candAt_small {t : Tr} (ht : trOk t = true) (n : Nat) : Small (candAt t n) := by
  obtain ⟨hb, hlb⟩ := trOk_lens ht
  have e1 : (candAt t n).rf.length = t.evs.length := by rw [← rfTo'_all, rfTo'_len]
  have e2 : (candAt t n).co.length = t.locs.length := by rw [← coTo_all, coTo_len]
  refine ⟨by omega, by omega, fun i hi => ?_⟩
  have e3 : (candAt t n).co.getD i default = coAt t n i := by
    show ((List.range t.locs.length).map (coAt t n)).getD i default = _
    rw [List.getD_eq_getElem?_getD, List.getElem?_map, List.getElem?_range (by omega)]; rfl
  rw [e3, coAt, ordL_len]
  exact wr_le hb _
theorem atC_small (t : Tr) (n : Int) : Small (atC t n) := by
  unfold atC
  by_cases h : atE t n = 0
  · rw [if_pos h]; exact candAt_small (atE_ok h).1 _
  · rw [if_neg h]; exact ⟨by simp [noC], by simp [noC], fun i hi => by simp [noC] at hi⟩
theorem markC_small {c : Cd} (h : Small c) (m : Int) : Small (markC c m) := by
  refine ⟨?_, ?_, fun i hi => ?_⟩
  · show (mkTo c.rf c.rf.length _).length ≤ 64
    rw [mkTo_len _ _ (Nat.le_refl _)]; exact h.rf
  · show (coMk c.co c.co.length 0 _).length ≤ 64
    rw [coMk_len]; exact h.co
  · have hi' : i < c.co.length := by rw [← coMk_len c.co c.co.length 0 (markF m)]; exact hi
    show ((coMk c.co c.co.length 0 (markF m)).getD i default).length ≤ 64
    unfold coMk
    rw [List.getD_eq_getElem?_getD, List.getElem?_map, List.getElem?_range hi']
    simp only [Option.map_some, Option.getD_some]
    rw [if_pos hi', List.length_replicate]
    exact h.cs i hi'
end Go.Tc
namespace Go.Proofs.Ytdpcdbepeemflaa
open Go Go.Eng Go.Tc
attribute [local irreducible] wpList Code.wp bodyPost Exit.then Exit.inBlock Calls
theorem cdo {bs : List Base} {H : List Ent} {w : World} {ra oa : Value} {vs : List Value} {c : Cd} (hw : Mem bs H w) (h1 : Ent.own ra 3 1 Eng.encI c.rf ∈ H) (h2 : pack2 3 23 oa vs c.co ∈ H) (hl : vs.length = c.co.length) (hs : Small c) : CdIn All w ra oa c :=
  ⟨hw.lend h1, hw.lend2 h2 hl, hs.big⟩

set_option maxRecDepth 8000 in
set_option maxHeartbeats 12800000 in
theorem candAts_spec {lv iv ev bv av dv cv tv nv : Value} {t : Tr} (n : Int) (w : World) (h : TrIn All w lv iv ev bv av dv cv tv nv t) :
    Pur Try.prog 3 [.agg #[lv, iv, ev, bv, av, dv, cv, tv, nv], .int .i64 n] w fun _ v _ => v = .bool true := by
  have hS := atC_small t n
  have hM := markC_small hS 1
  have hml : (markC (atC t n) 1).co.length = (atC t n).co.length := coMk_len _ _ _ _
  refine enter_pur Try.func3 Try.ntmps3 rfl rfl ?_
  refine gO_ ?_
  refine wl_fx (fx_box (next := ?_)); intro bt
  refine gO_ ?_
  refine wl_fx (fx_call_mk (spec := fun w' hw => cAt_spec n w' (h.now hw (.head _))) (next := ?_))
  rintro v n1 es w1 ⟨ra, oa, vsa, hra, hoa, rfl, hla, rfl⟩
  refine gO_ ?_
  refine wl_fx (fx_alloc (next := ?_)); intro ba
  refine gO_ ?_
  refine wl_fx (fx_store_box (i := 0) (hi := rfl) (next := ?_))
  refine gO_ ?_
  refine wl_fx (fx_call_mk (spec := fun w' hw => cAt_spec n w' (h.now hw (.tail _ (.head _)))) (next := ?_))
  rintro v n2 es w2 ⟨rb, ob, vsb, hrb, hob, rfl, hlb, rfl⟩
  refine gO_ ?_
  refine wl_fx (fx_alloc (next := ?_)); intro bb
  refine gO_ ?_
  refine wl_fx (fx_store_box (i := 0) (hi := rfl) (next := ?_))
  refine gO_ ?_
  refine wl_fx (fx_call_mk (spec := fun w' hw => rAt_spec n w' (h.now hw (.tail _ (.tail _ (.head _))))) (next := ?_))
  rintro v n3 es w3 ⟨rc, oc, vsc, hrc, hoc, rfl, hlc, rfl⟩
  refine gO_ ?_
  refine wl_fx (fx_alloc (next := ?_)); intro bw
  refine gO_ ?_
  refine wl_fx (fx_store_box (i := 0) (hi := rfl) (next := ?_))
  refine kp_mem (A' := Mem [(w, All)] [.own ra 3 1 Eng.encI (atC t n).rf, pack2 3 23 oa vsa (atC t n).co, .box ba [ra, oa] 33, .own rb 3 1 Eng.encI (atC t n).rf, pack2 3 23 ob vsb (atC t n).co, .box bb [rb, ob] 33, .own rc 3 1 Eng.encI (atC t n).rf, pack2 3 23 oc vsc (atC t n).co, .box bw [rc, oc] 33]) (fun _ h => (h.last rfl).sel [7, 8, 6, 4, 5, 3, 1, 2, 0] rfl (by decide)) ?_
  refine gO_ ?_
  refine wl_gx (h := gx_call (spec := fun _ w' hw => same16_spec ra oa rc oc (atC t n) (atC t n) w' (cdo hw (.head _) (.tail _ (.head _)) hla hS) (cdo hw (.tail _ (.tail _ (.tail _ (.tail _ (.tail _ (.tail _ (.head _))))))) (.tail _ (.tail _ (.tail _ (.tail _ (.tail _ (.tail _ (.tail _ (.head _)))))))) hlc hS))) (next := ?_)
  refine gO_ ?_
  refine wc_cond rfl (fun h1 => ?_) (fun h1 => ?_)
  · exfalso
    simp [dc_eq] at h1
  clear h1
  refine gO_ ?_
  refine wl_fx (fx_call_mus (es := [.own ra 3 1 Eng.encI (atC t n).rf, pack2 3 23 oa vsa (atC t n).co]) (spec := fun w' hw => Marked16_spec ra oa vsa (atC t n) 1 w' hra hoa hla (by decide) (by have := hS.rf; omega) (by have := hS.co; omega) (fun i hi => by have := hS.cs i hi; omega) (hw.svs (.tail _ (.head _)) hla) hw.app_l.nob) (next := ?_))
  rintro v n5 es w5 rfl
  refine gO_ ?_
  refine wl_fx (fx_call_mus (es := [.own ra 3 1 Eng.encI (markC (atC t n) 1).rf, pack2 3 23 oa vsa (markC (atC t n) 1).co]) (spec := fun w' hw => Grown16_spec ra oa vsa (markC (atC t n) 1) w' hra hoa (by rw [hml]; exact hla) (by have := hM.rf; omega) (by have := hM.co; omega) (fun i hi => by have := hM.cs i hi; omega) (hw.svs (.tail _ (.head _)) (by rw [hml]; exact hla)) hw.app_l.nob) (next := ?_))
  rintro v n6 es w6 rfl
  refine gO_ ?_
  refine wl_fx (fx_call (spec := fun w' hw => Bears16_spec ra oa (markC (atC t n) 1) 1 w' (hw.lend (.head _)) (hw.lend2 (.tail _ (.head _)) (by rw [hml]; exact hla)) (by decide) (by have := hM.rf; omega) (by have := hM.co; omega) (fun i hi => by have := hM.cs i hi; omega) (fun i hi => markC_rf _ _ hi) (fun i k hi hk => markC_co _ _ hi hk)) (next := ?_))
  rintro v n7 w7 rfl hn7
  refine gO_ ?_
  refine wl_gx (h := gx_call (spec := fun _ w' hw => same16_spec rb ob rc oc (atC t n) (atC t n) w' (cdo hw (.tail _ (.tail _ (.tail _ (.head _)))) (.tail _ (.tail _ (.tail _ (.tail _ (.head _))))) hlb hS) (cdo hw (.tail _ (.tail _ (.tail _ (.tail _ (.tail _ (.tail _ (.head _))))))) (.tail _ (.tail _ (.tail _ (.tail _ (.tail _ (.tail _ (.tail _ (.head _)))))))) hlc hS))) (next := ?_)
  refine gO_ ?_
  refine wl_gx (h := gx_call (spec := fun _ w' hw => awake16_spec w')) (next := ?_)
  refine gO_ ?_
  refine pur_ret Try.results3 (.tmp rfl .nil) (.tail _ (.head _)) fun w' hw => ?_
  simp [dc_eq]
  try rfl
end Go.Proofs.Ytdpcdbepeemflaa
