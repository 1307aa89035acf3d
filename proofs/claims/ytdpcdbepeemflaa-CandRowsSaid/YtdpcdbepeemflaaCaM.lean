/- The law CandRows, walked. -/
import Derived.Test.YtdpcdbepeemflaaCaL
set_option linter.unusedSimpArgs false
set_option linter.unusedVariables false
namespace Go.Proofs.Ytdpcdbepeemflaa
open Go Go.Eng Go.Tc
attribute [local irreducible] wpList Code.wp bodyPost Exit.then Exit.inBlock Calls

set_option maxRecDepth 8000 in
set_option maxHeartbeats 25600000 in
theorem candRows_spec {lv iv ev bv av dv cv tv nv : Value} {t : Tr} (w : World) (h : TrIn All w lv iv ev bv av dv cv tv nv t) :
    Pur Try.prog 5 [.agg #[lv, iv, ev, bv, av, dv, cv, tv, nv]] w fun _ v _ => v = .bool true := by
  have hE := h.evs; have hEl := hE.le
  have hL := h.locs; have hLl := hL.le
  refine enter_pur Try.func5 Try.ntmps5 rfl rfl ?_
  refine gO_ ?_
  refine wl_fx (fx_box (next := ?_)); intro bt
  refine gO_ ?_
  refine wl_fx (fx_call (spec := fun w' hw => cAll_spec w' (h.now hw (.head _))) (next := ?_))
  rintro v n1 w1 ⟨u, rfl, hnil, hall⟩ hn1
  refine gO_ ?_
  refine wc_cond rfl (fun h1 => ?_) (fun h1 => ?_)
  · rw [Bool.not_eq_true', dc_false] at h1
    obtain rfl := hnil h1
    have hsn : Sl All w encCdV 2 (.slice none 0 0) ([] : List CdV) := slN _ _
    refine gO_ ?_
    refine wl_fx (fx_call (spec := fun w' hw => rCount_spec w' (h.now hw (.tail _ (.head _)))) (next := ?_))
    rintro v n2 w2 rfl hn2
    refine gO_ ?_
    refine wl_gx (h := gx_call (spec := fun _ w' hw => awake16_spec w')) (next := ?_)
    refine gO_ ?_
    refine pur_ret Try.results5 (.tmp rfl .nil) (.tail _ (.tail _ (.head _))) fun w' hw => ?_
    simp [dc_eq]
    rfl
  have hz : cntE t = 0 := by rw [Bool.not_eq_false', dc_true] at h1; exact h1
  clear h1 hnil
  obtain ⟨L, hLs, hLn, hLc⟩ := hall hz
  clear hall
  obtain ⟨hok, hcn⟩ : trOk t = true ∧ candN t ≤ 65536 := by
    unfold cntE at hz
    by_cases a : trOk t = true
    · rw [if_pos a] at hz
      by_cases b : candN t ≤ 65536
      · exact ⟨a, b⟩
      · rw [if_neg b] at hz; cases hz
    · rw [if_neg a] at hz; cases hz
  obtain ⟨hb, hlb⟩ := trOk_lens hok
  have hcc : cntN t = candN t := by unfold cntN; rw [if_pos hok, if_pos hcn]
  have hus := hLs.sv
  refine gO_ ?_
  refine wc_loop (fun s : Nat × Nat => s.1 ≤ t.evs.length ∧ s.2 = evProd t s.1) (fun s => [(8, true, .int .i64 s.1), (7, true, .int .i64 s.2), (3, true, u), (1, true, .pointer (some ⟨bt, 0, none⟩))])
    (fun _ => Mem [(w1, Fr n1), (w, All)] [.box bt [lv, iv, ev, bv, av, dv, cv, tv, nv] 30]) (fun s => t.evs.length - s.1) (0, 1) ⟨Nat.zero_le _, rfl⟩ ⟨rfl, rfl, rfl, rfl, trivial⟩ (fun _ h => h) ?_
  rintro ⟨i, n⟩ ⟨hi, hn⟩
  dsimp only at hi hn ⊢
  have hle := candN_ev t hi
  refine gO_ ?_
  refine wc_cond rfl (fun h2 => ?_) (fun h2 => ?_)
  · have h2' : i < t.evs.length := by rw [dc_true] at h2; omega
    have hle1 := candN_ev t (i := i + 1) h2'
    refine gO_ ?_
    refine wc_cond rfl (fun h3 => ?_) (fun h3 => ?_)
    · rw [dc_true] at h3
      generalize hlo : (t.evs.getD i default).loc = loc at *
      have hwl := wr_le hb loc
      have hm2 : (n : Int) * (1 + ((wr t loc).length : Int)) = ((evProd t (i + 1) : Nat) : Int) := by
        rw [evProd, evWays, if_pos h3, hlo, ← hn]; push_cast; rfl
      have hm0 : 0 ≤ (n : Int) * (1 + ((wr t loc).length : Int)) := by rw [hm2]; omega
      have hm1 : (n : Int) * (1 + ((wr t loc).length : Int)) ≤ 65536 := by rw [hm2]; omega
      refine gO_ ?_
      refine wc_draw [0, 1, 2, 3, 4, 5, 6, 7, 8, 9, 10, 11] mixed ?_
      refine kG_ ?_
      rw [hlo]
      refine kg_f _ (h := fx_call (spec := fun w' hw => writes16_spec loc w' (h.now hw (.tail _ (.head _)))) (next := ?_)) (hSS := fun _ h => h)
      rintro v n4 w4 rfl hn4
      refine kp_S ?_ (fun _ h => h.tailB)
      refine kG_ ?_
      rw [hm2]
      refine gO_ ?_
      exact po_loop (i + 1, evProd t (i + 1)) ⟨h2', rfl⟩ (by dsimp only; omega) ⟨rfl, rfl, rfl, rfl, trivial⟩ (fun _ h => h.tailB)
    · rw [dc_false] at h3
      refine gO_ ?_
      exact po_loop (i + 1, n) ⟨h2', by dsimp only; rw [evProd, evWays, if_neg h3, Nat.mul_one, hn]⟩ (by dsimp only; omega) ⟨rfl, rfl, rfl, rfl, trivial⟩ (fun _ h => h)
  obtain rfl : i = t.evs.length := by rw [dc_false] at h2; omega
  clear h2
  refine gO_ ?_
  refine wc_loop (fun s : Nat × Nat => s.1 ≤ t.locs.length ∧ s.2 = evProd t t.evs.length * locProd t s.1) (fun s => [(9, true, .int .i64 s.1), (7, true, .int .i64 s.2), (3, true, u), (1, true, .pointer (some ⟨bt, 0, none⟩))])
    (fun _ => Mem [(w1, Fr n1), (w, All)] [.box bt [lv, iv, ev, bv, av, dv, cv, tv, nv] 30]) (fun s => t.locs.length - s.1) (0, n) ⟨Nat.zero_le _, by dsimp only; rw [locProd, Nat.mul_one, hn]⟩ ⟨rfl, rfl, rfl, rfl, trivial⟩ (fun _ h => h) ?_
  clear hn hle
  rintro ⟨k, n⟩ ⟨hk, hn⟩
  dsimp only at hk hn ⊢
  refine gO_ ?_
  refine wc_cond rfl (fun h4 => ?_) (fun h4 => ?_)
  · have h4' : k < t.locs.length := by rw [dc_true] at h4; omega
    have hkl := wr_le hb (k : Int)
    have hck := candN_loc t (k := k + 1) h4'
    rw [locProd, ← Nat.mul_assoc, ← hn] at hck
    refine gO_ ?_
    refine wl_fx (fx_call (spec := fun w' hw => writes16_spec (k : Int) w' (h.now hw (.tail _ (.head _)))) (next := ?_))
    rintro v n5 w5 rfl hn5
    refine gO_ ?_
    refine wc_loop (fun s : Nat × Nat => s.1 ≤ (wr t (k : Int)).length ∧ s.2 * fact s.1 = n * fact (wr t (k : Int)).length) (fun s => [(10, true, .int .i64 s.1), (9, true, .int .i64 k), (7, true, .int .i64 s.2), (3, true, u), (1, true, .pointer (some ⟨bt, 0, none⟩))])
      (fun _ => Mem [(w1, Fr n1), (w, All)] [.box bt [lv, iv, ev, bv, av, dv, cv, tv, nv] 30]) (fun s => s.1) ((wr t (k : Int)).length, n) ⟨Nat.le_refl _, rfl⟩ ⟨rfl, rfl, rfl, rfl, rfl, trivial⟩ (fun _ h => h.tailB) ?_
    rintro ⟨m, n'⟩ ⟨hm, hn'⟩
    dsimp only at hm hn' ⊢
    refine gO_ ?_
    refine wc_cond rfl (fun h6 => ?_) (fun h6 => ?_)
    · rw [dc_true] at h6
      obtain ⟨q, rfl⟩ : ∃ q, m = q + 1 := ⟨m - 1, by omega⟩
      have hf : n' * (q + 1) ≤ n' * fact (q + 1) := Nat.mul_le_mul_left _ (Nat.le_mul_of_pos_right _ (fact_pos q))
      have hm2 : (n' : Int) * ((q + 1 : Nat) : Int) = ((n' * (q + 1) : Nat) : Int) := by push_cast; rfl
      have hm0 : 0 ≤ (n' : Int) * ((q + 1 : Nat) : Int) := by rw [hm2]; omega
      have hm1 : (n' : Int) * ((q + 1 : Nat) : Int) ≤ 65536 := by rw [hm2]; omega
      refine gO_ ?_
      rw [hm2, show ((q + 1 : Nat) : Int) - 1 = (q : Int) by omega]
      exact po_loop (q, n' * (q + 1)) ⟨by dsimp only; omega, by dsimp only; rw [← hn', fact, Nat.mul_assoc]⟩ (by dsimp only; omega) ⟨rfl, rfl, rfl, rfl, rfl, trivial⟩ (fun _ h => h)
    · rw [dc_false] at h6
      have hf : fact m = 1 := by
        have : m = 0 ∨ m = 1 := by omega
        rcases this with rfl | rfl <;> rfl
      rw [hf, Nat.mul_one] at hn'
      refine gO_ ?_
      exact po_loop (k + 1, n') ⟨h4', by dsimp only; rw [locProd, ← Nat.mul_assoc, ← hn, hn']⟩ (by dsimp only; omega) ⟨rfl, rfl, rfl, rfl, trivial⟩ (fun _ h => h)
  obtain rfl : k = t.locs.length := by rw [dc_false] at h4; omega
  clear h4
  have hnc : n = candN t := hn
  clear hn
  subst hnc
  refine gO_ ?_
  refine wc_cond rfl (fun h5 => ?_) (fun h5 => ?_)
  · exfalso; simp [dc_eq, hLn] at h5
  clear h5
  refine gO_ ?_
  refine wc_loop (fun i : Nat => i ≤ candN t) (fun i => [(11, true, .int .i64 i), (7, true, .int .i64 (candN t : Int)), (3, true, u), (1, true, .pointer (some ⟨bt, 0, none⟩))])
    (fun _ => Mem [(w1, Fr n1), (w, All)] [.box bt [lv, iv, ev, bv, av, dv, cv, tv, nv] 30]) (fun i => candN t - i) 0 (Nat.zero_le _) ⟨rfl, rfl, rfl, rfl, trivial⟩ (fun _ h => h) ?_
  intro i hi
  refine gO_ ?_
  refine wc_cond rfl (fun h7 => ?_) (fun h7 => ?_)
  · have h7' : i < candN t := by rw [dc_true] at h7; omega
    have h7L : i < L.length := by omega
    have hci := hLc i h7'
    have hzi := candAt_ok (t := t) (n := i) hok
    refine gO_ ?_
    refine wc_draw [0, 1, 2, 3, 4, 5, 6, 7, 8, 9, 10, 11, 12, 13, 14, 15, 16, 17, 18, 19, 20, 21, 22, 23] mixed ?_
    refine kG_ ?_
    refine kg_f _ (h := fx_call (spec := fun w' hw => ccheck_spec (L.getD i default).r (L.getD i default).o (candAt t i) w' (h.now hw (.tail _ (.head _))) (hci.now hw (.head _))) (next := ?_)) (hSS := fun _ h => h)
    rintro v n6 w6 rfl hn6
    rw [hzi]
    refine kp_S ?_ (fun _ h => h.tailB)
    refine kG_ ?_
    rw [show ((i : Int) - 1).toNat = i - 1 by omega]
    refine kp_mem (A' := Mem [(w1, Fr n1), (w, All)] [.box bt [lv, iv, ev, bv, av, dv, cv, tv, nv] 30]) (fun _ h => h.tailB) ?_
    refine kg_gx (u := .bool true) (h := ?_) (next := ?_)
    · refine gx_call (spec := fun hg w' hw => ?_)
      have hi0 : 0 < i := by simp [dc_eq] at hg; omega
      exact before16_spec _ _ _ _ (candAt t (i - 1)) (candAt t i) w' ((hLc (i - 1) (by omega)).now hw (.head _)) (hci.now hw (.head _)) (at_rise (by omega) h7')
    refine kG_ ?_
    refine gO_ ?_
    refine wc_cond rfl (fun h8 => ?_) (fun h8 => ?_)
    · exfalso; simp [dc_eq] at h8
    clear h8
    refine gO_ ?_
    refine wc_cond rfl (fun h9 => ?_) (fun h9 => ?_)
    · refine gO_ ?_
      refine wc_draw [0, 1, 2, 3, 4, 5, 6, 7, 8, 9, 10] mixed ?_
      refine kG_ ?_
      refine kg_f _ (h := fx_call (spec := fun w' hw => cNumber_spec (L.getD i default).r (L.getD i default).o (candAt t i) w' (h.now hw (.tail _ (.head _))) (hci.now hw (.head _)) hzi hz) (next := ?_)) (hSS := fun _ h => h)
      rintro v n8 w8 rfl hn8
      rw [num_at h7']
      refine kp_S ?_ (fun _ h => h.tailB)
      refine kG_ ?_
      refine gO_ ?_
      refine kp_mem (A' := Mem [(w1, Fr n1), (w, All)] [.box bt [lv, iv, ev, bv, av, dv, cv, tv, nv] 30]) (fun _ h => h.tailB) ?_
      refine wl_fx (fx_call_mk (spec := fun w' hw => cAt_spec i w' (h.now hw (.tail _ (.head _)))) (next := ?_))
      rintro v n9 es w9 ⟨rb, ob, vsb, hrb, hob, rfl, hlb2, rfl⟩
      have he0 : atE t (i : Int) = 0 := by unfold atE; rw [if_pos hz, if_pos (by omega)]
      have hc0 : atC t (i : Int) = candAt t i := by unfold atC; rw [if_pos he0, Int.toNat_natCast]
      rw [hc0] at hlb2
      rw [he0, hc0]
      refine kp_mem (A' := Mem [(w1, Fr n1), (w, All)] [.own rb 3 1 Eng.encI (candAt t i).rf, pack2 3 23 ob vsb (candAt t i).co, .box bt [lv, iv, ev, bv, av, dv, cv, tv, nv] 30]) (fun _ h => h.tailB) ?_
      refine gO_ ?_
      refine wl_fx (fx_alloc (next := ?_)); intro bc
      refine gO_ ?_
      refine wl_fx (fx_store_box (i := 0) (hi := rfl) (next := ?_))
      refine gO_ ?_
      refine wc_draw [0, 1, 2, 3, 4, 5, 6, 7, 8, 9, 10, 11, 12, 13, 14, 15, 16, 17, 18, 19] mixed ?_
      refine kG_ ?_
      refine kg_gx (h := gx_call (spec := fun _ w' hw => same16_spec rb ob (L.getD i default).r (L.getD i default).o (candAt t i) (candAt t i) w' (cdo hw (.tail _ (.head _)) (.tail _ (.tail _ (.head _))) hlb2 (candAt_small hok i)) (hci.now hw (.head _)))) (next := ?_)
      refine kG_ ?_
      refine gO_ ?_
      refine wc_cond rfl (fun h10 => ?_) (fun h10 => ?_)
      · exfalso; simp [dc_eq] at h10
      · refine gO_ ?_
        exact po_loop (i + 1) (by omega) (by omega) ⟨rfl, rfl, rfl, rfl, trivial⟩ (fun _ h => h.sel [3] rfl (by decide))
    · refine gO_ ?_
      exact po_loop (i + 1) (by omega) (by omega) ⟨rfl, rfl, rfl, rfl, trivial⟩ (fun _ h => h)
  clear h7
  have he1 : atE t (candN t : Int) = 4 := by unfold atE; rw [if_pos hz, if_neg (by omega)]
  have he2 : atE t (-1) = 4 := by unfold atE; rw [if_pos hz, if_neg (by omega)]
  refine gO_ ?_
  refine wl_fx (fx_call_mk (spec := fun w' hw => cAt_spec (candN t : Int) w' (h.now hw (.tail _ (.head _)))) (next := ?_))
  rintro v n11 es w11 ⟨rb, ob, vsb, hrb, hob, rfl, hlb2, rfl⟩
  rw [he1]
  refine gO_ ?_
  refine wl_fx (fx_alloc (next := ?_)); intro b_
  refine gO_ ?_
  refine wl_fx (fx_store_box (i := 0) (hi := rfl) (next := ?_))
  refine kp_mem (A' := Mem [(w, All)] [.box bt [lv, iv, ev, bv, av, dv, cv, tv, nv] 30]) (fun _ h => (h.last rfl).sel [3] rfl (by decide)) ?_
  refine gO_ ?_
  refine wl_fx (fx_call_mk (spec := fun w' hw => cAt_spec (-1) w' (h.now hw (.head _))) (next := ?_))
  rintro v n12 es w12 ⟨rc, oc, vsc, hrc, hoc, rfl, hlb3, rfl⟩
  rw [he2]
  refine gO_ ?_
  refine wl_fx (fx_alloc (next := ?_)); intro b_
  refine gO_ ?_
  refine wl_fx (fx_store_box (i := 0) (hi := rfl) (next := ?_))
  refine gO_ ?_
  refine wl_gx (h := gx_call (spec := fun _ w' hw => awake16_spec w')) (next := ?_)
  refine gO_ ?_
  refine pur_ret Try.results5 (.tmp rfl .nil) (.tail _ (.head _)) fun w' hw => ?_
  simp [dc_eq]
  rfl
end Go.Proofs.Ytdpcdbepeemflaa
