/- The walks: alembicref16.order, at, At (printed by gen_rat.py). -/
import Derived.Test.YtdpcdbepeemflaaCaC
set_option linter.unusedSimpArgs false
set_option linter.unusedVariables false
namespace Go.Proofs.Ytdpcdbepeemflaa
open Go Go.Eng Go.Tc
attribute [local irreducible] wpList Code.wp bodyPost Exit.then Exit.inBlock Calls

set_option maxHeartbeats 1600000 in
theorem rorder_spec (lv : Value) (l : List Int) (n : Nat) (w : World) (hl : Sl All w Eng.encI 1 lv l) (hn : n < fact l.length) (hc : fact l.length ≤ 65536) (hb : l.length ≤ 64) :
    Mk Try.prog 45 [lv, .int .i64 n] w fun _ r es _ => SV r ∧ es = [.own r 3 1 Eng.encI (ordL l n)] := by
  have hls := hl.sv
  refine enter_mk Try.func45 Try.ntmps45 rfl rfl ?_
  refine gO_ ?_
  refine kp_nil 3 1 Eng.encI ?_
  refine wl_fx (fx_append_base (k := 0) (hk := rfl) (h := hl) (hlen := by simp only [List.length_nil, Nat.zero_add]; omega) (next := ?_))
  intro v hv
  refine gO_ ?_
  refine kp_nil 3 1 Eng.encI ?_
  refine wc_loop (fun s : (List Int × List Int) × Nat × Value × Value => (SV s.2.2.1 ∧ SV s.2.2.2) ∧ s.2.1 < fact s.1.1.length ∧ s.1.1.length ≤ l.length ∧ s.1.2.length + s.1.1.length = l.length ∧ s.1.2 ++ ordN s.1.1.length s.1.1 s.2.1 = ordL l n)
    (fun s => [(6, true, s.2.2.1), (5, true, s.2.2.2), (1, true, .int .i64 s.2.1)])
    (fun s => Mem [(w, All)] [.own s.2.2.2 3 1 Eng.encI s.1.2, .own s.2.2.1 3 1 Eng.encI s.1.1]) (fun s => s.1.1.length) ((l, []), n, v, .slice none 0 0) ⟨⟨hv, svN⟩, hn, Nat.le_refl _, by simp, rfl⟩ ⟨rfl, rfl, rfl, trivial⟩ (fun _ h => h.last rfl) ?_
  rintro ⟨⟨lf, ou⟩, q, lw, ow⟩ ⟨⟨hlw, how⟩, hq, hle, hsum, hinv⟩
  dsimp only at hlw how hq hle hsum hinv ⊢
  refine gO_ ?_
  refine wc_cond rfl (fun h1 => ?_) (fun h1 => ?_)
  · obtain ⟨m, hm⟩ : ∃ m, lf.length = m + 1 := ⟨lf.length - 1, by rw [dc_true] at h1; omega⟩
    have e1 : ((lf.length : Nat) : Int) - 1 = ((m : Nat) : Int) := by omega
    have hfm : fact m ≤ 65536 := Nat.le_trans (fact_mono l.length (by omega)) hc
    have hfp := fact_pos m
    have hqf : q < (m + 1) * fact m := by rw [← fact_succ, ← hm]; exact hq
    have hkm : q / fact m < m + 1 := by rw [Nat.div_lt_iff_lt_mul hfp]; exact hqf
    have hki : q / fact m < lf.length := by omega
    have hq6 : q ≤ 65536 := by
      have := fact_mono (i := lf.length) l.length hle
      omega
    refine gO_ ?_
    rw [e1]
    refine wl_fx (fx_call (spec := fun w' hw => rorders_spec m w' (by omega) (by omega)) (next := ?_))
    rintro v n2 w2 rfl hn2
    refine gO_ ?_
    have hst : ordN (m + 1) lf q = lf.getD (q / fact m) default :: ordN m (lf.eraseIdx (q / fact m)) (q % fact m) := rfl
    generalize q / fact m = k at *
    refine wl_fx (fx_lit (next := ?_))
    intro v29 hv29
    refine gO_ ?_
    refine wl_fx (fx_append_own (k := 1) (hk := rfl) (hm := .head _) (hlen := by simp only [List.length_map, List.length_cons, List.length_nil]; omega) (next := ?_))
    intro v30 hv30
    refine gO_ ?_
    refine wl_a (v := cutV k lw) (h := qy_cut_own (n := k) (tt := 3) (xs := lf) (enc := Eng.encI) ⟨_, rfl, fun _ => rfl⟩ ⟨_, rfl, fun _ => rfl⟩ (.tail _ (.tail _ (.head _))) (fun _ => by omega)) (next := ?_)
    refine gO_ ?_
    refine kp_nil 3 1 Eng.encI ?_
    refine wl_fx (fx_append_src (k := 0) (hk := rfl) (xs := ([] : List Int)) (ys := lf.take k) (h := fun w hw => hw.lendCut (.tail _ (.tail _ (.tail _ (.head _)))) k (by omega)) (hlen := by simp only [List.length_nil, Nat.zero_add, List.length_take]; omega) (next := ?_))
    intro v37 hv37
    refine gO_ ?_
    refine wl_a (v := subV 1 (k + 1) lf.length lw) (h := qy_subL_own (l := k + 1) (tt := 3) (xs := lf) (enc := Eng.encI) ⟨_, rfl, fun _ => rfl⟩ ⟨_, rfl, fun _ => rfl⟩ (.tail _ (.tail _ (.tail _ (.head _)))) (fun _ => by omega)) (next := ?_)
    refine gO_ ?_
    have hdl : (lf.take k).length + (lf.drop (k + 1)).length = m := by rw [List.length_take, List.length_drop]; omega
    refine wl_fx (fx_append_src (k := 0) (hk := rfl) (ys := lf.drop (k + 1)) (h := fun w hw => by have := (hw.lend (.tail _ (.tail _ (.tail _ (.head _))))).sub (k + 1) lf.length (by omega) (Nat.le_refl _); rwa [List.take_length] at this) (hlen := by rw [List.nil_append, hdl]; omega) (next := ?_))
    intro v43 hv43
    refine gO_ ?_
    have hle2 : (lf.eraseIdx k).length = m := by rw [List.length_eraseIdx, if_pos hki]; omega
    refine po_loop ((lf.eraseIdx k, ou ++ [lf.getD k default]), q % fact m, v43, v30) ⟨⟨hv43, hv30⟩, ?_, ?_, ?_, ?_⟩ ?_ ⟨rfl, rfl, rfl, trivial⟩ (fun _ h => ?_)
    · dsimp only; rw [hle2]; exact Nat.mod_lt _ hfp
    · dsimp only; omega
    · dsimp only; rw [List.length_append, List.length_singleton]; omega
    · dsimp only; rw [hle2, List.append_assoc, List.singleton_append, ← hst, ← hm]; exact hinv
    · dsimp only; omega
    · dsimp only
      rw [List.eraseIdx_eq_take_drop_succ]
      exact (h.last rfl).sel [2, 0] rfl (by decide)
  · have h0 : lf.length = 0 := by rw [dc_false] at h1; omega
    rw [h0, ordN, List.append_nil] at hinv
    refine gO_ ?_
    exact mk_ret Try.results45 (.tmp rfl .nil) (.head _) [_] [0] rfl (by decide) fun w' hw => ⟨how, by rw [hinv]; rfl⟩

set_option maxRecDepth 8000 in
set_option maxHeartbeats 6400000 in
theorem rat_spec {lv iv ev bv av dv cv tv nv : Value} {t : Tr} (n : Nat) (w : World) (h : TrIn All w lv iv ev bv av dv cv tv nv t) (ht : trOk t = true) (hc : candN t ≤ 65536) (hn : n ≤ 65536) :
    Mk Try.prog 26 [.agg #[lv, iv, ev, bv, av, dv, cv, tv, nv], .int .i64 n] w fun _ v es _ => ∃ ra oa vs, SV ra ∧ SV oa ∧ v = .agg #[ra, oa] ∧ vs.length = t.locs.length ∧ es = [.own ra 3 1 Eng.encI (candAt t n).rf, pack2 3 23 oa vs (candAt t n).co] := by
  obtain ⟨hb, hlb⟩ := trOk_lens ht
  have hE := h.evs; have hL := h.locs
  have hEl := hE.le; have hLl := hL.le
  refine enter_mk Try.func26 Try.ntmps26 rfl rfl ?_
  refine gO_ ?_
  refine wl_fx (fx_box (next := ?_)); intro bt
  refine gO_ ?_
  refine wl_fx (fx_alloc (next := ?_)); intro br4
  refine gO_ ?_
  refine wl_fx (fx_alloc (next := ?_)); intro bo
  refine gO_ ?_
  refine wl_fx (fx_make (enc := Eng.encI) (dec := Eng.decI) (next := ?_))
  intro rv hrv
  refine gO_ ?_
  refine wl_fx (fx_store_box (i := 1) (hi := rfl) (next := ?_))
  refine gO_ ?_
  refine wl_fx (fx_make (enc := encV) (dec := decV) (next := ?_))
  intro qv hqv
  refine gO_ ?_
  refine wl_fx (fx_store_box (i := 2) (hi := rfl) (next := ?_))
  refine kp_mem (A' := Mem [(w, All)] [.box bo [rv, qv] 33, .own qv 23 1 encV (List.replicate t.locs.length (.slice none 0 0)), .own rv 3 1 Eng.encI (List.replicate t.evs.length 0), .box br4 [.slice none 0 0, .slice none 0 0] 33, .box bt [lv, iv, ev, bv, av, dv, cv, tv, nv] 30]) (fun _ h => (h.last rfl).sel [2, 0, 1, 3, 4] rfl (by decide)) ?_
  refine kp_nils 3 t.locs.length ?_
  rw [← coTo_zero t n, ← rfTo'_zero t n]
  simp only [List.cons_append, List.nil_append]
  refine gO_ ?_
  refine wc_loop (fun s : Nat × List Value => s.1 ≤ t.locs.length ∧ s.2.length = t.locs.length ∧ ∀ v, v ∈ s.2 → SV v) (fun s => [(6, true, .int .i64 ((s.1 : Int) - 1)), (5, true, .pointer (some ⟨bo, 0, none⟩)), (4, true, .pointer (some ⟨br4, 0, none⟩)), (2, true, .pointer (some ⟨bt, 0, none⟩)), (1, true, .int .i64 (remC t n (t.locs.length - s.1) : Nat))])
    (fun s => Mem [(w, All)] (.box bo [rv, qv] 33 :: .own qv 23 1 encV s.2 :: .own rv 3 1 Eng.encI (rfTo' t n 0) :: .box br4 [.slice none 0 0, .slice none 0 0] 33 :: .box bt [lv, iv, ev, bv, av, dv, cv, tv, nv] 30 :: inner 3 s.2 (coTo t n (t.locs.length - s.1)))) (fun s => s.1) (t.locs.length, List.replicate t.locs.length (.slice none 0 0)) ⟨Nat.le_refl _, by simp, fun v hv => ?_⟩ ⟨rfl, rfl, rfl, rfl, by rw [Nat.sub_self]; rfl, trivial⟩ (fun _ h => by rw [Nat.sub_self]; exact h.last rfl) ?_
  · rw [List.eq_of_mem_replicate hv]; exact ⟨_, _, _, rfl⟩
  rintro ⟨j, vs⟩ ⟨hj, hvl, hvs⟩
  dsimp only at hj hvl hvs ⊢
  refine gO_ ?_
  refine wc_cond rfl (fun h1 => ?_) (fun h1 => ?_)
  · obtain ⟨k, rfl⟩ : ∃ k, j = k + 1 := ⟨j - 1, by rw [dc_true] at h1; omega⟩
    clear h1
    have ek : ((k + 1 : Nat) : Int) - 1 = (k : Int) := by omega
    rw [ek]
    have hkl : k < t.locs.length := hj
    have hxl := wr_le hb (k : Int)
    have hfc := fact_le_cand hc hkl
    have hfp := fact_pos (wr t (k : Int)).length
    have hrc := remC_le t n (t.locs.length - (k + 1))
    refine gO_ ?_
    refine wl_fx (fx_call (spec := fun w' hw => rwrites_spec (k : Int) w' (h.now hw (.head _)) hb) (next := ?_))
    rintro u n1 w1 hx hn1
    have hxs := hx.sv
    have hx' : Sl (Fr n1) w1 Eng.encI 1 u (wr t (k : Int)) := hx
    refine gO_ ?_
    refine wl_fx (fx_call (spec := fun w' hw => rorders_spec (wr t (k : Int)).length w' (by omega) (by omega)) (next := ?_))
    rintro v n2 w2 rfl hn2
    refine gO_ ?_
    have hrem : remC t n (t.locs.length - k) = remC t n (t.locs.length - (k + 1)) / fact (wr t (k : Int)).length := by
      have e1 : t.locs.length - k = (t.locs.length - (k + 1)) + 1 := by omega
      rw [e1, remC, show t.locs.length - 1 - (t.locs.length - (k + 1)) = k by omega]
    refine wc_draw [0, 1, 2, 3, 4, 5, 6, 7, 8, 9] mixed ?_
    refine kG_ ?_
    refine kg_f _ (h := fx_call_mk (spec := fun w' hw => rorder_spec u (wr t (k : Int)) (remC t n (t.locs.length - (k + 1)) % fact (wr t (k : Int)).length) w' (hw.now hx' (.tail _ (.head _))) (Nat.mod_lt _ hfp) hfc hxl) (next := ?_)) (hSS := fun _ h => h)
    rintro v n3 es w3 ⟨hv2, rfl⟩
    refine kp_S ?_ (fun _ h => h.tailB.tail)
    have hkv : k < vs.length := by omega
    refine kG_ ?_
    refine kg_z (h := fx_store_own (k := 2) (hk := rfl) (next := ?_))
    refine gO_ ?_
    rw [← hrem]
    refine po_loop (k, vs.set k v) ⟨by dsimp only; omega, by simpa using hvl, fun u hu => ?_⟩ (by dsimp only; omega) ⟨rfl, rfl, rfl, rfl, rfl, trivial⟩ (fun w' h => ?_)
    · rcases List.mem_or_eq_of_mem_set hu with hu | rfl
      · exact hvs u hu
      · exact hv2
    · have h' := (h.last rfl).put (k + 5)
      have e1 := inner_set 3 vs (coTo t n (t.locs.length - (k + 1))) k v (ordL (wr t (k : Int)) (remC t n (t.locs.length - (k + 1)) % fact (wr t (k : Int)).length))
      have e2 := coTo_put t n (d := t.locs.length - (k + 1)) (by omega) (k := k) (by omega) (x := ordL (wr t (k : Int)) (remC t n (t.locs.length - (k + 1)) % fact (wr t (k : Int)).length)) (by unfold coAt; rw [show t.locs.length - 1 - k = t.locs.length - (k + 1) by omega])
      rw [show t.locs.length - (k + 1) + 1 = t.locs.length - k by omega] at e2
      rw [e2] at e1
      dsimp only
      rw [← e1]
      exact h'
  obtain rfl : j = 0 := by rw [dc_false] at h1; omega
  clear h1
  rw [Nat.sub_zero, coTo_all]
  refine gO_ ?_
  refine wc_loop (fun j : Nat => j ≤ t.evs.length) (fun j => [(9, true, .int .i64 ((j : Int) - 1)), (5, true, .pointer (some ⟨bo, 0, none⟩)), (4, true, .pointer (some ⟨br4, 0, none⟩)), (2, true, .pointer (some ⟨bt, 0, none⟩)), (1, true, .int .i64 (remE t n (t.evs.length - j) : Nat))])
    (fun j => Mem [(w, All)] (.box bo [rv, qv] 33 :: .own qv 23 1 encV vs :: .own rv 3 1 Eng.encI (rfTo' t n (t.evs.length - j)) :: .box br4 [.slice none 0 0, .slice none 0 0] 33 :: .box bt [lv, iv, ev, bv, av, dv, cv, tv, nv] 30 :: inner 3 vs (candAt t n).co)) (fun j => j) t.evs.length (Nat.le_refl _) ⟨rfl, rfl, rfl, rfl, by rw [Nat.sub_self]; rfl, trivial⟩ (fun _ h => by rw [Nat.sub_self]; exact h.last rfl) ?_
  intro j hj
  refine gO_ ?_
  refine wc_cond rfl (fun h1 => ?_) (fun h1 => ?_)
  · obtain ⟨k, rfl⟩ : ∃ k, j = k + 1 := ⟨j - 1, by rw [dc_true] at h1; omega⟩
    clear h1
    have ek : ((k + 1 : Nat) : Int) - 1 = (k : Int) := by omega
    rw [ek]
    have hkl : k < t.evs.length := hj
    have hre := remE_le t n (t.evs.length - (k + 1))
    have hrem : remE t n (t.evs.length - k) = remE t n (t.evs.length - (k + 1)) / (rdOf t k).length := by
      have e1 : t.evs.length - k = (t.evs.length - (k + 1)) + 1 := by omega
      rw [e1, remE, show t.evs.length - 1 - (t.evs.length - (k + 1)) = k by omega]
    have hput : ∀ x, x = (rdOf t k).getD (remE t n (t.evs.length - (k + 1)) % (rdOf t k).length) default → (rfTo' t n (t.evs.length - (k + 1))).set k x = rfTo' t n (t.evs.length - k) := fun x hx => by
      have e2 := rfTo'_put t n (d := t.evs.length - (k + 1)) (by omega) (k := k) (by omega) (x := x) (by rw [hx]; unfold rfAt; rw [show t.evs.length - 1 - k = t.evs.length - (k + 1) by omega])
      rwa [show t.evs.length - (k + 1) + 1 = t.evs.length - k by omega] at e2
    have hkr : k < (rfTo' t n (t.evs.length - (k + 1))).length := by rw [rfTo'_len]; exact hkl
    generalize hL0 : rfTo' t n (t.evs.length - (k + 1)) = L0 at *
    refine gO_ ?_
    refine wl_fx (fx_store_own (k := 2) (hk := rfl) (next := ?_))
    refine gO_ ?_
    refine wc_cond rfl (fun h2 => ?_) (fun h2 => ?_)
    · rw [dc_true] at h2
      have hrd : rdOf t k = [-1] := by
        unfold rdOf
        rw [if_neg (by intro h3; rw [h2] at h3; cases h3)]
      have hr1 : remE t n (t.evs.length - (k + 1)) = remE t n (t.evs.length - k) := by rw [hrem, hrd]; simp
      rw [hr1]
      refine gO_ ?_
      refine po_loop k (by omega) (by omega) ⟨rfl, rfl, rfl, rfl, rfl, trivial⟩ (fun w' h => ?_)
      rw [← hput (-1) (by rw [hrd]; simp [Nat.mod_one])]
      exact h
    · rw [dc_false] at h2
      have hd1 : (t.evs.getD k default).dir = 1 := trOk_read ht hkl h2
      have hrd : rdOf t k = -1 :: wr t (t.evs.getD k default).loc := by unfold rdOf; rw [if_pos hd1]
      have hxl := wr_le hb (t.evs.getD k default).loc
      generalize hloc : (t.evs.getD k default).loc = loc at *
      refine gO_ ?_
      refine wc_draw [0, 1, 2, 3, 4, 5, 6, 7, 8] mixed ?_
      refine kG_ ?_
      rw [hloc]
      refine kg_f _ (h := fx_call (spec := fun w' hw => rwrites_spec loc w' (h.now hw (.head _)) hb) (next := ?_)) (hSS := fun _ h => h)
      rintro u n4 w4 hx hn4
      have hx' : Sl (Fr n4) w4 Eng.encI 1 u (wr t loc) := hx
      have hxs := hx'.sv
      refine kp_S ?_ (fun _ h => h.tailB)
      refine kG_ ?_
      refine gO_ ?_
      have ec : (((wr t loc).length : Nat) : Int) + 1 = (((rdOf t k).length : Nat) : Int) := by rw [hrd, List.length_cons]; rfl
      have hlc : (rdOf t k).length = (wr t loc).length + 1 := by rw [hrd, List.length_cons]
      have hqlt : remE t n (t.evs.length - (k + 1)) % (rdOf t k).length < (rdOf t k).length := Nat.mod_lt _ (by omega)
      rw [ec]
      refine gO_ ?_
      rw [ec]
      refine gO_ ?_
      rw [← hrem]
      generalize remE t n (t.evs.length - (k + 1)) % (rdOf t k).length = q at *
      refine wc_cond rfl (fun h3 => ?_) (fun h3 => ?_)
      · rw [dc_true] at h3
        have hkr2 : k < (L0.set k (-1)).length := by rw [List.length_set]; exact hkr
        refine gO_ ?_
        refine wc_draw [0, 1, 2, 3, 4, 5, 6, 7, 8, 9] mixed ?_
        refine kG_ ?_
        refine kg_z (h := fx_store_own (k := 2) (hk := rfl) (next := ?_))
        refine gO_ ?_
        refine po_loop k (by omega) (by omega) ⟨rfl, rfl, rfl, rfl, rfl, trivial⟩ (fun w' h => ?_)
        rw [← hput ((wr t loc).getD ((q : Int) - 1).toNat default) (by
          obtain ⟨r, rfl⟩ : ∃ r, q = r + 1 := ⟨q - 1, by omega⟩
          rw [hrd, show (((r + 1 : Nat) : Int) - 1).toNat = r by omega]; rfl)]
        have h' := h.last rfl
        simp only [List.set_cons_succ, List.set_cons_zero, List.set_set] at h'
        exact h'
      · rw [dc_false] at h3
        obtain rfl : q = 0 := by omega
        refine gO_ ?_
        refine po_loop k (by omega) (by omega) ⟨rfl, rfl, rfl, rfl, rfl, trivial⟩ (fun w' h => ?_)
        rw [← hput (-1) (by rw [hrd]; rfl)]
        exact h.last rfl
  obtain rfl : j = 0 := by rw [dc_false] at h1; omega
  clear h1
  rw [Nat.sub_zero, rfTo'_all]
  refine gO_ ?_
  refine wl_fx (fx_store_box (i := 3) (hi := rfl) (next := ?_))
  refine gO_ ?_
  refine kp_mem (A' := Mem [(w, All)] [pack2 3 23 qv vs (candAt t n).co, .box bo [rv, qv] 33, .own rv 3 1 Eng.encI (candAt t n).rf, .box br4 [rv, qv] 33, .box bt [lv, iv, ev, bv, av, dv, cv, tv, nv] 30]) (fun _ h => (h.perm ((List.Perm.swap _ _ _).trans (List.Perm.cons _ (List.perm_append_comm (l₁ := [_, _, _, _]))))).pack) ?_
  exact mk_ret Try.results26 (.cellN inferInstance rfl (.tail _ (.tail _ (.tail _ (.head _)))) rfl .nil) (.head _) [_, _] [2, 0] rfl (by decide) fun w' hw => ⟨rv, qv, vs, hrv, hqv, rfl, hvl, rfl⟩

set_option maxHeartbeats 1600000 in
theorem rAt_spec {lv iv ev bv av dv cv tv nv : Value} {t : Tr} (n : Int) (w : World) (h : TrIn All w lv iv ev bv av dv cv tv nv t) :
    Mk Try.prog 7 [.agg #[lv, iv, ev, bv, av, dv, cv, tv, nv], .int .i64 n] w fun _ v es _ => ∃ ra oa vs, SV ra ∧ SV oa ∧ v = .tuple #[.agg #[ra, oa], .int .i64 (atE t n)] ∧ vs.length = (atC t n).co.length ∧ es = [.own ra 3 1 Eng.encI (atC t n).rf, pack2 3 23 oa vs (atC t n).co] := by
  refine enter_mk Try.func7 Try.ntmps7 rfl rfl ?_
  refine gO_ ?_
  refine wl_fx (fx_box (next := ?_)); intro bt
  refine gO_ ?_
  refine wl_fx (fx_alloc (next := ?_)); intro br4
  refine gO_ ?_
  refine wl_fx (fx_alloc (next := ?_)); intro bc
  refine gO_ ?_
  refine wl_fx (fx_call (spec := fun w' hw => rCount_spec w' (h.now hw (.head _))) (next := ?_))
  rintro v n1 w1 rfl hn1
  refine gO_ ?_
  have hno : ∀ {e : Int}, atE t n = e → ¬ e = 0 → atC t n = noC := fun {e} he h0 => by unfold atC; rw [he, if_neg h0]
  refine wc_cond rfl (fun h1 => ?_) (fun h1 => ?_)
  · rw [Bool.not_eq_true', dc_false] at h1
    have he : atE t n = cntE t := by unfold atE; rw [if_neg h1]
    have hc := hno he h1
    refine gO_ ?_
    refine wl_fx (fx_store_box (i := 1) (hi := rfl) (next := ?_))
    refine gO_ ?_
    refine kp_mem (fun _ h => Mem.noC h) ?_
    exact mk_ret Try.results7 (.cellN inferInstance rfl (.tail _ (.tail _ (.tail _ (.head _)))) rfl (.tmp rfl .nil)) (.tail _ (.head _)) [_, _] [0, 1] rfl (by decide) fun w' hw => ⟨_, _, [], svN, svN, by rw [he]; rfl, by rw [hc]; rfl, by rw [hc]; rfl⟩
  · have hz : cntE t = 0 := by rw [Bool.not_eq_false', dc_true] at h1; exact h1
    have hok : trOk t = true := by
      unfold cntE at hz
      by_cases q : trOk t = true
      · exact q
      · rw [if_neg q] at hz; cases hz
    have hcn : candN t ≤ 65536 := by
      unfold cntE at hz
      rw [if_pos hok] at hz
      by_cases q : candN t ≤ 65536
      · exact q
      · rw [if_neg q] at hz; cases hz
    have hcc : cntN t = candN t := by unfold cntN; rw [if_pos hok, if_pos hcn]
    obtain ⟨hb, hlb⟩ := trOk_lens hok
    rw [hz]
    refine gO_ ?_
    refine wc_cond rfl (fun h2 => ?_) (fun h2 => ?_)
    · have he : atE t n = 4 := by
        simp only [Bool.or_eq_true, dc_true] at h2
        unfold atE
        rw [if_pos hz, if_neg (by omega)]
      have hc := hno he (by omega)
      refine gO_ ?_
      refine wl_fx (fx_store_box (i := 1) (hi := rfl) (next := ?_))
      refine gO_ ?_
      refine kp_mem (fun _ h => Mem.noC h) ?_
      exact mk_ret Try.results7 (.cellN inferInstance rfl (.tail _ (.tail _ (.tail _ (.head _)))) rfl (.tmp rfl .nil)) (.tail _ (.head _)) [_, _] [0, 1] rfl (by decide) fun w' hw => ⟨_, _, [], svN, svN, by rw [he]; rfl, by rw [hc]; rfl, by rw [hc]; rfl⟩
    · simp only [Bool.or_eq_false_iff, dc_false] at h2
      obtain ⟨m, rfl⟩ : ∃ m : Nat, n = m := ⟨n.toNat, by omega⟩
      have he : atE t m = 0 := by
        unfold atE
        rw [if_pos hz, if_pos (by omega)]
      have hc : atC t m = candAt t m := by unfold atC; rw [if_pos he, Int.toNat_natCast]
      have hcl : (candAt t m).co.length = t.locs.length := by rw [← coTo_all, coTo_len]
      refine gO_ ?_
      refine wl_fx (fx_call_mk (spec := fun w' hw => rat_spec m w' (h.now hw (.tail _ (.head _))) hok hcn (by omega)) (next := ?_))
      rintro v n2 es w2 ⟨ra, oa, vs, hra, hoa, rfl, hvl, rfl⟩
      refine gO_ ?_
      refine wl_fx (fx_store_box (i := 3) (hi := rfl) (next := ?_))
      refine gO_ ?_
      exact mk_ret Try.results7 (.cellN inferInstance rfl (.tail _ (.tail _ (.tail _ (.head _)))) rfl (.tmp rfl .nil)) (.tail _ (.tail _ (.head _))) [_, _] [0, 1] rfl (by decide) fun w' hw => ⟨ra, oa, vs, hra, hoa, by rw [he]; rfl, by rw [hc, hcl, hvl], by rw [hc]⟩
end Go.Proofs.Ytdpcdbepeemflaa
