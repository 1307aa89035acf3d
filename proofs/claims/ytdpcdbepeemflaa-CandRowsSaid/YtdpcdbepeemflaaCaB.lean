/- The walks: cand.choices.count, counted, Count, ordered. -/
import Derived.Test.YtdpcdbepeemflaaCaA
import Derived.Test.YtdpcdbepeemflaaDel
set_option linter.unusedSimpArgs false
set_option linter.unusedVariables false
namespace Go.Tc
theorem cap_le (n : Nat) : cap n ≤ 65537 := by unfold cap; omega
theorem cap_pos {n : Nat} (h : 0 < n) : 0 < cap n := by unfold cap; omega
theorem cap_capr {a b : Nat} (ha : 0 < a) : cap (a * cap b) = cap (a * b) := by
  by_cases h : b ≤ 65537
  · rw [show cap b = b by unfold cap; omega]
  · have h1 : cap b = 65537 := by unfold cap; omega
    have h2 : 65537 ≤ a * 65537 := Nat.le_mul_of_pos_left _ ha
    have h3 : a * 65537 ≤ a * b := Nat.mul_le_mul_left _ (by omega)
    rw [h1]; unfold cap; omega
theorem candN_cap (t : Tr) : (65536 < cap (candN t)) = (65536 < candN t) := by
  unfold cap; exact propext ⟨fun h => by omega, fun h => by omega⟩
theorem wr_le {t : Tr} (hb : t.evs.length ≤ 64) (k : Int) : (wr t k).length ≤ 64 := Nat.le_trans (wrTo_le t k _) hb
theorem rdOf_le {t : Tr} (hb : t.evs.length ≤ 64) (i : Nat) : (rdOf t i).length ≤ 65 := by
  have := wr_le hb (t.evs.getD i default).loc
  unfold rdOf; split
  · rw [List.length_cons]; omega
  · simp
theorem ordN_step {m : Nat} {l : List Int} {n : Nat} : ordN (m + 1) l n = l.getD (n / fact m) default :: ordN m (l.eraseIdx (n / fact m)) (n % fact m) := rfl
end Go.Tc
namespace Go.Proofs.Ytdpcdbepeemflaa
open Go Go.Eng Go.Tc
attribute [local irreducible] wpList Code.wp bodyPost Exit.then Exit.inBlock Calls

set_option maxHeartbeats 1600000 in
theorem ccount_spec (rv wv : Value) (t : Tr) (w : World) (hr : Sl2 All w rv (rds t)) (hq : Sl2 All w wv (wrs t)) (hb : t.evs.length ≤ 64) (hlb : t.locs.length ≤ 64) :
    Pur Try.prog 42 [.agg #[rv, wv]] w fun _ v _ => v = .int .i64 (cap (candN t) : Int) := by
  obtain ⟨rvs, hrv, hrl, hri⟩ := hr
  obtain ⟨wvs, hwv, hwl, hwi⟩ := hq
  have hrs := hrv.sv; have hws := hwv.sv
  have hrvl := hrv.le; have hwvl := hwv.le
  rw [rds_len] at hrl hri
  rw [wrs_len] at hwl hwi
  refine enter_pur Try.func42 Try.ntmps42 rfl rfl ?_
  refine gO_ ?_
  refine wl_fx (fx_box (next := ?_)); intro bc
  refine gO_ ?_
  refine wc_loop (fun s : Nat × Nat => s.1 ≤ t.evs.length ∧ s.2 = cap (evProd t s.1)) (fun s => [(11, true, .int .i64 s.1), (10, true, .int .i64 rvs.length), (9, true, rv), (3, true, .int .i64 s.2), (1, true, .pointer (some ⟨bc, 0, none⟩))])
    (fun s => Mem [(w, All)] [.box bc [rv, wv] 63]) (fun s => t.evs.length - s.1) (0, 1) ⟨Nat.zero_le _, rfl⟩ ⟨rfl, rfl, rfl, rfl, rfl, trivial⟩ (fun _ h => h.last rfl) ?_
  rintro ⟨i, all⟩ ⟨hi, hall⟩
  dsimp only at hi hall ⊢
  subst hall
  refine gO_ ?_
  refine wc_cond rfl (fun h1 => ?_) (fun h1 => ?_)
  · have h1' : i < t.evs.length := by rw [dc_true] at h1; omega
    have h1r : i < rvs.length := by omega
    have hx := hri i h1'
    have hxs := hx.sv
    have hxl : ((rds t).getD i default).length = evWays t i := by rw [rds_get t h1', rdOf_len]
    refine gO_ ?_
    refine wl_fx (fx_call (spec := fun w' hw => many_spec (cap (evProd t i)) ((rds t).getD i default).length w') (next := ?_))
    rintro v n1 w1 rfl hn1
    rw [hxl, cap_mul (evProd_pos t i) (evWays_pos t i)]
    refine gO_ ?_
    refine po_loop ((i + 1), cap (evProd t (i + 1))) ⟨by dsimp only; omega, rfl⟩ (by dsimp only; omega) ⟨rfl, rfl, rfl, rfl, rfl, trivial⟩ (fun _ h => h.last rfl)
  · obtain rfl : i = t.evs.length := by rw [dc_false] at h1; omega
    refine gO_ ?_
    refine wc_loop (fun s : Nat × Nat => s.1 ≤ t.locs.length ∧ s.2 = cap (evProd t t.evs.length * locProd t s.1)) (fun s => [(23, true, .int .i64 s.1), (22, true, .int .i64 wvs.length), (21, true, wv), (3, true, .int .i64 s.2)])
      (fun s => Mem [(w, All)] [.box bc [rv, wv] 63]) (fun s => t.locs.length - s.1) (0, cap (evProd t t.evs.length)) ⟨Nat.zero_le _, by rw [locProd, Nat.mul_one]⟩ ⟨rfl, rfl, rfl, rfl, trivial⟩ (fun _ h => h.last rfl) ?_
    rintro ⟨k, all⟩ ⟨hk, hall⟩
    dsimp only at hk hall ⊢
    subst hall
    refine gO_ ?_
    refine wc_cond rfl (fun h2 => ?_) (fun h2 => ?_)
    · have h2' : k < t.locs.length := by rw [dc_true] at h2; omega
      have h2r : k < wvs.length := by omega
      have hx := hwi k h2'
      have hxs := hx.sv
      have hxl : ((wrs t).getD k default).length = (wr t (k : Int)).length := by rw [wrs_get t h2']
      have hle := wr_le hb (k : Int)
      refine gO_ ?_
      refine wl_fx (fx_call (spec := fun w' hw => corders_spec ((wrs t).getD k default).length w' (by omega)) (next := ?_))
      rintro v n2 w2 rfl hn2
      rw [hxl]
      refine gO_ ?_
      refine wl_fx (fx_call (spec := fun w' hw => many_spec (cap (evProd t t.evs.length * locProd t k)) (cap (fact (wr t (k : Int)).length)) w') (next := ?_))
      rintro v n3 w3 rfl hn3
      have hp : 0 < evProd t t.evs.length * locProd t k := Nat.mul_pos (evProd_pos t _) (locProd_pos t k)
      rw [cap_mul hp (cap_pos (fact_pos _)), cap_capr hp]
      refine gO_ ?_
      refine po_loop ((k + 1), cap (evProd t t.evs.length * locProd t k * fact (wr t (k : Int)).length)) ⟨by dsimp only; omega, by rw [locProd, Nat.mul_assoc]⟩ (by dsimp only; omega) ⟨rfl, rfl, rfl, rfl, trivial⟩ (fun _ h => h.last rfl)
    · obtain rfl : k = t.locs.length := by rw [dc_false] at h2; omega
      refine gO_ ?_
      refine pur_ret Try.results42 (.tmp rfl .nil) (.head _) fun w' hw => ?_
      rfl

set_option maxHeartbeats 1600000 in
theorem counted_spec {lv iv ev bv av dv cv tv nv : Value} {t : Tr} (w : World) (h : TrIn All w lv iv ev bv av dv cv tv nv t) :
    Pur Try.prog 24 [.agg #[lv, iv, ev, bv, av, dv, cv, tv, nv]] w fun m v w' => ∃ rv wv, SV rv ∧ SV wv ∧ v = .tuple #[.agg #[rv, wv], .int .i64 (cntN t : Int), .int .i64 (cntE t)] ∧ (cntE t = 0 → Sl2 (Fr m) w' rv (rds t) ∧ Sl2 (Fr m) w' wv (wrs t)) := by
  refine enter_pur Try.func24 Try.ntmps24 rfl rfl ?_
  refine gO_ ?_
  refine wl_fx (fx_box (next := ?_)); intro bt
  refine gO_ ?_
  refine wl_fx (fx_alloc (next := ?_)); intro br2
  refine gO_ ?_
  refine wl_fx (fx_call (spec := fun w' hw => tcheck_spec w' (h.now hw (.head _))) (next := ?_))
  rintro v n1 w1 rfl hn1
  refine gO_ ?_
  refine wc_cond rfl (fun h1 => ?_) (fun h1 => ?_)
  · rw [trE_dc] at h1
    have hok : trOk t = false := by simpa using h1
    have e1 : trE t = 1 := by unfold trE; rw [hok]; rfl
    have e2 : cntN t = 0 := by unfold cntN; rw [hok]; rfl
    have e3 : cntE t = 1 := by unfold cntE; rw [hok]; rfl
    rw [e1]
    refine gO_ ?_
    refine wl_fx (fx_store_box (i := 0) (hi := rfl) (next := ?_))
    refine gO_ ?_
    refine pur_ret Try.results24 (.cellN inferInstance rfl (.head _) rfl (.tmp rfl (.tmp rfl .nil))) (.tail _ (.head _)) fun w' hw => ?_
    refine ⟨_, _, svN, svN, by rw [e2, e3]; rfl, fun h => by rw [e3] at h; cases h⟩
  · have hok : trOk t = true := by rw [trE_dc] at h1; simpa using h1
    obtain ⟨hb, hlb⟩ := trOk_lens hok
    refine gO_ ?_
    refine wl_fx (fx_call (spec := fun w' hw => (cof_spec w' (h.now hw (.tail _ (.head _))) hok).size (hw.sz (.tail _ (.head _)))) (next := ?_))
    rintro v n2 w2 ⟨⟨rv, wv, rfl, hr, hq⟩, hm2⟩ hn2
    obtain ⟨rvs, hrv, hrl, hri⟩ := hr
    obtain ⟨wvs, hwv, hwl, hwi⟩ := hq
    have hrs := hrv.sv; have hws := hwv.sv
    refine gO_ ?_
    refine wl_fx (fx_alloc (next := ?_)); intro bc
    refine gO_ ?_
    refine wl_fx (fx_store_box (i := 0) (hi := rfl) (next := ?_))
    refine gO_ ?_
    refine wl_fx (fx_call (spec := fun w' hw => ccount_spec rv wv t w' (hw.now2 ⟨⟨rvs, hrv, hrl, hri⟩⟩ (.head _)) (hw.now2 ⟨⟨wvs, hwv, hwl, hwi⟩⟩ (.head _)) hb hlb) (next := ?_))
    rintro v n3 w3 rfl hn3
    refine gO_ ?_
    refine wc_cond rfl (fun h2 => ?_) (fun h2 => ?_)
    · have h2' : ¬ candN t ≤ 65536 := by
        rw [dc_true] at h2
        have : 65536 < cap (candN t) := by omega
        rw [candN_cap] at this; omega
      have e2 : cntN t = 0 := by unfold cntN; rw [if_pos hok, if_neg h2']
      have e3 : cntE t = 3 := by unfold cntE; rw [if_pos hok, if_neg h2']
      refine gO_ ?_
      refine wl_fx (fx_store_box (i := 1) (hi := rfl) (next := ?_))
      refine gO_ ?_
      refine pur_ret Try.results24 (.cellN inferInstance rfl (.tail _ (.head _)) rfl (.tmp rfl (.tmp rfl .nil))) (.tail _ (.tail _ (.tail _ (.head _)))) fun w' hw => ?_
      refine ⟨_, _, svN, svN, by rw [e2, e3]; rfl, fun h => by rw [e3] at h; cases h⟩
    · have h2' : candN t ≤ 65536 := by
        rw [dc_false] at h2
        have : ¬ 65536 < cap (candN t) := by omega
        rw [candN_cap] at this; omega
      have e2 : cntN t = candN t := by unfold cntN; rw [if_pos hok, if_pos h2']
      have e3 : cntE t = 0 := by unfold cntE; rw [if_pos hok, if_pos h2']
      rw [show cap (candN t) = candN t by unfold cap; omega]
      refine gO_ ?_
      refine wl_fx (fx_store_box (i := 1) (hi := rfl) (next := ?_))
      refine gO_ ?_
      refine pur_ret Try.results24 (.cellN inferInstance rfl (.tail _ (.head _)) rfl (.tmp rfl (.tmp rfl .nil))) (.tail _ (.tail _ (.tail _ (.head _)))) fun w' hw => ?_
      refine ⟨rv, wv, hrs, hws, by rw [e2, e3]; rfl, fun _ => ⟨hw.pass2 ⟨⟨rvs, hrv, hrl, hri⟩⟩ (.tail _ (.head _)) hm2, hw.pass2 ⟨⟨wvs, hwv, hwl, hwi⟩⟩ (.tail _ (.head _)) hm2⟩⟩

set_option maxHeartbeats 800000 in
theorem cCount_spec {lv iv ev bv av dv cv tv nv : Value} {t : Tr} (w : World) (h : TrIn All w lv iv ev bv av dv cv tv nv t) :
    Pur Try.prog 28 [.agg #[lv, iv, ev, bv, av, dv, cv, tv, nv]] w fun _ v _ => v = .tuple #[.int .i64 (cntN t : Int), .int .i64 (cntE t)] := by
  refine enter_pur Try.func28 Try.ntmps28 rfl rfl ?_
  refine gO_ ?_
  refine wl_fx (fx_box (next := ?_)); intro bt
  refine gO_ ?_
  refine wl_fx (fx_call (spec := fun w' hw => counted_spec w' (h.now hw (.head _))) (next := ?_))
  rintro v n1 w1 ⟨rv, wv, hrs, hws, rfl, _⟩ hn1
  refine gO_ ?_
  refine wl_fx (fx_alloc (next := ?_)); intro b_
  refine gO_ ?_
  refine wl_fx (fx_store_box (i := 0) (hi := rfl) (next := ?_))
  refine gO_ ?_
  refine pur_ret Try.results28 (.tmp rfl (.tmp rfl .nil)) (.tail _ (.head _)) fun w' hw => ?_
  rfl

set_option maxHeartbeats 1600000 in
theorem ordered_spec (lv : Value) (l : List Int) (n : Nat) (w : World) (hl : Sl All w Eng.encI 1 lv l) (hn : n < fact l.length) (hc : fact l.length ≤ 65536) (hb : l.length ≤ 64) :
    Mk Try.prog 43 [lv, .int .i64 n] w fun _ r es _ => SV r ∧ es = [.own r 3 1 Eng.encI (ordL l n)] := by
  have hls := hl.sv
  refine enter_mk Try.func43 Try.ntmps43 rfl rfl ?_
  refine gO_ ?_
  refine wl_fx (fx_call_mk (spec := fun w' hw => sclone_spec lv l w' (hw.now hl (.head _)) (by omega)) (next := ?_))
  rintro v n1 es w1 ⟨hv, rfl⟩
  refine gO_ ?_
  refine kp_nil 3 1 Eng.encI ?_
  refine wc_loop (fun s : (List Int × List Int) × Nat × Value × Value => (SV s.2.2.1 ∧ SV s.2.2.2) ∧ s.2.1 < fact s.1.1.length ∧ s.1.1.length ≤ l.length ∧ s.1.2.length + s.1.1.length = l.length ∧ s.1.2 ++ ordN s.1.1.length s.1.1 s.2.1 = ordL l n)
    (fun s => [(6, true, s.2.2.2), (5, true, s.2.2.1), (1, true, .int .i64 s.2.1)])
    (fun s => Mem [(w, All)] [.own s.2.2.2 3 1 Eng.encI s.1.2, .own s.2.2.1 3 1 Eng.encI s.1.1]) (fun s => s.1.1.length) ((l, []), n, v, .slice none 0 0) ⟨⟨hv, svN⟩, hn, Nat.le_refl _, by simp, rfl⟩ ⟨rfl, rfl, rfl, trivial⟩ (fun _ h => h.last rfl) ?_
  rintro ⟨⟨lf, ou⟩, q, lw, ow⟩ ⟨⟨hlw, how⟩, hq, hle, hsum, hinv⟩
  dsimp only at hlw how hq hle hsum hinv ⊢
  refine gO_ ?_
  refine wc_cond rfl (fun h1 => ?_) (fun h1 => ?_)
  · obtain ⟨m, hm⟩ : ∃ m, lf.length = m + 1 := ⟨lf.length - 1, by rw [dc_true] at h1; omega⟩
    have e1 : ((lf.length : Nat) : Int) - 1 = ((m : Nat) : Int) := by omega
    have hfm : fact m ≤ 65536 := Nat.le_trans (fact_mono l.length (by omega)) hc
    have hcap : cap (fact m) = fact m := by unfold cap; omega
    have hfp := fact_pos m
    have hqf : q < (m + 1) * fact m := by rw [← fact_succ, ← hm]; exact hq
    have hkm : q / fact m < m + 1 := by rw [Nat.div_lt_iff_lt_mul hfp]; exact hqf
    have hki : q / fact m < lf.length := by omega
    have hq6 : q ≤ 65536 := by
      have := fact_mono (i := lf.length) l.length hle
      omega
    refine gO_ ?_
    rw [e1]
    refine wl_fx (fx_call (spec := fun w' hw => corders_spec m w' (by omega)) (next := ?_))
    rintro v n2 w2 rfl hn2
    rw [hcap]
    refine gO_ ?_
    have hst : ordN (m + 1) lf q = lf.getD (q / fact m) default :: ordN m (lf.eraseIdx (q / fact m)) (q % fact m) := rfl
    generalize q / fact m = k at *
    refine wl_fx (fx_lit (next := ?_))
    intro v29 hv29
    refine gO_ ?_
    refine wl_fx (fx_append_own (k := 1) (hk := rfl) (hm := .head _) (hlen := by simp only [List.length_map, List.length_cons, List.length_nil]; omega) (next := ?_))
    intro v30 hv30
    refine gO_ ?_
    refine wl_fx (fx_call_mu 2 rfl (spec := fun w' hw => sdelete_spec lw lf k w' hki (hw.only (.tail _ (.tail _ (.head _))))) (next := ?_))
    rintro v35 n3 e' w3 ⟨hv35, rfl⟩
    refine gO_ ?_
    have hle2 : (lf.eraseIdx k).length = m := by rw [List.length_eraseIdx, if_pos hki]; omega
    refine po_loop ((lf.eraseIdx k, ou ++ [lf.getD k default]), q % fact m, v35, v30) ⟨⟨hv35, hv30⟩, ?_, ?_, ?_, ?_⟩ ?_ ⟨rfl, rfl, rfl, trivial⟩ (fun _ h => (h.last rfl).sel [1, 2] rfl (by decide))
    · dsimp only; rw [hle2]; exact Nat.mod_lt _ hfp
    · dsimp only; omega
    · dsimp only; rw [List.length_append, List.length_singleton]; omega
    · dsimp only; rw [hle2, List.append_assoc, List.singleton_append, ← hst, ← hm]; exact hinv
    · dsimp only; omega
  · have h0 : lf.length = 0 := by rw [dc_false] at h1; omega
    rw [h0, ordN, List.append_nil] at hinv
    refine gO_ ?_
    exact mk_ret Try.results43 (.tmp rfl .nil) (.head _) [_] [0] rfl (by decide) fun w' hw => ⟨how, by rw [hinv]; rfl⟩
end Go.Proofs.Ytdpcdbepeemflaa
