/- The walks: cand.choices.at, cand.At (printed by gen_cat.py). -/
import Derived.Test.YtdpcdbepeemflaaCaB
import Derived.Test.YtdpcdbepeemflaaG02
set_option linter.unusedSimpArgs false
set_option linter.unusedVariables false
namespace Go.Proofs.Ytdpcdbepeemflaa
open Go Go.Eng Go.Tc
attribute [local irreducible] wpList Code.wp bodyPost Exit.then Exit.inBlock Calls

set_option maxRecDepth 8000 in
set_option maxHeartbeats 6400000 in
theorem cat_spec (rvv wvv : Value) (t : Tr) (n : Nat) (w : World) (hr : Sl2 All w rvv (rds t)) (hq : Sl2 All w wvv (wrs t)) (hb : t.evs.length ≤ 64) (hlb : t.locs.length ≤ 64) (hc : candN t ≤ 65536) (hn : n ≤ 65536) :
    Mk Try.prog 25 [.agg #[rvv, wvv], .int .i64 n] w fun _ v es _ => ∃ ra oa vs, SV ra ∧ SV oa ∧ v = .agg #[ra, oa] ∧ vs.length = t.locs.length ∧ es = [.own ra 3 1 Eng.encI (candAt t n).rf, pack2 3 23 oa vs (candAt t n).co] := by
  obtain ⟨rvs, hrv0, hrl, hri⟩ := hr
  obtain ⟨wvs, hwv0, hwl, hwi⟩ := hq
  have hrs0 := hrv0.sv; have hws0 := hwv0.sv
  have hrvl := hrv0.le; have hwvl := hwv0.le
  rw [rds_len] at hrl hri
  rw [wrs_len] at hwl hwi
  refine enter_mk Try.func25 Try.ntmps25 rfl rfl ?_
  refine gO_ ?_
  refine wl_fx (fx_box (next := ?_)); intro bc
  refine gO_ ?_
  refine wl_fx (fx_alloc (next := ?_)); intro br4
  refine gO_ ?_
  refine wc_cutA (fun s : Nat × Value × Value => SV s.2.1 ∧ SV s.2.2) (fun s => [(5, true, .pointer (some ⟨s.1, 0, none⟩)), (4, true, .pointer (some ⟨br4, 0, none⟩)), (2, true, .pointer (some ⟨bc, 0, none⟩)), (1, true, .int .i64 n)])
    (fun s => Mem [(w, All)] [.box s.1 [s.2.1, s.2.2] 33, .own s.2.2 23 1 encV (List.replicate t.locs.length (.slice none 0 0)), .own s.2.1 3 1 Eng.encI (List.replicate t.evs.length 0), .box br4 [.slice none 0 0, .slice none 0 0] 33, .box bc [rvv, wvv] 63]) ?_ ?_
  · refine wc_drawS (Mem [(w, All)] [.box br4 [.slice none 0 0, .slice none 0 0] 33, .box bc [rvv, wvv] 63]) [0, 1, 2, 4, 5, 6, 999] mixed (fun _ h => h.last rfl) ?_
    refine kG_ ?_
    rw [hrl, hwl]
    refine kg_br3 3 7 9 (h1 := ?_) (h2 := ?_) (h3 := ?_)
    · refine ks_f [999] _ (hSS := fun _ h => h) (h := fx_make (enc := Eng.encI) (dec := Eng.decI) (e := 3) (b := 8) (z := .int .i64 0) (sz := 1) (next := ?_))
      intro rv hrv
      refine kp_S ?_ (fun _ h => (h.last rfl).sel [1, 2] rfl (by decide))
      refine kg_br2 7 9 (h1 := ?_) (h2 := ?_)
      · refine ks_f [8, 999] _ (hSS := fun _ h => h) (h := fx_make (enc := encV) (dec := decV) (e := 23) (b := 24) (z := .slice none 0 0) (sz := 1) (next := ?_))
        intro qv hqv
        refine kp_S ?_ (fun _ h => (h.last rfl).sel [2, 3] rfl (by decide))
        refine kG_ ?_
        refine kg_br1 9 (h1 := ?_)
        refine ks_f [10] _ (hSS := fun _ h => h) (h := fx_alloc (next := ?_))
        intro bo
        refine kp_S ?_ (fun _ h => (h.last rfl).sel [3, 4] rfl (by decide))
        refine kg_z (h := fx_store_box (i := 0) (hi := rfl) (next := ?_))
        exact po_cut (bo, rv, qv) ⟨hrv, hqv⟩ ⟨rfl, rfl, rfl, rfl, trivial⟩ (fun _ h => (h.last rfl).sel [0, 1, 2, 3, 4] rfl (by decide))
      · refine ks_f [999] _ (hSS := fun _ h => h) (h := fx_alloc (next := ?_))
        intro bo
        refine kp_S ?_ (fun _ h => (h.last rfl).sel [2, 3] rfl (by decide))
        refine kg_br1 7 (h1 := ?_)
        refine ks_f [8, 10] _ (hSS := fun _ h => h) (h := fx_make (enc := encV) (dec := decV) (e := 23) (b := 24) (z := .slice none 0 0) (sz := 1) (next := ?_))
        intro qv hqv
        refine kp_S ?_ (fun _ h => (h.last rfl).sel [3, 4] rfl (by decide))
        refine kG_ ?_
        refine kg_z (h := fx_store_box (i := 1) (hi := rfl) (next := ?_))
        exact po_cut (bo, rv, qv) ⟨hrv, hqv⟩ ⟨rfl, rfl, rfl, rfl, trivial⟩ (fun _ h => (h.last rfl).sel [1, 0, 2, 3, 4] rfl (by decide))
    · refine ks_f [999] _ (hSS := fun _ h => h) (h := fx_make (enc := encV) (dec := decV) (e := 23) (b := 24) (z := .slice none 0 0) (sz := 1) (next := ?_))
      intro qv hqv
      refine kp_S ?_ (fun _ h => (h.last rfl).sel [1, 2] rfl (by decide))
      refine kg_br2 3 9 (h1 := ?_) (h2 := ?_)
      · refine ks_f [8, 999] _ (hSS := fun _ h => h) (h := fx_make (enc := Eng.encI) (dec := Eng.decI) (e := 3) (b := 8) (z := .int .i64 0) (sz := 1) (next := ?_))
        intro rv hrv
        refine kp_S ?_ (fun _ h => (h.last rfl).sel [2, 3] rfl (by decide))
        refine kG_ ?_
        refine kg_br1 9 (h1 := ?_)
        refine ks_f [10] _ (hSS := fun _ h => h) (h := fx_alloc (next := ?_))
        intro bo
        refine kp_S ?_ (fun _ h => (h.last rfl).sel [3, 4] rfl (by decide))
        refine kg_z (h := fx_store_box (i := 0) (hi := rfl) (next := ?_))
        exact po_cut (bo, rv, qv) ⟨hrv, hqv⟩ ⟨rfl, rfl, rfl, rfl, trivial⟩ (fun _ h => (h.last rfl).sel [0, 2, 1, 3, 4] rfl (by decide))
      · refine ks_f [999] _ (hSS := fun _ h => h) (h := fx_alloc (next := ?_))
        intro bo
        refine kp_S ?_ (fun _ h => (h.last rfl).sel [2, 3] rfl (by decide))
        refine kg_br1 3 (h1 := ?_)
        refine ks_f [8, 10] _ (hSS := fun _ h => h) (h := fx_make (enc := Eng.encI) (dec := Eng.decI) (e := 3) (b := 8) (z := .int .i64 0) (sz := 1) (next := ?_))
        intro rv hrv
        refine kp_S ?_ (fun _ h => (h.last rfl).sel [3, 4] rfl (by decide))
        refine kG_ ?_
        refine kg_z (h := fx_store_box (i := 1) (hi := rfl) (next := ?_))
        exact po_cut (bo, rv, qv) ⟨hrv, hqv⟩ ⟨rfl, rfl, rfl, rfl, trivial⟩ (fun _ h => (h.last rfl).sel [1, 2, 0, 3, 4] rfl (by decide))
    · refine ks_f [999] _ (hSS := fun _ h => h) (h := fx_alloc (next := ?_))
      intro bo
      refine kp_S ?_ (fun _ h => (h.last rfl).sel [1, 2] rfl (by decide))
      refine kg_br2 3 7 (h1 := ?_) (h2 := ?_)
      · refine ks_f [999] _ (hSS := fun _ h => h) (h := fx_make (enc := Eng.encI) (dec := Eng.decI) (e := 3) (b := 8) (z := .int .i64 0) (sz := 1) (next := ?_))
        intro rv hrv
        refine kp_S ?_ (fun _ h => (h.last rfl).sel [2, 3] rfl (by decide))
        refine kg_br1 7 (h1 := ?_)
        refine ks_f [8, 10] _ (hSS := fun _ h => h) (h := fx_make (enc := encV) (dec := decV) (e := 23) (b := 24) (z := .slice none 0 0) (sz := 1) (next := ?_))
        intro qv hqv
        refine kp_S ?_ (fun _ h => (h.last rfl).sel [3, 4] rfl (by decide))
        refine kG_ ?_
        refine kg_z (h := fx_store_box (i := 2) (hi := rfl) (next := ?_))
        exact po_cut (bo, rv, qv) ⟨hrv, hqv⟩ ⟨rfl, rfl, rfl, rfl, trivial⟩ (fun _ h => (h.last rfl).sel [2, 0, 1, 3, 4] rfl (by decide))
      · refine ks_f [999] _ (hSS := fun _ h => h) (h := fx_make (enc := encV) (dec := decV) (e := 23) (b := 24) (z := .slice none 0 0) (sz := 1) (next := ?_))
        intro qv hqv
        refine kp_S ?_ (fun _ h => (h.last rfl).sel [2, 3] rfl (by decide))
        refine kg_br1 3 (h1 := ?_)
        refine ks_f [8, 10] _ (hSS := fun _ h => h) (h := fx_make (enc := Eng.encI) (dec := Eng.decI) (e := 3) (b := 8) (z := .int .i64 0) (sz := 1) (next := ?_))
        intro rv hrv
        refine kp_S ?_ (fun _ h => (h.last rfl).sel [3, 4] rfl (by decide))
        refine kG_ ?_
        refine kg_z (h := fx_store_box (i := 2) (hi := rfl) (next := ?_))
        exact po_cut (bo, rv, qv) ⟨hrv, hqv⟩ ⟨rfl, rfl, rfl, rfl, trivial⟩ (fun _ h => (h.last rfl).sel [2, 1, 0, 3, 4] rfl (by decide))
  rintro ⟨bo, rv, qv⟩ ⟨hrv, hqv⟩
  dsimp only at hrv hqv ⊢
  refine kp_nils 3 t.locs.length ?_
  rw [← coTo_zero t n, ← rfTo'_zero t n]
  simp only [List.cons_append, List.nil_append]
  refine gO_ ?_
  rw [hwl]
  refine wc_loop (fun s : Nat × List Value => s.1 ≤ t.locs.length ∧ s.2.length = t.locs.length ∧ ∀ v, v ∈ s.2 → SV v) (fun s => [(6, true, .int .i64 ((s.1 : Int) - 1)), (5, true, .pointer (some ⟨bo, 0, none⟩)), (4, true, .pointer (some ⟨br4, 0, none⟩)), (2, true, .pointer (some ⟨bc, 0, none⟩)), (1, true, .int .i64 (remC t n (t.locs.length - s.1) : Nat))])
    (fun s => Mem [(w, All)] (.box bo [rv, qv] 33 :: .own qv 23 1 encV s.2 :: .own rv 3 1 Eng.encI (rfTo' t n 0) :: .box br4 [.slice none 0 0, .slice none 0 0] 33 :: .box bc [rvv, wvv] 63 :: inner 3 s.2 (coTo t n (t.locs.length - s.1)))) (fun s => s.1) (t.locs.length, List.replicate t.locs.length (.slice none 0 0)) ⟨Nat.le_refl _, by simp, fun v hv => ?_⟩ ⟨rfl, rfl, rfl, rfl, by rw [Nat.sub_self]; rfl, trivial⟩ (fun _ h => by rw [Nat.sub_self]; exact h.last rfl) ?_
  · rw [List.eq_of_mem_replicate hv]; exact ⟨_, _, _, rfl⟩
  rintro ⟨j, vs⟩ ⟨hj, hvl, hvs⟩
  dsimp only at hj hvl hvs ⊢
  refine gO_ ?_
  refine wc_cond rfl (fun h1 => ?_) (fun h1 => ?_)
  · obtain ⟨k, rfl⟩ : ∃ k, j = k + 1 := ⟨j - 1, by rw [dc_true] at h1; omega⟩
    clear h1
    have ek : ((k + 1 : Nat) : Int) - 1 = (k : Int) := by omega
    rw [ek]
    have hkl : k < t.locs.length := hj
    have hkw : k < wvs.length := by omega
    have hx := hwi k hkl
    rw [wrs_get t hkl] at hx
    have hxs := hx.sv
    have hxl := wr_le hb (k : Int)
    have hfc := fact_le_cand hc hkl
    have hfp := fact_pos (wr t (k : Int)).length
    have hcap : cap (fact (wr t (k : Int)).length) = fact (wr t (k : Int)).length := by unfold cap; omega
    have hrc := remC_le t n (t.locs.length - (k + 1))
    have hck : coTo t n (t.locs.length - (k + 1)) = coTo t n (t.locs.length - (k + 1)) := rfl
    refine gO_ ?_
    refine wl_fx (fx_call (spec := fun w' hw => corders_spec (wr t (k : Int)).length w' (by omega)) (next := ?_))
    rintro v n1 w1 rfl hn1
    rw [hcap]
    refine gO_ ?_
    have hrem : remC t n (t.locs.length - k) = remC t n (t.locs.length - (k + 1)) / fact (wr t (k : Int)).length := by
      have e1 : t.locs.length - k = (t.locs.length - (k + 1)) + 1 := by omega
      rw [e1, remC, show t.locs.length - 1 - (t.locs.length - (k + 1)) = k by omega]
    refine wc_draw [0, 1, 2, 3, 4, 5, 6, 7, 8, 9, 10, 11, 12, 13] mixed ?_
    refine kG_ ?_
    refine kg_f _ (h := fx_call_mk (spec := fun w' hw => ordered_spec _ (wr t (k : Int)) (remC t n (t.locs.length - (k + 1)) % fact (wr t (k : Int)).length) w' (hw.now hx (.tail _ (.head _))) (Nat.mod_lt _ hfp) hfc hxl) (next := ?_)) (hSS := fun _ h => h)
    rintro v n2 es w2 ⟨hv2, rfl⟩
    refine kp_S ?_ (fun _ h => h.tailB.tail)
    have hkv : k < vs.length := by omega
    refine kG_ ?_
    refine kg_z (h := fx_store_own (k := 2) (hk := rfl) (next := ?_))
    refine gO_ ?_
    rw [← hrem]
    refine po_loop (k, vs.set k v) ⟨by dsimp only; omega, by simpa using hvl, fun u hu => ?_⟩ (by dsimp only; omega) ⟨rfl, rfl, rfl, rfl, rfl, trivial⟩ (fun w' h => ?_)
    · rcases List.mem_or_eq_of_mem_set hu with hu | rfl
      · exact hvs u hu
      · exact hv2
    · have h' := (h.last rfl).put (k + 5)
      have e1 := inner_set 3 vs (coTo t n (t.locs.length - (k + 1))) k v (ordL (wr t (k : Int)) (remC t n (t.locs.length - (k + 1)) % fact (wr t (k : Int)).length))
      have e2 := coTo_put t n (d := t.locs.length - (k + 1)) (by omega) (k := k) (by omega) (x := ordL (wr t (k : Int)) (remC t n (t.locs.length - (k + 1)) % fact (wr t (k : Int)).length)) (by unfold coAt; rw [show t.locs.length - 1 - k = t.locs.length - (k + 1) by omega])
      rw [show t.locs.length - (k + 1) + 1 = t.locs.length - k by omega] at e2
      rw [e2] at e1
      dsimp only
      rw [← e1]
      exact h'
  obtain rfl : j = 0 := by rw [dc_false] at h1; omega
  clear h1
  rw [Nat.sub_zero, coTo_all]
  refine gO_ ?_
  rw [hrl]
  refine wc_loop (fun j : Nat => j ≤ t.evs.length) (fun j => [(8, true, .int .i64 ((j : Int) - 1)), (5, true, .pointer (some ⟨bo, 0, none⟩)), (4, true, .pointer (some ⟨br4, 0, none⟩)), (2, true, .pointer (some ⟨bc, 0, none⟩)), (1, true, .int .i64 (remE t n (t.evs.length - j) : Nat))])
    (fun j => Mem [(w, All)] (.box bo [rv, qv] 33 :: .own qv 23 1 encV vs :: .own rv 3 1 Eng.encI (rfTo' t n (t.evs.length - j)) :: .box br4 [.slice none 0 0, .slice none 0 0] 33 :: .box bc [rvv, wvv] 63 :: inner 3 vs (candAt t n).co)) (fun j => j) t.evs.length (Nat.le_refl _) ⟨rfl, rfl, rfl, rfl, by rw [Nat.sub_self]; rfl, trivial⟩ (fun _ h => by rw [Nat.sub_self]; exact h.last rfl) ?_
  intro j hj
  refine gO_ ?_
  refine wc_cond rfl (fun h1 => ?_) (fun h1 => ?_)
  · obtain ⟨k, rfl⟩ : ∃ k, j = k + 1 := ⟨j - 1, by rw [dc_true] at h1; omega⟩
    clear h1
    have ek : ((k + 1 : Nat) : Int) - 1 = (k : Int) := by omega
    rw [ek]
    have hkl : k < t.evs.length := hj
    have hkw : k < rvs.length := by omega
    have hx := hri k hkl
    rw [rds_get t hkl] at hx
    have hxs := hx.sv
    have hxl := rdOf_le hb k
    have hxp := rdOf_pos t k
    have hre := remE_le t n (t.evs.length - (k + 1))
    have hmod := Nat.mod_lt (remE t n (t.evs.length - (k + 1))) hxp
    have hrem : remE t n (t.evs.length - k) = remE t n (t.evs.length - (k + 1)) / (rdOf t k).length := by
      have e1 : t.evs.length - k = (t.evs.length - (k + 1)) + 1 := by omega
      rw [e1, remE, show t.evs.length - 1 - (t.evs.length - (k + 1)) = k by omega]
    have hkr : k < (rfTo' t n (t.evs.length - (k + 1))).length := by rw [rfTo'_len]; exact hkl
    refine gO_ ?_
    refine wc_draw [0, 1, 2, 3, 4, 5, 6, 7, 8, 9, 10, 11, 12, 13, 14] mixed ?_
    refine kG_ ?_
    refine kg_z (h := fx_store_own (k := 2) (hk := rfl) (next := ?_))
    refine gO_ ?_
    rw [← hrem]
    refine po_loop k (by omega) (by omega) ⟨rfl, rfl, rfl, rfl, rfl, trivial⟩ (fun w' h => ?_)
    have e2 := rfTo'_put t n (d := t.evs.length - (k + 1)) (by omega) (k := k) (by omega) (x := (rdOf t k).getD (remE t n (t.evs.length - (k + 1)) % (rdOf t k).length) default) (by unfold rfAt; rw [show t.evs.length - 1 - k = t.evs.length - (k + 1) by omega])
    rw [show t.evs.length - (k + 1) + 1 = t.evs.length - k by omega] at e2
    rw [← e2]
    exact h
  obtain rfl : j = 0 := by rw [dc_false] at h1; omega
  clear h1
  rw [Nat.sub_zero, rfTo'_all]
  refine gO_ ?_
  refine wl_fx (fx_store_box (i := 3) (hi := rfl) (next := ?_))
  refine gO_ ?_
  refine kp_mem (A' := Mem [(w, All)] [pack2 3 23 qv vs (candAt t n).co, .box bo [rv, qv] 33, .own rv 3 1 Eng.encI (candAt t n).rf, .box br4 [rv, qv] 33, .box bc [rvv, wvv] 63]) (fun _ h => (h.perm ((List.Perm.swap _ _ _).trans (List.Perm.cons _ (List.perm_append_comm (l₁ := [_, _, _, _]))))).pack) ?_
  exact mk_ret Try.results25 (.cellN inferInstance rfl (.tail _ (.tail _ (.tail _ (.head _)))) rfl .nil) (.head _) [_, _] [2, 0] rfl (by decide) fun w' hw => ⟨rv, qv, vs, hrv, hqv, rfl, hvl, rfl⟩

set_option maxHeartbeats 1600000 in
theorem Mem.noC {bs : List Base} {H : List Ent} {w : World} (h : Mem bs H w) : Mem bs (.own (.slice none 0 0) 3 1 Eng.encI [] :: pack2 3 23 (.slice none 0 0) [] [] :: H) w := by
  have h1 : Mem bs (.own (.slice none 0 0) 23 1 encV [] :: H) w := h.new rfl rfl rfl (Nat.le_refl _) (fun _ _ => rfl) ⟨by simp, .inl ⟨rfl, rfl⟩⟩ (fun k hk => by simp [Ent.fp, Value.ownBlock] at hk) (fun k hk => by simp [Ent.fp, Value.ownBlock] at hk)
  have h2 : Mem bs (pack2 3 23 (.slice none 0 0) [] [] :: H) w := Mem.pack (L := [.own (.slice none 0 0) 23 1 encV []]) h1
  exact h2.new rfl rfl rfl (Nat.le_refl _) (fun _ _ => rfl) ⟨by simp, .inl ⟨rfl, rfl⟩⟩ (fun k hk => by simp [Ent.fp, Value.ownBlock] at hk) (fun k hk => by simp [Ent.fp, Value.ownBlock] at hk)
set_option maxHeartbeats 1600000 in
theorem cAt_spec {lv iv ev bv av dv cv tv nv : Value} {t : Tr} (n : Int) (w : World) (h : TrIn All w lv iv ev bv av dv cv tv nv t) :
    Mk Try.prog 6 [.agg #[lv, iv, ev, bv, av, dv, cv, tv, nv], .int .i64 n] w fun _ v es _ => ∃ ra oa vs, SV ra ∧ SV oa ∧ v = .tuple #[.agg #[ra, oa], .int .i64 (atE t n)] ∧ vs.length = (atC t n).co.length ∧ es = [.own ra 3 1 Eng.encI (atC t n).rf, pack2 3 23 oa vs (atC t n).co] := by
  refine enter_mk Try.func6 Try.ntmps6 rfl rfl ?_
  refine gO_ ?_
  refine wl_fx (fx_box (next := ?_)); intro bt
  refine gO_ ?_
  refine wl_fx (fx_alloc (next := ?_)); intro br4
  refine gO_ ?_
  refine wl_fx (fx_call (spec := fun w' hw => counted_spec w' (h.now hw (.head _))) (next := ?_))
  rintro v n1 w1 ⟨rv, wv, hrs, hws, rfl, hS⟩ hn1
  refine gO_ ?_
  refine wl_fx (fx_alloc (next := ?_)); intro bc
  refine gO_ ?_
  refine wl_fx (fx_store_box (i := 0) (hi := rfl) (next := ?_))
  refine gO_ ?_
  have hno : ∀ {e : Int}, atE t n = e → ¬ e = 0 → atC t n = noC := fun {e} he h0 => by unfold atC; rw [he, if_neg h0]
  refine wc_cond rfl (fun h1 => ?_) (fun h1 => ?_)
  · rw [Bool.not_eq_true', dc_false] at h1
    have he : atE t n = cntE t := by unfold atE; rw [if_neg h1]
    have hc := hno he h1
    refine gO_ ?_
    refine wl_fx (fx_store_box (i := 1) (hi := rfl) (next := ?_))
    refine gO_ ?_
    refine kp_mem (fun _ h => Mem.noC h) ?_
    exact mk_ret Try.results6 (.cellN inferInstance rfl (.tail _ (.tail _ (.tail _ (.head _)))) rfl (.tmp rfl .nil)) (.tail _ (.head _)) [_, _] [0, 1] rfl (by decide) fun w' hw => ⟨_, _, [], svN, svN, by rw [he]; rfl, by rw [hc]; rfl, by rw [hc]; rfl⟩
  · have hz : cntE t = 0 := by rw [Bool.not_eq_false', dc_true] at h1; exact h1
    obtain ⟨hr, hq⟩ := hS hz
    have hok : trOk t = true := by
      unfold cntE at hz
      by_cases q : trOk t = true
      · exact q
      · rw [if_neg q] at hz; cases hz
    have hcn : candN t ≤ 65536 := by
      unfold cntE at hz
      rw [if_pos hok] at hz
      by_cases q : candN t ≤ 65536
      · exact q
      · rw [if_neg q] at hz; cases hz
    have hcc : cntN t = candN t := by unfold cntN; rw [if_pos hok, if_pos hcn]
    obtain ⟨hb, hlb⟩ := trOk_lens hok
    rw [hz]
    refine gO_ ?_
    refine wc_cond rfl (fun h2 => ?_) (fun h2 => ?_)
    · have he : atE t n = 4 := by
        simp only [Bool.or_eq_true, dc_true] at h2
        unfold atE
        rw [if_pos hz, if_neg (by omega)]
      have hc := hno he (by omega)
      refine gO_ ?_
      refine wl_fx (fx_store_box (i := 1) (hi := rfl) (next := ?_))
      refine gO_ ?_
      refine kp_mem (fun _ h => Mem.noC h) ?_
      exact mk_ret Try.results6 (.cellN inferInstance rfl (.tail _ (.tail _ (.tail _ (.head _)))) rfl (.tmp rfl .nil)) (.tail _ (.head _)) [_, _] [0, 1] rfl (by decide) fun w' hw => ⟨_, _, [], svN, svN, by rw [he]; rfl, by rw [hc]; rfl, by rw [hc]; rfl⟩
    · simp only [Bool.or_eq_false_iff, dc_false] at h2
      obtain ⟨m, rfl⟩ : ∃ m : Nat, n = m := ⟨n.toNat, by omega⟩
      have he : atE t m = 0 := by
        unfold atE
        rw [if_pos hz, if_pos (by omega)]
      have hc : atC t m = candAt t m := by unfold atC; rw [if_pos he, Int.toNat_natCast]
      have hcl : (candAt t m).co.length = t.locs.length := by rw [← coTo_all, coTo_len]
      refine gO_ ?_
      refine wl_fx (fx_call_mk (spec := fun w' hw => cat_spec rv wv t m w' (hw.now2 hr (.head _)) (hw.now2 hq (.head _)) hb hlb hcn (by omega)) (next := ?_))
      rintro v n2 es w2 ⟨ra, oa, vs, hra, hoa, rfl, hvl, rfl⟩
      refine gO_ ?_
      refine wl_fx (fx_store_box (i := 3) (hi := rfl) (next := ?_))
      refine gO_ ?_
      exact mk_ret Try.results6 (.cellN inferInstance rfl (.tail _ (.tail _ (.tail _ (.head _)))) rfl (.tmp rfl .nil)) (.tail _ (.tail _ (.head _))) [_, _] [0, 1] rfl (by decide) fun w' hw => ⟨ra, oa, vs, hra, hoa, by rw [he]; rfl, by rw [hc, hcl, hvl], by rw [hc]⟩
end Go.Proofs.Ytdpcdbepeemflaa
