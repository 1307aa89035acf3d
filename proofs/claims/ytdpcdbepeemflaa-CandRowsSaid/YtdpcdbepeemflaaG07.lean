import Derived.Test.YtdpcdbepeemflaaG06
import Derived.Test.YtdpcdbepeemflaaG02
set_option linter.unusedSimpArgs false
set_option linter.unusedVariables false
section
/- Candidates: cand.of. (printed by gen_of.py) -/
namespace Go.Tc
open Go Go.Eng
/-- the writes of each location among the first so many events -/
def wsTo (t : Tr) (i : Nat) : List (List Int) := (List.range t.locs.length).map fun (k : Nat) => wrTo t (k : Int) i
theorem wsTo_len (t : Tr) (i : Nat) : (wsTo t i).length = t.locs.length := by simp [wsTo]
theorem wsTo_zero (t : Tr) : wsTo t 0 = List.replicate t.locs.length [] := by
  unfold wsTo
  rw [List.eq_replicate_iff]
  refine ⟨by simp, fun b hb => ?_⟩
  obtain ⟨k, _, rfl⟩ := List.mem_map.1 hb
  rfl
theorem wsTo_same (t : Tr) {i : Nat} (h : ¬ (t.evs.getD i default).dir = 2) : wsTo t (i + 1) = wsTo t i := by
  unfold wsTo
  refine List.map_congr_left fun k _ => ?_
  rw [wrTo_succ, if_neg (by unfold wrAt; rw [decide_eq_false h]; simp), List.append_nil]
theorem wsTo_get (t : Tr) (i : Nat) {k : Nat} (hk : k < t.locs.length) : (wsTo t i).getD k default = wrTo t (k : Int) i := by
  unfold wsTo
  rw [List.getD_eq_getElem?_getD, List.getElem?_map, List.getElem?_range hk]; rfl
theorem wsTo_put (t : Tr) {i : Nat} (h : (t.evs.getD i default).dir = 2) {k : Nat} (hk : k < t.locs.length) (hl : (t.evs.getD i default).loc = (k : Int)) : (wsTo t i).set k ((wsTo t i).getD k default ++ [(i : Int)]) = wsTo t (i + 1) := by
  rw [wsTo_get t i hk]
  apply List.ext_getElem (by simp [wsTo])
  intro j h1 h2
  simp only [wsTo, List.getElem_set, List.getElem_map, List.getElem_range, wrTo_succ]
  by_cases hjk : k = j
  · subst hjk
    rw [if_pos rfl, if_pos (by unfold wrAt; rw [decide_eq_true h, decide_eq_true hl]; rfl)]
  · rw [if_neg hjk, if_neg (by unfold wrAt; rw [hl, decide_eq_false (show ¬ (k : Int) = (j : Int) by omega)]; simp), List.append_nil]
/-- what an event may read -/
def rdOf (t : Tr) (i : Nat) : List Int := if (t.evs.getD i default).dir = 1 then -1 :: wr t (t.evs.getD i default).loc else [-1]
def rdTo (t : Tr) (i : Nat) : List (List Int) := (List.range t.evs.length).map fun k => if k < i then rdOf t k else []
def rds (t : Tr) : List (List Int) := (List.range t.evs.length).map (rdOf t)
def wrs (t : Tr) : List (List Int) := (List.range t.locs.length).map fun (k : Nat) => wr t (k : Int)
theorem wsTo_all (t : Tr) : wsTo t t.evs.length = wrs t := rfl
theorem wsTo_sum (t : Tr) (i k : Nat) : ((wsTo t i).getD k default).length ≤ i := by
  by_cases hk : k < t.locs.length
  · rw [wsTo_get t i hk]; exact wrTo_le _ _ _
  · rw [List.getD_eq_getElem?_getD, List.getElem?_eq_none (by simp [wsTo]; omega)]; exact Nat.zero_le _
theorem rdTo_len (t : Tr) (i : Nat) : (rdTo t i).length = t.evs.length := by simp [rdTo]
theorem rdTo_zero (t : Tr) : rdTo t 0 = List.replicate t.evs.length [] := by
  unfold rdTo
  rw [List.eq_replicate_iff]
  refine ⟨by simp, fun b hb => ?_⟩
  obtain ⟨k, _, rfl⟩ := List.mem_map.1 hb
  rfl
theorem rdTo_all (t : Tr) : rdTo t t.evs.length = rds t := by
  unfold rdTo rds
  refine List.map_congr_left fun k hk => ?_
  rw [if_pos (List.mem_range.1 hk)]
theorem rdTo_put (t : Tr) {i : Nat} {x : List Int} (hx : x = rdOf t i) : (rdTo t i).set i x = rdTo t (i + 1) := by
  subst hx
  apply List.ext_getElem (by simp [rdTo])
  intro j h1 h2
  simp only [rdTo, List.getElem_set, List.getElem_map, List.getElem_range]
  by_cases hij : i = j
  · subst hij; rw [if_pos rfl, if_pos (by omega)]
  · rw [if_neg hij]
    by_cases hji : j < i
    · rw [if_pos hji, if_pos (by omega)]
    · rw [if_neg hji, if_neg (by omega)]
theorem trOk_loc {t : Tr} (h : trOk t = true) {i : Nat} (hi : i < t.evs.length) : 0 ≤ (t.evs.getD i default).loc ∧ (t.evs.getD i default).loc < t.locs.length := by
  simp only [trOk, Bool.and_eq_true, eventedB, all_range] at h
  have := h.1.1.1.1.1.2.2 i hi
  simp only [evAt, evOne, Bool.and_eq_true, decide_eq_true_eq] at this
  exact ⟨this.1.1.1.1.1.1.2, this.1.1.1.1.1.2⟩
end Go.Tc
namespace Go.Proofs.Ytdpcdbepeemflaa
open Go Go.Eng Go.Tc
attribute [local irreducible] wpList Code.wp bodyPost Exit.then Exit.inBlock Calls
set_option maxHeartbeats 4000000 in
theorem cof_spec {lv iv ev bv av dv cv tv nv : Value} {t : Tr} (w : World) (h : TrIn All w lv iv ev bv av dv cv tv nv t) (hok : trOk t = true) :
    Pur Try.prog 32 [.agg #[lv, iv, ev, bv, av, dv, cv, tv, nv]] w fun m v w' => ∃ rv wv, v = .agg #[rv, wv] ∧ Sl2 (Fr m) w' rv (rds t) ∧ Sl2 (Fr m) w' wv (wrs t) := by
  have hE := h.evs; have hL := h.locs
  obtain ⟨hb, hlb⟩ := trOk_lens hok
  refine enter_pur Try.func32 Try.ntmps32 rfl rfl ?_
  refine gO_ ?_
  refine wl_fx (fx_box (next := ?_)); intro bt
  refine gO_ ?_
  refine wl_fx (fx_alloc (next := ?_)); intro br
  refine gO_ ?_
  refine wc_cutA (fun s : Nat × Value × Value => SV s.2.1 ∧ SV s.2.2) (fun s => [(3, true, .pointer (some ⟨s.1, 0, none⟩)), (2, true, .pointer (some ⟨br, 0, none⟩)), (1, true, .pointer (some ⟨bt, 0, none⟩))])
    (fun s => Mem [(w, All)] [.box s.1 [s.2.1, s.2.2] 63, .own s.2.2 23 1 encV (List.replicate t.locs.length (.slice none 0 0)), .own s.2.1 23 1 encV (List.replicate t.evs.length (.slice none 0 0)), .box br [.slice none 0 0, .slice none 0 0] 63, .box bt [lv, iv, ev, bv, av, dv, cv, tv, nv] 30]) ?_ ?_
  · skip
    refine wc_drawS (Mem [(w, All)] [.box br [.slice none 0 0, .slice none 0 0] 63, .box bt [lv, iv, ev, bv, av, dv, cv, tv, nv] 30]) [0, 1, 2, 4, 5, 6, 999] mixed (fun _ h => h.last rfl) ?_
    refine kG_ ?_
    refine kg_br3 3 7 9 (h1 := ?_) (h2 := ?_) (h3 := ?_)
    · refine ks_f [999] _ (hSS := fun _ h => h) (h := fx_make (enc := encV) (dec := decV) (e := 23) (b := 24) (z := .slice none 0 0) (sz := 1) (next := ?_))
      intro rv hrv
      refine kp_S ?_ (fun _ h => (h.last rfl).sel [1, 2] rfl (by decide))
      refine kg_br2 7 9 (h1 := ?_) (h2 := ?_)
      · refine ks_f [8, 999] _ (hSS := fun _ h => h) (h := fx_make (enc := encV) (dec := decV) (e := 23) (b := 24) (z := .slice none 0 0) (sz := 1) (next := ?_))
        intro wv hwv
        refine kp_S ?_ (fun _ h => (h.last rfl).sel [2, 3] rfl (by decide))
        refine kG_ ?_
        refine kg_br1 9 (h1 := ?_)
        refine ks_f [10] _ (hSS := fun _ h => h) (h := fx_alloc (next := ?_))
        intro bc
        refine kp_S ?_ (fun _ h => (h.last rfl).sel [3, 4] rfl (by decide))
        refine kg_z (h := fx_store_box (i := 0) (hi := rfl) (next := ?_))
        exact po_cut (bc, rv, wv) ⟨hrv, hwv⟩ ⟨rfl, rfl, rfl, trivial⟩ (fun _ h => (h.last rfl).sel [0, 1, 2, 3, 4] rfl (by decide))
      · refine ks_f [999] _ (hSS := fun _ h => h) (h := fx_alloc (next := ?_))
        intro bc
        refine kp_S ?_ (fun _ h => (h.last rfl).sel [2, 3] rfl (by decide))
        refine kg_br1 7 (h1 := ?_)
        refine ks_f [8, 10] _ (hSS := fun _ h => h) (h := fx_make (enc := encV) (dec := decV) (e := 23) (b := 24) (z := .slice none 0 0) (sz := 1) (next := ?_))
        intro wv hwv
        refine kp_S ?_ (fun _ h => (h.last rfl).sel [3, 4] rfl (by decide))
        refine kG_ ?_
        refine kg_z (h := fx_store_box (i := 1) (hi := rfl) (next := ?_))
        exact po_cut (bc, rv, wv) ⟨hrv, hwv⟩ ⟨rfl, rfl, rfl, trivial⟩ (fun _ h => (h.last rfl).sel [1, 0, 2, 3, 4] rfl (by decide))
    · refine ks_f [999] _ (hSS := fun _ h => h) (h := fx_make (enc := encV) (dec := decV) (e := 23) (b := 24) (z := .slice none 0 0) (sz := 1) (next := ?_))
      intro wv hwv
      refine kp_S ?_ (fun _ h => (h.last rfl).sel [1, 2] rfl (by decide))
      refine kg_br2 3 9 (h1 := ?_) (h2 := ?_)
      · refine ks_f [8, 999] _ (hSS := fun _ h => h) (h := fx_make (enc := encV) (dec := decV) (e := 23) (b := 24) (z := .slice none 0 0) (sz := 1) (next := ?_))
        intro rv hrv
        refine kp_S ?_ (fun _ h => (h.last rfl).sel [2, 3] rfl (by decide))
        refine kG_ ?_
        refine kg_br1 9 (h1 := ?_)
        refine ks_f [10] _ (hSS := fun _ h => h) (h := fx_alloc (next := ?_))
        intro bc
        refine kp_S ?_ (fun _ h => (h.last rfl).sel [3, 4] rfl (by decide))
        refine kg_z (h := fx_store_box (i := 0) (hi := rfl) (next := ?_))
        exact po_cut (bc, rv, wv) ⟨hrv, hwv⟩ ⟨rfl, rfl, rfl, trivial⟩ (fun _ h => (h.last rfl).sel [0, 2, 1, 3, 4] rfl (by decide))
      · refine ks_f [999] _ (hSS := fun _ h => h) (h := fx_alloc (next := ?_))
        intro bc
        refine kp_S ?_ (fun _ h => (h.last rfl).sel [2, 3] rfl (by decide))
        refine kg_br1 3 (h1 := ?_)
        refine ks_f [8, 10] _ (hSS := fun _ h => h) (h := fx_make (enc := encV) (dec := decV) (e := 23) (b := 24) (z := .slice none 0 0) (sz := 1) (next := ?_))
        intro rv hrv
        refine kp_S ?_ (fun _ h => (h.last rfl).sel [3, 4] rfl (by decide))
        refine kG_ ?_
        refine kg_z (h := fx_store_box (i := 1) (hi := rfl) (next := ?_))
        exact po_cut (bc, rv, wv) ⟨hrv, hwv⟩ ⟨rfl, rfl, rfl, trivial⟩ (fun _ h => (h.last rfl).sel [1, 2, 0, 3, 4] rfl (by decide))
    · refine ks_f [999] _ (hSS := fun _ h => h) (h := fx_alloc (next := ?_))
      intro bc
      refine kp_S ?_ (fun _ h => (h.last rfl).sel [1, 2] rfl (by decide))
      refine kg_br2 3 7 (h1 := ?_) (h2 := ?_)
      · refine ks_f [999] _ (hSS := fun _ h => h) (h := fx_make (enc := encV) (dec := decV) (e := 23) (b := 24) (z := .slice none 0 0) (sz := 1) (next := ?_))
        intro rv hrv
        refine kp_S ?_ (fun _ h => (h.last rfl).sel [2, 3] rfl (by decide))
        refine kg_br1 7 (h1 := ?_)
        refine ks_f [8, 10] _ (hSS := fun _ h => h) (h := fx_make (enc := encV) (dec := decV) (e := 23) (b := 24) (z := .slice none 0 0) (sz := 1) (next := ?_))
        intro wv hwv
        refine kp_S ?_ (fun _ h => (h.last rfl).sel [3, 4] rfl (by decide))
        refine kG_ ?_
        refine kg_z (h := fx_store_box (i := 2) (hi := rfl) (next := ?_))
        exact po_cut (bc, rv, wv) ⟨hrv, hwv⟩ ⟨rfl, rfl, rfl, trivial⟩ (fun _ h => (h.last rfl).sel [2, 0, 1, 3, 4] rfl (by decide))
      · refine ks_f [999] _ (hSS := fun _ h => h) (h := fx_make (enc := encV) (dec := decV) (e := 23) (b := 24) (z := .slice none 0 0) (sz := 1) (next := ?_))
        intro wv hwv
        refine kp_S ?_ (fun _ h => (h.last rfl).sel [2, 3] rfl (by decide))
        refine kg_br1 3 (h1 := ?_)
        refine ks_f [8, 10] _ (hSS := fun _ h => h) (h := fx_make (enc := encV) (dec := decV) (e := 23) (b := 24) (z := .slice none 0 0) (sz := 1) (next := ?_))
        intro rv hrv
        refine kp_S ?_ (fun _ h => (h.last rfl).sel [3, 4] rfl (by decide))
        refine kG_ ?_
        refine kg_z (h := fx_store_box (i := 2) (hi := rfl) (next := ?_))
        exact po_cut (bc, rv, wv) ⟨hrv, hwv⟩ ⟨rfl, rfl, rfl, trivial⟩ (fun _ h => (h.last rfl).sel [2, 1, 0, 3, 4] rfl (by decide))
  · rintro ⟨bc, rv, wv⟩ ⟨hrv, hwv⟩
    dsimp only at hrv hwv ⊢
    refine kp_nils 3 t.locs.length ?_
    rw [← wsTo_zero]
    simp only [List.cons_append, List.nil_append]
    refine gO_ ?_
    refine wc_loop (fun s : Nat × List Value => s.1 ≤ t.evs.length ∧ s.2.length = t.locs.length ∧ ∀ v, v ∈ s.2 → SV v) (fun s => [(20, true, .int .i64 s.1), (19, true, .int .i64 t.evs.length), (18, true, ev), (3, true, .pointer (some ⟨bc, 0, none⟩)), (2, true, .pointer (some ⟨br, 0, none⟩)), (1, true, .pointer (some ⟨bt, 0, none⟩))])
      (fun s => Mem [(w, All)] (.box bc [rv, wv] 63 :: .own wv 23 1 encV s.2 :: .own rv 23 1 encV (List.replicate t.evs.length (.slice none 0 0)) :: .box br [.slice none 0 0, .slice none 0 0] 63 :: .box bt [lv, iv, ev, bv, av, dv, cv, tv, nv] 30 :: inner 3 s.2 (wsTo t s.1))) (fun s => t.evs.length - s.1) (0, List.replicate t.locs.length (.slice none 0 0)) ⟨Nat.zero_le _, List.length_replicate, fun v hv => ?_⟩ ⟨rfl, rfl, rfl, rfl, rfl, rfl, trivial⟩ (fun _ h => h.last rfl) ?_
    · rw [List.eq_of_mem_replicate hv]; exact ⟨_, _, _, rfl⟩
    rintro ⟨i, vs⟩ ⟨hi, hvl, hvs⟩
    dsimp only at hi hvl hvs ⊢
    refine gO_ ?_
    refine wc_cond rfl (fun h1 => ?_) (fun h1 => ?_)
    · have h1' : i < t.evs.length := by rw [dc_true] at h1; omega
      have hloc := trOk_loc hok h1'
      refine gO_ ?_
      refine wl_fx (fx_alloc (next := ?_)); intro bx
      refine gO_ ?_
      refine wl_fx (fx_store_box (i := 0) (hi := rfl) (next := ?_))
      refine gO_ ?_
      refine wc_cond rfl (fun h2 => ?_) (fun h2 => ?_)
      · rw [dc_true] at h2
        obtain ⟨l, hl⟩ : ∃ l : Nat, (t.evs.getD i default).loc = (l : Int) := ⟨(t.evs.getD i default).loc.toNat, by omega⟩
        have hlt : (t.evs.getD i default).loc.toNat = l := by omega
        have hll : l < vs.length := by omega
        have hsum := wsTo_sum t i l
        refine wc_drawS (Mem [(w, All)] [.box bx (encEv (t.evs.getD i default)) 45, .box bc [rv, wv] 63, .own wv 23 1 encV vs, .box bt [lv, iv, ev, bv, av, dv, cv, tv, nv] 30]) [0, 1, 2, 3, 4, 5, 6, 7, 8, 9, 10, 11, 12, 13, 14] mixed (fun _ h => h.sel [0, 1, 2, 5] rfl (by decide)) ?_
        refine kG_ ?_
        refine kg_f _ (h := fx_lit (enc := encI) (dec := decI) (e := 3) (sz := 1) (len := 1) (qs := [(0, [.int .i64 i])]) (next := ?_)) (hSS := fun _ h => h)
        intro v5 hv5
        refine kp_S ?_ (fun _ h => h.sel [1, 2, 3, 6] rfl (by decide))
        refine kG_ ?_
        rw [hlt]
        refine kg_f _ (h := fx_append_own (k := l + 7) (hk := inner_get 3 (vs := vs) (xss := wsTo t i) (by rw [hvl, wsTo_len]) hll) (hlen := by simp only [List.map, List.length_cons, List.length_nil]; omega) (next := ?_)) (hSS := fun _ h => h)
        intro v6 hv6
        refine kp_S ?_ (fun _ h => h.sel [1, 2, 3, 6] rfl (by decide))
        refine kG_ ?_
        refine kg_z (h := fx_store_own (k := 3) (hk := rfl) (next := ?_))
        refine gO_ ?_
        refine po_loop (i + 1, vs.set l v6) ⟨by dsimp only; omega, by simpa using hvl, fun v hv => ?_⟩ (by dsimp only; omega) ⟨rfl, rfl, rfl, rfl, rfl, rfl, trivial⟩ (fun w' h => ?_)
        · rcases List.mem_or_eq_of_mem_set hv with hv | rfl
          · exact hvs v hv
          · exact hv6
        · have h' := h.tail.tail
          rw [hlt] at h'
          have e1 := inner_set 3 vs (wsTo t i) l v6 ((wsTo t i).getD l default ++ [(i : Int)])
          rw [wsTo_put t h2 (by omega) hl] at e1
          dsimp only
          rw [← e1]
          exact h'
      · rw [dc_false] at h2
        refine gO_ ?_
        exact po_loop (i + 1, vs) ⟨h1', hvl, hvs⟩ (by dsimp only; omega) ⟨rfl, rfl, rfl, rfl, rfl, rfl, trivial⟩ (fun _ h => by rw [wsTo_same t h2]; exact h.tail)
    · have hin : i = t.evs.length := by rw [dc_false] at h1; omega
      subst hin
      refine gO_ ?_
      refine kp_nils 3 t.evs.length ?_
      rw [← rdTo_zero]
      simp only [List.cons_append, List.nil_append]
      refine wc_loop (fun s : Nat × List Value => s.1 ≤ t.evs.length ∧ s.2.length = t.evs.length ∧ ∀ v, v ∈ s.2 → SV v) (fun s => [(46, true, .int .i64 s.1), (45, true, .int .i64 t.evs.length), (44, true, ev), (3, true, .pointer (some ⟨bc, 0, none⟩)), (2, true, .pointer (some ⟨br, 0, none⟩))])
        (fun s => Mem [(w, All)] (.box bc [rv, wv] 63 :: .own wv 23 1 encV vs :: .own rv 23 1 encV s.2 :: .box br [.slice none 0 0, .slice none 0 0] 63 :: .box bt [lv, iv, ev, bv, av, dv, cv, tv, nv] 30 :: (inner 3 vs (wrs t) ++ inner 3 s.2 (rdTo t s.1)))) (fun s => t.evs.length - s.1) (0, List.replicate t.evs.length (.slice none 0 0)) ⟨Nat.zero_le _, List.length_replicate, fun v hv => ?_⟩ ⟨rfl, rfl, rfl, rfl, rfl, trivial⟩ (fun _ h => h.last rfl) ?_
      · rw [List.eq_of_mem_replicate hv]; exact ⟨_, _, _, rfl⟩
      rintro ⟨i, rs⟩ ⟨hi, hrl, hrs⟩
      dsimp only at hi hrl hrs ⊢
      have hvw : vs.length = (wrs t).length := by simp [wrs, hvl]
      have hil : (inner 3 vs (wrs t)).length = vs.length := inner_len _ hvw
      refine gO_ ?_
      refine wc_cond rfl (fun h1 => ?_) (fun h1 => ?_)
      · have h1' : i < t.evs.length := by rw [dc_true] at h1; omega
        have hloc := trOk_loc hok h1'
        obtain ⟨l, hl⟩ : ∃ l : Nat, (t.evs.getD i default).loc = (l : Int) := ⟨(t.evs.getD i default).loc.toNat, by omega⟩
        have hlt : (t.evs.getD i default).loc.toNat = l := by omega
        have hll : l < vs.length := by omega
        have hwl : (wrs t).getD l default = wr t (t.evs.getD i default).loc := by rw [hl, ← wsTo_all, wsTo_get t _ (by omega)]; rfl
        have hsum := wrTo_le t (t.evs.getD i default).loc t.evs.length
        have hrd : rs.length = (rdTo t i).length := by rw [hrl, rdTo_len]
        refine gO_ ?_
        refine wl_fx (fx_alloc (next := ?_)); intro bx
        refine gO_ ?_
        refine wl_fx (fx_store_box (i := 0) (hi := rfl) (next := ?_))
        refine gO_ ?_
        refine wl_fx (fx_lit (next := ?_))
        intro v4 hv4
        refine gO_ ?_
        refine wl_fx (fx_store_own (k := 4) (hk := rfl) (next := ?_))
        refine kp_mem (A' := Mem [(w, All)] (.box bx (encEv (t.evs.getD i default)) 45 :: .box bc [rv, wv] 63 :: .own wv 23 1 encV vs :: .own rv 23 1 encV (rs.set i v4) :: .box br [.slice none 0 0, .slice none 0 0] 63 :: .box bt [lv, iv, ev, bv, av, dv, cv, tv, nv] 30 :: (inner 3 vs (wrs t) ++ inner 3 (rs.set i v4) ((rdTo t i).set i [-1])))) (fun w' h => ?_) ?_
        · have h' := h.put (6 + ((inner 3 vs (wrs t)).length + i))
          rw [Nat.add_comm 6] at h'
          rw [← inner_set, ← set_right]
          exact h'
        have hrs' : ∀ v, v ∈ rs.set i v4 → SV v := fun v hv => by
          rcases List.mem_or_eq_of_mem_set hv with hv | rfl
          · exact hrs v hv
          · exact hv4
        refine gO_ ?_
        refine wc_cond rfl (fun h2 => ?_) (fun h2 => ?_)
        · rw [dc_true] at h2
          have hsl : (rs.set i v4).length = t.evs.length := by rw [List.length_set]; exact hrl
          refine wc_drawS (Mem [(w, All)] [.box bx (encEv (t.evs.getD i default)) 45, .box bc [rv, wv] 63, .own wv 23 1 encV vs, .own rv 23 1 encV (rs.set i v4), .box bt [lv, iv, ev, bv, av, dv, cv, tv, nv] 30]) [0, 1, 2, 3, 4, 5, 6, 7, 8, 9, 10, 11, 12, 13, 14, 15, 16] mixed (fun _ h => h.sel [0, 1, 2, 3, 5] rfl (by decide)) ?_
          refine kG_ ?_
          rw [hlt]
          have hrx : (rs.set i v4).length = ((rdTo t i).set i [-1]).length := by simpa using hrd
          have hix : i < (rs.set i v4).length := by rw [List.length_set]; omega
          have hgx : ((rdTo t i).set i [-1]).getD i default = [-1] := by
            rw [List.getD_eq_getElem?_getD, List.getElem?_set_self (by omega)]; rfl
          have hk := inner_get 3 hrx hix
          rw [← get_right (inner 3 vs (wrs t)), hgx, hil] at hk
          refine kg_f _ (h := fx_append_own (enc := encI) (dec := decI) (k := vs.length + i + 6) (hk := hk) (hm := List.mem_of_getElem? (i := l + 6) (show (inner 3 vs (wrs t) ++ inner 3 (rs.set i v4) ((rdTo t i).set i [-1]))[l]? = _ by rw [List.getElem?_append_left (by omega)]; exact inner_get _ hvw hll)) (hlen := by rw [hwl]; simp only [List.length_cons, List.length_nil, wr]; omega) (next := ?_)) (hSS := fun _ h => h)
          intro v5 hv5
          refine kp_S ?_ (fun _ h => h.sel [0, 1, 2, 3, 5] rfl (by decide))
          refine kG_ ?_
          refine kg_z (h := fx_store_own (k := 3) (hk := rfl) (next := ?_))
          refine gO_ ?_
          refine po_loop (i + 1, (rs.set i v4).set i v5) ⟨by dsimp only; omega, by simpa using hrl, fun v hv => ?_⟩ (by dsimp only; omega) ⟨rfl, rfl, rfl, rfl, rfl, trivial⟩ (fun w' h => ?_)
          · rcases List.mem_or_eq_of_mem_set hv with hv | rfl
            · exact hrs' v hv
            · exact hv5
          · have h' := h.tail
            have e1 := inner_set 3 (rs.set i v4) ((rdTo t i).set i [-1]) i v5 ([-1] ++ (wrs t).getD l default)
            rw [List.set_set (a := [-1]), rdTo_put t (show [-1] ++ (wrs t).getD l default = rdOf t i by unfold rdOf; rw [if_pos h2, hwl]; rfl)] at e1
            dsimp only
            rw [← e1, ← set_right, hil]
            exact h'
        · rw [dc_false] at h2
          refine gO_ ?_
          refine po_loop (i + 1, rs.set i v4) ⟨by dsimp only; omega, by simpa using hrl, hrs'⟩ (by dsimp only; omega) ⟨rfl, rfl, rfl, rfl, rfl, trivial⟩ (fun w' h => ?_)
          dsimp only
          rw [← rdTo_put t (show [-1] = rdOf t i by unfold rdOf; rw [if_neg h2])]
          exact h.tail
      · have hin : i = t.evs.length := by rw [dc_false] at h1; omega
        subst hin
        refine gO_ ?_
        refine wl_fx (fx_store_box (i := 3) (hi := rfl) (next := ?_))
        refine gO_ ?_
        refine pur_ret Try.results32 (.cellN inferInstance rfl (.tail _ (.tail _ (.tail _ (.head _)))) rfl .nil) (.head _) fun w' hw => ?_
        rw [rdTo_all] at hw
        exact ⟨rv, wv, rfl, hw.give2 3 23 (.tail _ (.tail _ (.head _))) (by simp [rds, hrl]) (fun e he => .tail _ (.tail _ (.tail _ (.tail _ (.tail _ (List.mem_append_right _ he)))))) (.head _),
          hw.give2 3 23 (.tail _ (.head _)) hvw (fun e he => .tail _ (.tail _ (.tail _ (.tail _ (.tail _ (List.mem_append_left _ he)))))) (.head _)⟩
end Go.Proofs.Ytdpcdbepeemflaa
end

section
/- The library's small functions on slices of integers: Index, Contains, Equal. -/
namespace Go.Tc
open Go Go.Eng
/-- where a number stands first; -1: nowhere -/
def ixI (l : List Int) (n : Int) : Int := if n ∈ l then (l.idxOf n : Int) else -1
theorem idxOf_at {n : Int} : ∀ {l : List Int} {i : Nat}, i < l.length → l.getD i default = n → (∀ j, j < i → l.getD j default ≠ n) → l.idxOf n = i
  | a :: l, 0, _, h1, _ => by
    have : a = n := h1
    subst this; simp
  | a :: l, i + 1, h0, h1, h2 => by
    have h3 : a ≠ n := h2 0 (by omega)
    have ih := idxOf_at (l := l) (i := i) (by simpa using h0) h1 (fun j hj => h2 (j + 1) (by omega))
    rw [List.idxOf_cons, ih, beq_false_of_ne h3]; rfl
theorem mem_getD {l : List Int} {n : Int} : n ∈ l ↔ ∃ i, i < l.length ∧ l.getD i default = n := by
  constructor
  · intro h
    obtain ⟨i, hi, he⟩ := List.getElem_of_mem h
    exact ⟨i, hi, by rw [List.getD_eq_getElem?_getD, List.getElem?_eq_getElem hi]; exact he⟩
  · rintro ⟨i, hi, he⟩
    rw [List.getD_eq_getElem?_getD, List.getElem?_eq_getElem hi] at he
    exact he ▸ List.getElem_mem hi
theorem ixI_nonneg (l : List Int) (n : Int) : 0 ≤ ixI l n ↔ n ∈ l := by
  unfold ixI; split
  · rename_i h; exact ⟨fun _ => h, fun _ => by omega⟩
  · rename_i h; exact ⟨fun h' => by omega, fun h' => absurd h' h⟩
theorem list_ext_getD {l m : List Int} (hl : l.length = m.length) (h : ∀ i, i < l.length → l.getD i default = m.getD i default) : l = m := by
  apply List.ext_getElem hl
  intro i h1 h2
  have := h i h1
  rwa [List.getD_eq_getElem?_getD, List.getD_eq_getElem?_getD, List.getElem?_eq_getElem h1, List.getElem?_eq_getElem h2] at this
end Go.Tc
namespace Go.Proofs.Ytdpcdbepeemflaa
open Go Go.Eng Go.Tc
attribute [local irreducible] wpList Code.wp bodyPost Exit.then Exit.inBlock Calls

set_option maxHeartbeats 800000 in
theorem sindex_spec (s : Value) (v : Int) (w : World) (l : List Int) (hs : Sl All w encI 1 s l) :
    Pur Try.prog 39 [s, .int .i64 v] w fun _ r _ => r = .int .i64 (ixI l v) := by
  have hll := hs.le
  refine enter_pur Try.func39 Try.ntmps39 rfl rfl ?_
  refine gO_ ?_
  refine wc_loop (fun i : Nat => i ≤ l.length ∧ ∀ j, j < i → l.getD j default ≠ v) (fun i => [(8, true, .int .i64 i), (7, true, .int .i64 l.length), (1, true, .int .i64 v), (0, true, s)])
    (fun s => Mem [(w, All)] []) (fun s => l.length - s) (0) ⟨by omega, fun j hj => by omega⟩ ⟨rfl, rfl, rfl, rfl, trivial⟩ (fun _ h => h.last rfl) ?_
  rintro i ⟨hi, hall⟩
  refine gO_ ?_
  refine wc_cond rfl (fun h1 => ?_) (fun h1 => ?_)
  · have h1' : i < l.length := by rw [dc_true] at h1; omega
    refine gO_ ?_
    refine wc_cond rfl (fun h2 => ?_) (fun h2 => ?_)
    · rw [dc_true] at h2
      refine gO_ ?_
      refine pur_ret Try.results39 (.tmp rfl .nil) (.head _) fun w' hw => ?_
      have : ixI l v = (i : Int) := by
        unfold ixI
        rw [if_pos (mem_getD.2 ⟨i, h1', h2.symm⟩), idxOf_at h1' h2.symm hall]
      rw [this]; rfl
    · rw [dc_false] at h2
      refine gO_ ?_
      refine po_loop ((i + 1)) ⟨by omega, fun j hj => ?_⟩ (by omega) ⟨rfl, rfl, rfl, rfl, trivial⟩ (fun _ h => h.last rfl)
      by_cases hji : j < i
      · exact hall j hji
      · obtain rfl : j = i := by omega
        exact fun e => h2 e.symm
  · rw [dc_false] at h1
    refine gO_ ?_
    refine pur_ret Try.results39 (.tmp rfl .nil) (.head _) fun w' hw => ?_
    have : ixI l v = -1 := by
      unfold ixI
      rw [if_neg (fun hm => by obtain ⟨j, hj, he⟩ := mem_getD.1 hm; exact hall j (by omega) he)]
    rw [this]; rfl

set_option maxHeartbeats 800000 in
theorem scontains_spec (s : Value) (v : Int) (w : World) (l : List Int) (hs : Sl All w encI 1 s l) :
    Pur Try.prog 52 [s, .int .i64 v] w fun _ r _ => r = .bool (decide (v ∈ l)) := by
  refine enter_pur Try.func52 Try.ntmps52 rfl rfl ?_
  refine gO_ ?_
  refine wl_fx (fx_call (spec := fun w' hw => sindex_spec s v w' l (hw.now hs (.head _))) (next := ?_))
  rintro v1 n1 w1 rfl hn1
  refine gO_ ?_
  refine pur_ret Try.results52 (.tmp rfl .nil) (.tail _ (.head _)) fun w' hw => ?_
  rw [show decide (v ∈ l) = dc (0 ≤ ixI l v) by rw [dc_eq]; exact decide_eq_decide.2 (ixI_nonneg l v).symm]; rfl

set_option maxHeartbeats 800000 in
theorem sequal_spec (s1 s2 : Value) (w : World) (l1 l2 : List Int) (hs1 : Sl All w encI 1 s1 l1) (hs2 : Sl All w encI 1 s2 l2) :
    Pur Try.prog 53 [s1, s2] w fun _ r _ => r = .bool (decide (l1 = l2)) := by
  have hl1 := hs1.le
  have hl2 := hs2.le
  refine enter_pur Try.func53 Try.ntmps53 rfl rfl ?_
  refine gO_ ?_
  refine wc_cond rfl (fun h1 => ?_) (fun h1 => ?_)
  · rw [Bool.not_eq_true', dc_false] at h1
    refine gO_ ?_
    refine pur_ret Try.results53 (.tmp rfl .nil) (.head _) fun w' hw => ?_
    rw [decide_eq_false (fun h => h1 (by rw [h]))]; rfl
  · rw [Bool.not_eq_false', dc_true] at h1
    have h1' : l1.length = l2.length := by omega
    refine gO_ ?_
    refine wc_loop (fun i : Nat => i ≤ l1.length ∧ ∀ j, j < i → l1.getD j default = l2.getD j default) (fun i => [(13, true, .int .i64 i), (12, true, .int .i64 l1.length), (1, true, s2), (0, true, s1)])
      (fun s => Mem [(w, All)] []) (fun s => l1.length - s) (0) ⟨by omega, fun j hj => by omega⟩ ⟨rfl, rfl, rfl, rfl, trivial⟩ (fun _ h => h.last rfl) ?_
    rintro i ⟨hi, hall⟩
    refine gO_ ?_
    refine wc_cond rfl (fun h2 => ?_) (fun h2 => ?_)
    · have h2' : i < l1.length := by rw [dc_true] at h2; omega
      have h2'' : i < l2.length := by omega
      refine gO_ ?_
      refine wc_draw [0, 1, 2, 3, 4, 5, 6, 7, 8] mixed ?_
      refine kG_ ?_
      refine gO_ ?_
      refine wc_cond rfl (fun h3 => ?_) (fun h3 => ?_)
      · rw [Bool.not_eq_true', dc_false] at h3
        refine gO_ ?_
        refine pur_ret Try.results53 (.tmp rfl .nil) (.head _) fun w' hw => ?_
        rw [decide_eq_false (fun h => h3 (by rw [h]))]; rfl
      · rw [Bool.not_eq_false', dc_true] at h3
        refine gO_ ?_
        refine po_loop ((i + 1)) ⟨by omega, fun j hj => ?_⟩ (by omega) ⟨rfl, rfl, rfl, rfl, trivial⟩ (fun _ h => h.last rfl)
        by_cases hji : j < i
        · exact hall j hji
        · obtain rfl : j = i := by omega
          exact h3
    · rw [dc_false] at h2
      refine gO_ ?_
      refine pur_ret Try.results53 (.tmp rfl .nil) (.head _) fun w' hw => ?_
      rw [decide_eq_true (list_ext_getD h1' (fun j hj => hall j (by omega)))]; rfl
end Go.Proofs.Ytdpcdbepeemflaa
end
