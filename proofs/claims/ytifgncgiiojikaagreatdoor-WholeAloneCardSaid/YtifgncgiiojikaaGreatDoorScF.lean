/- The walk: seqc.Cand of an order that keeps the program order. -/
import Derived.Test.YtifgncgiiojikaaGreatDoorScE
set_option linter.unusedSimpArgs false
set_option linter.unusedVariables false
namespace Go.Proofs.YtifgncgiiojikaaGreatDoor
open Go Go.Eng Go.Tc Go.Rl Go.Vw
attribute [local irreducible] wpList Code.wp bodyPost Exit.then Exit.inBlock Calls
def rfK (t : Tr) (o : List Nat) (k : Nat) : List Int := (List.range t.evs.length).map fun x => if posN o x < k then rfO t o x else 0
def coK (t : Tr) (o : List Nat) (k : Nat) : List (List Int) := (List.range t.locs.length).map fun (q : Nat) => colO t (o.take k) q
theorem rfK_len (t : Tr) (o : List Nat) (k : Nat) : (rfK t o k).length = t.evs.length := by unfold rfK; rw [List.length_map, List.length_range]
theorem coK_len (t : Tr) (o : List Nat) (k : Nat) : (coK t o k).length = t.locs.length := by unfold coK; rw [List.length_map, List.length_range]
theorem coK_get (t : Tr) (o : List Nat) (k : Nat) {p : Nat} (hp : p < t.locs.length) : (coK t o k).getD p default = colO t (o.take k) p := by
  unfold coK; rw [List.getD_eq_getElem?_getD, List.getElem?_map, List.getElem?_range hp]; rfl
theorem rfK_zero (t : Tr) (o : List Nat) : List.replicate t.evs.length (0 : Int) = rfK t o 0 := by
  apply List.ext_getElem (by simp [rfK])
  intro i h1 h2
  simp [rfK]
theorem coK_zero (t : Tr) (o : List Nat) : List.replicate t.locs.length ([] : List Int) = coK t o 0 := by
  apply List.ext_getElem (by simp [coK])
  intro i h1 h2
  simp [coK, colO, ints]
theorem rfK_all {t : Tr} {o : List Nat} (h : IsOrd t.evs.length o) : rfK t o t.evs.length = (candO t o).rf := by
  unfold rfK candO
  refine List.map_congr_left fun x hx => ?_
  rw [List.mem_range] at hx
  rw [if_pos (h.pos hx)]
theorem coK_all {t : Tr} {o : List Nat} (h : IsOrd t.evs.length o) : coK t o t.evs.length = (candO t o).co := by
  unfold coK candO
  rw [List.take_of_length_le (by rw [h.len]; exact Nat.le_refl _)]
theorem rfK_set {t : Tr} {o : List Nat} (h : IsOrd t.evs.length o) {k : Nat} (hk : k < t.evs.length) {v : Int} (hv : rfO t o (o.getD k default) = v) : (rfK t o k).set (o.getD k default) v = rfK t o (k + 1) := by
  obtain ⟨h1, _, h3⟩ := h.at hk
  subst hv
  apply List.ext_getElem (by rw [List.length_set, rfK_len, rfK_len])
  intro i g1 g2
  rw [rfK_len] at g2
  rw [List.getElem_set]
  simp only [rfK, List.getElem_map, List.getElem_range]
  by_cases e : o.getD k default = i
  · subst e; rw [if_pos rfl, h3, if_pos (Nat.lt_succ_self k)]
  · rw [if_neg e]
    have := h.pos_ne hk g2 e
    by_cases q : posN o i < k
    · rw [if_pos q, if_pos (by omega)]
    · rw [if_neg q, if_neg (by omega)]
theorem colO_succ (t : Tr) {o : List Nat} {k : Nat} (hk : k < o.length) (q : Int) : colO t (o.take (k + 1)) q = colO t (o.take k) q ++ if wrAt t q (o.getD k default) = true then [((o.getD k default : Nat) : Int)] else [] := by
  unfold colO ints
  rw [take_one hk, List.filter_append, List.map_append]
  refine congrArg (_ ++ ·) ?_
  by_cases hw : wrAt t q (o.getD k default) = true
  · rw [if_pos hw, List.filter_cons_of_pos hw]; rfl
  · rw [if_neg hw, List.filter_cons_of_neg hw]; rfl
theorem coK_put {t : Tr} {o : List Nat} {k p : Nat} (hk : k < o.length) (hd : (evi t (o.getD k default)).dir = 2) (hp : (evi t (o.getD k default)).loc = p) (hpl : p < t.locs.length) : (coK t o k).set p ((coK t o k).getD p default ++ [((o.getD k default : Nat) : Int)]) = coK t o (k + 1) := by
  rw [coK_get t o k hpl]
  apply List.ext_getElem (by rw [List.length_set, coK_len, coK_len])
  intro i g1 g2
  rw [List.getElem_set]
  simp only [coK, List.getElem_map, List.getElem_range]
  rw [colO_succ t hk]
  unfold wrAt
  by_cases e : p = i
  · subst e
    rw [if_pos rfl, if_pos (by
      rw [Bool.and_eq_true, decide_eq_true_eq, decide_eq_true_eq]
      exact ⟨hd, hp⟩)]
  · rw [if_neg e, if_neg (by
      rw [Bool.and_eq_true, decide_eq_true_eq, decide_eq_true_eq]
      rintro ⟨_, q⟩
      have : (evi t (o.getD k default)).loc = (i : Int) := q
      omega), List.append_nil]
theorem coK_same {t : Tr} {o : List Nat} {k : Nat} (hk : k < o.length) (hd : ¬ (evi t (o.getD k default)).dir = 2) : coK t o k = coK t o (k + 1) := by
  unfold coK
  refine List.map_congr_left fun q _ => ?_
  rw [colO_succ t hk]
  unfold wrAt
  rw [if_neg (by
    rw [Bool.and_eq_true, decide_eq_true_eq, decide_eq_true_eq]
    rintro ⟨q, _⟩
    exact hd q), List.append_nil]
theorem rfO_write {t : Tr} {o : List Nat} {x : Nat} (hd : (evi t x).dir = 2) : rfO t o x = -1 := by unfold rfO; rw [if_pos hd]
theorem rfO_read {t : Tr} {o : List Nat} {x k p : Nat} (hd : ¬ (evi t x).dir = 2) (hx : posN o x = k) (hp : (evi t x).loc = p) : rfO t o x = endI (colO t (o.take k) p) := by unfold rfO; rw [if_neg hd, hx, hp]

set_option maxHeartbeats 1600000 in
theorem scand_no {lv iv ev bv av dv cv tv nv : Value} {t : Tr} (ov : Value) (w : World) (h : TrIn All w lv iv ev bv av dv cv tv nv t) (ho : SV ov) (ht : trOk t = false) :
    Pur Tryz.prog 6 [.agg #[lv, iv, ev, bv, av, dv, cv, tv, nv], ov] w fun _ v _ => v = .tuple #[.agg #[.slice none 0 0, .slice none 0 0], .int .i64 1] := by
  refine enter_pur Tryz.func6 Tryz.ntmps6 rfl rfl ?_
  refine gO_ ?_
  refine wl_fx (fx_box (next := ?_)); intro bT
  refine gO_ ?_
  refine wl_fx (fx_alloc (next := ?_)); intro b4
  refine gO_ ?_
  refine wl_fx (fx_call (spec := fun w' hw => tcheck_spec w' (h.now hw (.head _))) (next := ?_))
  rintro v n1 w1 rfl hn1
  refine gO_ ?_
  have hE1 : trE t = 1 := by unfold trE; rw [ht]; rfl
  rw [hE1]
  refine wc_cond rfl (fun h1 => ?_) (fun h1 => ?_)
  · refine gO_ ?_
    refine wl_fx (fx_store_box (i := 0) (hi := rfl) (next := ?_))
    refine gO_ ?_
    refine pur_ret Tryz.results6 (.cellN inferInstance rfl (.head _) rfl (.tmp rfl .nil)) (.tail _ (.head _)) fun w' hw => ?_
    rfl
  · rw [Bool.not_eq_false', dc_true] at h1
    omega

set_option maxRecDepth 8000 in
set_option maxHeartbeats 12800000 in
theorem scand_ok {lv iv ev bv av dv cv tv nv : Value} {t : Tr} (ov : Value) (o : List Nat) (w : World) (h : TrIn All w lv iv ev bv av dv cv tv nv t) (ho : Sl All w Eng.encI 1 ov (ints o)) (ht : trOk t = true) (hO : IsOrd t.evs.length o)
    (hk : ∀ a b, a < t.evs.length → b < t.evs.length → poP t a b = true → posN o a < posN o b) :
    Pur Tryz.prog 6 [.agg #[lv, iv, ev, bv, av, dv, cv, tv, nv], ov] w fun m v w' => ∃ rv qv, v = .tuple #[.agg #[rv, qv], .int .i64 0] ∧ CdIn (Fr m) w' rv qv (candO t o) := by
  have hE := h.evs; have hEl := hE.le
  have hL := h.locs; have hLl := hL.le
  obtain ⟨hb, hlb⟩ := trOk_lens ht
  have hos := ho.sv
  have hol := ints_len o
  have hlen := hO.len
  refine enter_pur Tryz.func6 Tryz.ntmps6 rfl rfl ?_
  refine gO_ ?_
  refine wl_fx (fx_box (next := ?_)); intro bT
  refine gO_ ?_
  refine wl_fx (fx_alloc (next := ?_)); intro b4
  refine gO_ ?_
  refine wl_fx (fx_call (spec := fun w' hw => tcheck_spec w' (h.now hw (.head _))) (next := ?_))
  rintro v n1 w1 rfl hn1
  have hE1 : trE t = 0 := by unfold trE; rw [ht]; rfl
  rw [hE1]
  refine gO_ ?_
  refine wc_cond rfl (fun h1 => ?_) (fun h1 => ?_)
  · rw [Bool.not_eq_true', dc_false] at h1
    exact absurd rfl h1
  clear h1
  refine gO_ ?_
  refine wl_fx (fx_call_mk (spec := fun w' hw => places_ok ov t.evs.length o w' (hw.now ho (.tail _ (.head _))) hO hb) (next := ?_))
  rintro v n2 es w2 ⟨pv, hpv, rfl, rfl⟩
  refine gO_ ?_
  refine wc_cond rfl (fun h2 => ?_) (fun h2 => ?_)
  · cases h2
  clear h2
  have hpl := plO_len t.evs.length o t.evs.length
  refine gO_ ?_
  refine wc_loop (fun i : Nat => 1 ≤ i) (fun s => [(9, true, .int .i64 s), (7, true, pv), (4, true, .pointer (some ⟨b4, 0, none⟩)), (2, true, .pointer (some ⟨bT, 0, none⟩)), (1, true, ov)])
    (fun _ => Mem [(w, All)] [ownI pv (plO t.evs.length o t.evs.length), .box b4 [.slice none 0 0, .slice none 0 0] 33, .box bT [lv, iv, ev, bv, av, dv, cv, tv, nv] 30]) (fun s => t.evs.length - s) 1 (Nat.le_refl _) ⟨rfl, rfl, rfl, rfl, rfl, trivial⟩ (fun _ h => h.last rfl) ?_
  intro i hi
  refine gO_ ?_
  refine wc_cond rfl (fun h3 => ?_) (fun h3 => ?_)
  · have h3' : i < t.evs.length := by rw [dc_true] at h3; omega
    obtain ⟨q, rfl⟩ : ∃ q, i = q + 1 := ⟨i - 1, by omega⟩
    have hq : ((q + 1 : Nat) : Int) - 1 = (q : Int) := by omega
    have hql : q < t.evs.length := by omega
    have hqp : q < (plO t.evs.length o t.evs.length).length := by omega
    have hip : q + 1 < (plO t.evs.length o t.evs.length).length := by omega
    have g1 : (plO t.evs.length o t.evs.length).getD (q + 1) default = (posN o (q + 1) : Int) := by rw [plO_get _ _ _ h3', if_pos (hO.pos h3')]
    have g2 : (plO t.evs.length o t.evs.length).getD q default = (posN o q : Int) := by rw [plO_get _ _ _ hql, if_pos (hO.pos hql)]
    refine gO_ ?_
    refine wc_draw [0, 1, 2, 3, 4, 5, 6, 7, 8, 9, 10, 11, 12, 13, 14, 15, 16, 17, 18, 19, 20, 21, 22, 23, 24, 25] mixed ?_
    refine kG_ ?_
    rw [hq, Int.toNat_natCast, g1, g2]
    refine gO_ ?_
    refine wc_cond rfl (fun h4 => ?_) (fun h4 => ?_)
    · exfalso
      simp only [dc_eq, Bool.and_eq_true, decide_eq_true_eq] at h4
      have := hk q (q + 1) hql h3' (by
        rw [po_lt ht hql h3']
        simp only [Vw.thB, Bool.and_eq_true, decide_eq_true_eq]
        exact ⟨Nat.lt_succ_self q, h4.1.symm⟩)
      omega
    · refine gO_ ?_
      exact po_loop (q + 1 + 1) (by omega) (by omega) ⟨rfl, rfl, rfl, rfl, rfl, trivial⟩ (fun _ h => h)
  · refine gO_ ?_
    refine kp_mem (A' := Mem [(w, All)] [.box b4 [.slice none 0 0, .slice none 0 0] 33, .box bT [lv, iv, ev, bv, av, dv, cv, tv, nv] 30]) (fun _ h => h.tail) ?_
    refine wc_cutA (fun s : Nat × Value × Value => SV s.2.1 ∧ SV s.2.2) (fun s => [(10, true, .pointer (some ⟨s.1, 0, none⟩)), (4, true, .pointer (some ⟨b4, 0, none⟩)), (2, true, .pointer (some ⟨bT, 0, none⟩)), (1, true, ov)])
      (fun s => Mem [(w, All)] [.box s.1 [s.2.1, s.2.2] 33, .own s.2.2 23 1 encV (List.replicate t.locs.length (.slice none 0 0)), .own s.2.1 3 1 Eng.encI (List.replicate t.evs.length 0), .box b4 [.slice none 0 0, .slice none 0 0] 33, .box bT [lv, iv, ev, bv, av, dv, cv, tv, nv] 30]) ?_ ?_
    · skip
      refine wc_drawS (Mem [(w, All)] [.box b4 [.slice none 0 0, .slice none 0 0] 33, .box bT [lv, iv, ev, bv, av, dv, cv, tv, nv] 30]) [0, 1, 3, 4, 5, 999] mixed (fun _ h => h.last rfl) ?_
      refine kG_ ?_
      rw [hol, hlen]
      refine kg_br3 2 6 8 (h1 := ?_) (h2 := ?_) (h3 := ?_)
      · refine ks_f [999] _ (hSS := fun _ h => h) (h := fx_make (enc := Eng.encI) (dec := Eng.decI) (e := 3) (b := 8) (z := .int .i64 0) (sz := 1) (next := ?_))
        intro rv hrv
        refine kp_S ?_ (fun _ h => (h.last rfl).sel [1, 2] rfl (by decide))
        refine kg_br2 6 8 (h1 := ?_) (h2 := ?_)
        · refine ks_f [7, 999] _ (hSS := fun _ h => h) (h := fx_make (enc := encV) (dec := decV) (e := 23) (b := 24) (z := .slice none 0 0) (sz := 1) (next := ?_))
          intro qv hqv
          refine kp_S ?_ (fun _ h => (h.last rfl).sel [2, 3] rfl (by decide))
          refine kG_ ?_
          refine kg_br1 8 (h1 := ?_)
          refine ks_f [9] _ (hSS := fun _ h => h) (h := fx_alloc (next := ?_))
          intro bo
          refine kp_S ?_ (fun _ h => (h.last rfl).sel [3, 4] rfl (by decide))
          refine kg_z (h := fx_store_box (i := 0) (hi := rfl) (next := ?_))
          exact po_cut (bo, rv, qv) ⟨hrv, hqv⟩ ⟨rfl, rfl, rfl, rfl, trivial⟩ (fun _ h => (h.last rfl).sel [0, 1, 2, 3, 4] rfl (by decide))
        · refine ks_f [999] _ (hSS := fun _ h => h) (h := fx_alloc (next := ?_))
          intro bo
          refine kp_S ?_ (fun _ h => (h.last rfl).sel [2, 3] rfl (by decide))
          refine kg_br1 6 (h1 := ?_)
          refine ks_f [7, 9] _ (hSS := fun _ h => h) (h := fx_make (enc := encV) (dec := decV) (e := 23) (b := 24) (z := .slice none 0 0) (sz := 1) (next := ?_))
          intro qv hqv
          refine kp_S ?_ (fun _ h => (h.last rfl).sel [3, 4] rfl (by decide))
          refine kG_ ?_
          refine kg_z (h := fx_store_box (i := 1) (hi := rfl) (next := ?_))
          exact po_cut (bo, rv, qv) ⟨hrv, hqv⟩ ⟨rfl, rfl, rfl, rfl, trivial⟩ (fun _ h => (h.last rfl).sel [1, 0, 2, 3, 4] rfl (by decide))
      · refine ks_f [999] _ (hSS := fun _ h => h) (h := fx_make (enc := encV) (dec := decV) (e := 23) (b := 24) (z := .slice none 0 0) (sz := 1) (next := ?_))
        intro qv hqv
        refine kp_S ?_ (fun _ h => (h.last rfl).sel [1, 2] rfl (by decide))
        refine kg_br2 2 8 (h1 := ?_) (h2 := ?_)
        · refine ks_f [7, 999] _ (hSS := fun _ h => h) (h := fx_make (enc := Eng.encI) (dec := Eng.decI) (e := 3) (b := 8) (z := .int .i64 0) (sz := 1) (next := ?_))
          intro rv hrv
          refine kp_S ?_ (fun _ h => (h.last rfl).sel [2, 3] rfl (by decide))
          refine kG_ ?_
          refine kg_br1 8 (h1 := ?_)
          refine ks_f [9] _ (hSS := fun _ h => h) (h := fx_alloc (next := ?_))
          intro bo
          refine kp_S ?_ (fun _ h => (h.last rfl).sel [3, 4] rfl (by decide))
          refine kg_z (h := fx_store_box (i := 0) (hi := rfl) (next := ?_))
          exact po_cut (bo, rv, qv) ⟨hrv, hqv⟩ ⟨rfl, rfl, rfl, rfl, trivial⟩ (fun _ h => (h.last rfl).sel [0, 2, 1, 3, 4] rfl (by decide))
        · refine ks_f [999] _ (hSS := fun _ h => h) (h := fx_alloc (next := ?_))
          intro bo
          refine kp_S ?_ (fun _ h => (h.last rfl).sel [2, 3] rfl (by decide))
          refine kg_br1 2 (h1 := ?_)
          refine ks_f [7, 9] _ (hSS := fun _ h => h) (h := fx_make (enc := Eng.encI) (dec := Eng.decI) (e := 3) (b := 8) (z := .int .i64 0) (sz := 1) (next := ?_))
          intro rv hrv
          refine kp_S ?_ (fun _ h => (h.last rfl).sel [3, 4] rfl (by decide))
          refine kG_ ?_
          refine kg_z (h := fx_store_box (i := 1) (hi := rfl) (next := ?_))
          exact po_cut (bo, rv, qv) ⟨hrv, hqv⟩ ⟨rfl, rfl, rfl, rfl, trivial⟩ (fun _ h => (h.last rfl).sel [1, 2, 0, 3, 4] rfl (by decide))
      · refine ks_f [999] _ (hSS := fun _ h => h) (h := fx_alloc (next := ?_))
        intro bo
        refine kp_S ?_ (fun _ h => (h.last rfl).sel [1, 2] rfl (by decide))
        refine kg_br2 2 6 (h1 := ?_) (h2 := ?_)
        · refine ks_f [999] _ (hSS := fun _ h => h) (h := fx_make (enc := Eng.encI) (dec := Eng.decI) (e := 3) (b := 8) (z := .int .i64 0) (sz := 1) (next := ?_))
          intro rv hrv
          refine kp_S ?_ (fun _ h => (h.last rfl).sel [2, 3] rfl (by decide))
          refine kg_br1 6 (h1 := ?_)
          refine ks_f [7, 9] _ (hSS := fun _ h => h) (h := fx_make (enc := encV) (dec := decV) (e := 23) (b := 24) (z := .slice none 0 0) (sz := 1) (next := ?_))
          intro qv hqv
          refine kp_S ?_ (fun _ h => (h.last rfl).sel [3, 4] rfl (by decide))
          refine kG_ ?_
          refine kg_z (h := fx_store_box (i := 2) (hi := rfl) (next := ?_))
          exact po_cut (bo, rv, qv) ⟨hrv, hqv⟩ ⟨rfl, rfl, rfl, rfl, trivial⟩ (fun _ h => (h.last rfl).sel [2, 0, 1, 3, 4] rfl (by decide))
        · refine ks_f [999] _ (hSS := fun _ h => h) (h := fx_make (enc := encV) (dec := decV) (e := 23) (b := 24) (z := .slice none 0 0) (sz := 1) (next := ?_))
          intro qv hqv
          refine kp_S ?_ (fun _ h => (h.last rfl).sel [2, 3] rfl (by decide))
          refine kg_br1 2 (h1 := ?_)
          refine ks_f [7, 9] _ (hSS := fun _ h => h) (h := fx_make (enc := Eng.encI) (dec := Eng.decI) (e := 3) (b := 8) (z := .int .i64 0) (sz := 1) (next := ?_))
          intro rv hrv
          refine kp_S ?_ (fun _ h => (h.last rfl).sel [3, 4] rfl (by decide))
          refine kG_ ?_
          refine kg_z (h := fx_store_box (i := 2) (hi := rfl) (next := ?_))
          exact po_cut (bo, rv, qv) ⟨hrv, hqv⟩ ⟨rfl, rfl, rfl, rfl, trivial⟩ (fun _ h => (h.last rfl).sel [2, 1, 0, 3, 4] rfl (by decide))
    rintro ⟨bo, rv, qv⟩ ⟨hrv, hqv⟩
    dsimp only at hrv hqv ⊢
    refine kp_nils 3 t.locs.length ?_
    rw [coK_zero t o, rfK_zero t o]
    simp only [List.cons_append, List.nil_append]
    refine gO_ ?_
    rw [hol, hlen]
    refine wc_loop (fun s : Nat × List Value => s.1 ≤ t.evs.length ∧ s.2.length = t.locs.length ∧ ∀ v, v ∈ s.2 → SV v) (fun s => [(76, true, .int .i64 s.1), (75, true, .int .i64 t.evs.length), (74, true, ov), (10, true, .pointer (some ⟨bo, 0, none⟩)), (4, true, .pointer (some ⟨b4, 0, none⟩)), (2, true, .pointer (some ⟨bT, 0, none⟩))])
      (fun s => Mem [(w, All)] (.box bo [rv, qv] 33 :: .own qv 23 1 encV s.2 :: .own rv 3 1 Eng.encI (rfK t o s.1) :: .box b4 [.slice none 0 0, .slice none 0 0] 33 :: .box bT [lv, iv, ev, bv, av, dv, cv, tv, nv] 30 :: inner 3 s.2 (coK t o s.1))) (fun s => t.evs.length - s.1) (0, List.replicate t.locs.length (.slice none 0 0)) ⟨Nat.zero_le _, by simp, fun v hv => ?_⟩ ⟨rfl, rfl, rfl, rfl, rfl, rfl, trivial⟩ (fun _ h => h.last rfl) ?_
    · rw [List.eq_of_mem_replicate hv]; exact ⟨_, _, _, rfl⟩
    rintro ⟨k, vs⟩ ⟨hkn, hvl, hvs⟩
    dsimp only at hkn hvl hvs ⊢
    have hcl := coK_len t o k
    have hrl := rfK_len t o k
    refine gO_ ?_
    refine wc_cond rfl (fun h5 => ?_) (fun h5 => ?_)
    · have h5' : k < t.evs.length := by rw [dc_true] at h5; omega
      obtain ⟨hx, hg, hpos⟩ := hO.at h5'
      have hk2 : k < (ints o).length := by omega
      have hko : k < o.length := by omega
      generalize hxx : o.getD k default = x at hx hg hpos
      obtain ⟨p, hp, hpl2⟩ := loc_nat ht hx
      have hp2 : (t.evs.getD x default).loc = (p : Int) := hp
      have hpv : p < vs.length := by omega
      have hxr : x < (rfK t o k).length := by omega
      have hvc : vs.length = (coK t o k).length := by omega
      have hcg := coK_get t o k hpl2
      have hcle : (colO t (o.take k) p).length ≤ 64 := by
        have h1 : (colO t (o.take k) p).length ≤ (o.take k).length := by
          unfold colO ints; rw [List.length_map]; exact List.length_filter_le _ _
        rw [List.length_take] at h1; omega
      refine gO_ ?_
      rw [hg, Int.toNat_natCast]
      refine gO_ ?_
      refine wl_fx (fx_alloc (next := ?_)); intro bx
      refine gO_ ?_
      refine wl_fx (fx_store_box (i := 0) (hi := rfl) (next := ?_))
      refine gO_ ?_
      rw [hp2, Int.toNat_natCast]
      refine gO_ ?_
      refine wl_fx (fx_store_own (k := 3) (hk := rfl) (next := ?_))
      refine gO_ ?_
      refine wc_cond rfl (fun h6 => ?_) (fun h6 => ?_)
      · rw [dc_true] at h6
        refine wc_drawS (Mem [(w, All)] [.box bx (encEv (t.evs.getD x default)) 36, .box bo [rv, qv] 33, .own qv 23 1 encV vs]) [0, 1, 2, 3, 4, 5, 6, 7, 8, 9] mixed (fun _ h => h.sel [0, 1, 2] rfl (by decide)) ?_
        refine kG_ ?_
        refine kg_f _ (h := fx_lit (enc := Eng.encI) (dec := Eng.decI) (e := 3) (sz := 1) (len := 1) (qs := [(0, [.int .i64 x])]) (next := ?_)) (hSS := fun _ h => h)
        intro v5 hv5
        refine kp_S ?_ (fun _ h => h.sel [1, 2, 3] rfl (by decide))
        refine kG_ ?_
        refine kg_f _ (h := fx_append_own (k := p + 7) (hk := inner_get 3 (vs := vs) (xss := coK t o k) hvc hpv) (hlen := by rw [hcg]; simp only [List.map, List.length_cons, List.length_nil]; omega) (next := ?_)) (hSS := fun _ h => h)
        intro v6 hv6
        refine kp_S ?_ (fun _ h => h.sel [1, 2, 3] rfl (by decide))
        refine kG_ ?_
        rw [hp2]
        refine kG_ ?_
        refine kg_z (h := fx_store_own (k := 3) (hk := rfl) (next := ?_))
        refine gO_ ?_
        refine po_loop (k + 1, vs.set p v6) ⟨by dsimp only; omega, by simpa using hvl, fun v hv => ?_⟩ (by dsimp only; omega) ⟨rfl, rfl, rfl, rfl, rfl, rfl, trivial⟩ (fun w' h => ?_)
        · rcases List.mem_or_eq_of_mem_set hv with hv | rfl
          · exact hvs v hv
          · exact hv6
        · have h' := h.tail.tail
          have e1 := inner_set 3 vs (coK t o k) p v6 ((coK t o k).getD p default ++ [(x : Int)])
          have e2 := coK_put (t := t) (o := o) (k := k) (p := p) hko (by rw [hxx]; exact h6) (by rw [hxx]; exact hp) hpl2
          rw [hxx] at e2
          rw [e2] at e1
          have e3 := rfK_set hO h5' (v := -1) (by rw [hxx]; exact rfO_write h6)
          rw [hxx] at e3
          dsimp only
          rw [← e1, ← e3]
          exact h'
      · rw [dc_false] at h6
        refine gO_ ?_
        refine wl_a (v := .int .i64 ((coK t o k).getD p default).length) (h := ?_) (next := ?_)
        · exact qy_len_own (hm := .tail _ (.tail _ (.tail _ (.tail _ (.tail _ (.tail _ (inner_mem 3 hvc hpv)))))))
        rw [hcg]
        refine gO_ ?_
        have e3 : ∀ v : Int, endI (colO t (o.take k) p) = v → (rfK t o k).set x v = rfK t o (k + 1) := fun v hv => by
          have := rfK_set hO h5' (v := v) (by rw [hxx, rfO_read (k := k) (p := p) h6 hpos hp]; exact hv)
          rwa [hxx] at this
        have e4 := coK_same (t := t) (o := o) (k := k) hko (by rw [hxx]; exact h6)
        refine wc_cond rfl (fun h7 => ?_) (fun h7 => ?_)
        · rw [dc_true] at h7
          obtain ⟨m, hm⟩ : ∃ m, (colO t (o.take k) p).length = m + 1 := ⟨(colO t (o.take k) p).length - 1, by omega⟩
          have hxs : x < ((rfK t o k).set x (-1)).length := by rw [List.length_set]; exact hxr
          refine gO_ ?_
          refine wc_draw [0, 1, 2, 3, 4, 5, 6, 7, 8, 9, 10] mixed ?_
          refine kG_ ?_
          refine kg_a (v := .int .i64 ((m + 1 : Nat) : Int)) (h := ?_) (next := ?_)
          · exact qy_val (qy_len_own (hm := .tail _ (.tail _ (.tail _ (.tail _ (.tail _ (.tail _ (inner_mem 3 hvc hpv)))))))) (by rw [hcg, hm])
          refine kG_ ?_
          rw [show ((m + 1 : Nat) : Int) - 1 = (m : Int) by omega]
          refine kg_a (v := .pointer (some (elt (vs.getD p default) 1 m 0))) (h := ?_) (next := ?_)
          · exact qy_index_own_nat (hm := .tail _ (.tail _ (.tail _ (.tail _ (.tail _ (.tail _ (inner_mem 3 hvc hpv))))))) (hb := fun _ => by rw [hcg]; omega)
          refine kg_a (v := .int .i64 ((colO t (o.take k) p).getD m default)) (h := ?_) (next := ?_)
          · exact qy_val (qy_load_own1 (hm := .tail _ (.tail _ (.tail _ (.tail _ (.tail _ (.tail _ (inner_mem 3 hvc hpv))))))) (hi := fun _ => by rw [hcg]; omega) (hv := rfl)) (by rw [hcg])
          refine kG_ ?_
          refine kg_z (h := fx_store_own (k := 3) (hk := rfl) (next := ?_))
          refine gO_ ?_
          refine po_loop (k + 1, vs) ⟨h5', hvl, hvs⟩ (by dsimp only; omega) ⟨rfl, rfl, rfl, rfl, rfl, rfl, trivial⟩ (fun w' h => ?_)
          have h' := h.tail
          dsimp only
          rw [← e4, ← e3 ((colO t (o.take k) p).getD m default) (by unfold endI; rw [if_neg (by omega), hm]; rfl)]
          rw [← List.set_set (a := (-1 : Int))]
          exact h'
        · rw [dc_false] at h7
          refine gO_ ?_
          refine po_loop (k + 1, vs) ⟨h5', hvl, hvs⟩ (by dsimp only; omega) ⟨rfl, rfl, rfl, rfl, rfl, rfl, trivial⟩ (fun w' h => ?_)
          have h' := h.tail
          dsimp only
          rw [← e4, ← e3 (-1) (by unfold endI; rw [if_pos (by omega)])]
          exact h'
    · obtain rfl : k = t.evs.length := by rw [dc_false] at h5; omega
      refine gO_ ?_
      refine wl_fx (fx_store_box (i := 3) (hi := rfl) (next := ?_))
      refine gO_ ?_
      refine pur_ret Tryz.results6 (.cellN inferInstance rfl (.tail _ (.tail _ (.tail _ (.head _)))) rfl (.tmp rfl .nil)) (.head _) fun w' hw => ?_
      rw [rfK_all hO, coK_all hO] at hw
      have hcc : (candO t o).co.length = t.locs.length := by rw [← coK_all hO, coK_len]
      refine ⟨rv, qv, rfl, hw.give (.tail _ (.tail _ (.head _))) (.head _), hw.give2 3 23 (.tail _ (.head _)) (by rw [hcc]; exact hvl) (fun e he => .tail _ (.tail _ (.tail _ (.tail _ (.tail _ he))))) (.head _), fun i hi => ?_⟩
      have e5 : (candO t o).co.getD i default = colO t o i := by
        rw [hcc] at hi
        unfold candO
        rw [List.getD_eq_getElem?_getD, List.getElem?_map, List.getElem?_range hi]; rfl
      rw [e5]
      have : (colO t o i).length ≤ o.length := by unfold colO ints; rw [List.length_map]; exact List.length_filter_le _ _
      omega
end Go.Proofs.YtifgncgiiojikaaGreatDoor

