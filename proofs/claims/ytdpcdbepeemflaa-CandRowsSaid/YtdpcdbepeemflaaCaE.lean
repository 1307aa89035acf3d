/- The walks: cand.values, Values, Final. -/
import Derived.Test.YtdpcdbepeemflaaCaA
import Derived.Test.YtdpcdbepeemflaaPak
import Derived.Test.YtdpcdbepeemflaaG02
set_option linter.unusedSimpArgs false
set_option linter.unusedVariables false
namespace Go.Tc
open Go Go.Eng
theorem CdIn.cov {S : Nat → Prop} {w : World} {fv cv : Value} {c : Cd} (h : CdIn S w fv cv c) : SV cv := by
  obtain ⟨vs, h1, _⟩ := h.co
  exact h1.sv
theorem wm_iff {t : Tr} {loc x : Int} : x ∈ wr t loc ↔ ∃ i : Nat, i < t.evs.length ∧ x = i ∧ (t.evs.getD i default).dir = 2 ∧ (t.evs.getD i default).loc = loc := by
  unfold wr wrTo
  simp only [List.mem_map, List.mem_filter, List.mem_range, wrAt, Bool.and_eq_true, decide_eq_true_eq]
  constructor
  · rintro ⟨i, ⟨h1, h2, h3⟩, rfl⟩; exact ⟨i, h1, rfl, h2, h3⟩
  · rintro ⟨i, h1, rfl, h2, h3⟩; exact ⟨i, ⟨h1, h2, h3⟩, rfl⟩
theorem cp_perm {t : Tr} {c : Cd} (hc : candB t c = true) {k : Nat} (hk : k < t.locs.length) : (c.co.getD k default).Perm (wr t (k : Int)) := by
  have := ((candB_iff t c).1 hc).2.2.2 k hk
  rw [wrb_eq, decide_eq_true_eq] at this
  exact this ▸ (sortI_perm _).symm
theorem cdE_parts {t : Tr} {c : Cd} (hz : cdE t c = 0) : trOk t = true ∧ candB t c = true := by
  unfold cdE at hz
  by_cases h1 : trOk t = true
  · rw [if_pos h1] at hz
    by_cases h2 : candB t c = true
    · exact ⟨h1, h2⟩
    · rw [if_neg h2] at hz; cases hz
  · rw [if_neg h1] at hz; cases hz
theorem rf_in {t : Tr} {c : Cd} (hc : candB t c = true) {i : Nat} (hi : i < t.evs.length) : c.rf.getD i default = -1 ∨ ((t.evs.getD i default).dir = 1 ∧ c.rf.getD i default ∈ wr t (t.evs.getD i default).loc) := by
  have := ((candB_iff t c).1 hc).2.2.1 i hi
  simp only [rdb, Bool.or_eq_true, Bool.and_eq_true, decide_eq_true_eq] at this
  exact this
theorem rf_lt {t : Tr} {c : Cd} (hc : candB t c = true) {i : Nat} (hi : i < t.evs.length) : c.rf.getD i default < t.evs.length := by
  rcases rf_in hc hi with h | ⟨_, h⟩
  · omega
  · obtain ⟨j, hj, e, _⟩ := wm_iff.1 h
    omega
theorem init_len {t : Tr} (h : trOk t = true) : t.init.length = t.locs.length := by
  simp only [trOk, Bool.and_eq_true, locatedB, decide_eq_true_eq] at h
  exact h.1.1.1.1.1.1.1.2
theorem ends_len {t : Tr} (h : trOk t = true) : t.things.length = t.ends.length ∧ t.things.length ≤ 1024 := by
  simp only [trOk, Bool.and_eq_true, thingsB, decide_eq_true_eq] at h
  exact h.2.1
theorem end_is {t : Tr} (h : trOk t = true) {i : Nat} (hi : i < t.ends.length) :
    (t.ends.getD i default).kind = 1 ∨ ((t.ends.getD i default).kind = 2 ∧ 0 ≤ (t.ends.getD i default).n ∧ (t.ends.getD i default).n < t.evs.length) ∨ ((t.ends.getD i default).kind = 3 ∧ 0 ≤ (t.ends.getD i default).n ∧ (t.ends.getD i default).n < t.locs.length) := by
  have hl := ends_len h
  simp only [trOk, Bool.and_eq_true, thingsB, all_range] at h
  have h1 := h.2.2 i (by omega)
  simp only [thingAt, Bool.and_eq_true] at h1
  have h2 := h1.1
  unfold thingB at h2
  split at h2
  · unfold locEnd at h2
    split at h2
    · rename_i k hk
      simp only [Bool.and_eq_true, decide_eq_true_eq] at h2
      have hlt : k < t.locs.length := by
        rw [List.findIdx?_eq_some_iff_getElem] at hk
        exact hk.1
      exact .inr (.inr ⟨h2.1.2, by omega, by omega⟩)
    · cases h2
  · simp only [endB, Bool.and_eq_true, Bool.or_eq_true, decide_eq_true_eq] at h2
    rcases h2.2 with h3 | h3
    · exact .inl h3.1
    · exact .inr (.inl ⟨h3.1.1.1.1, h3.1.1.1.2, h3.1.1.2⟩)
/-- what an event reads or writes -/
def readV (t : Tr) (c : Cd) (i : Nat) : Int := if (t.evs.getD i default).dir = 2 then (t.evs.getD i default).value else if c.rf.getD i default < 0 then t.init.getD (t.evs.getD i default).loc.toNat default else (t.evs.getD (c.rf.getD i default).toNat default).value
def valsT (t : Tr) (c : Cd) : List Int := (List.range t.evs.length).map (readV t c)
/-- a list that is filled from the first on -/
def fillTo (n : Nat) (f : Nat → Int) (i : Nat) : List Int := (List.range n).map fun q => if q < i then f q else 0
theorem fillTo_len (n : Nat) (f : Nat → Int) (i : Nat) : (fillTo n f i).length = n := by simp [fillTo]
theorem fillTo_zero (n : Nat) (f : Nat → Int) : fillTo n f 0 = List.replicate n 0 := by
  unfold fillTo
  apply List.ext_getElem (by simp)
  intro i h1 h2
  simp
theorem fillTo_all (n : Nat) (f : Nat → Int) : fillTo n f n = (List.range n).map f := by
  unfold fillTo
  refine List.map_congr_left fun q hq => ?_
  rw [List.mem_range] at hq
  rw [if_pos hq]
theorem fillTo_set {n : Nat} {f : Nat → Int} {i : Nat} (hi : i < n) {x : Int} (hx : x = f i) : (fillTo n f i).set i x = fillTo n f (i + 1) := by
  subst hx
  unfold fillTo
  apply List.ext_getElem (by simp)
  intro q h1 h2
  rw [List.getElem_set]
  simp only [List.getElem_map, List.getElem_range]
  by_cases e : i = q
  · subst e; rw [if_pos rfl, if_pos (by omega)]
  · rw [if_neg e]
    by_cases r : q < i
    · rw [if_pos r, if_pos (by omega)]
    · rw [if_neg r, if_neg (by omega)]
theorem vals_get {t : Tr} {c : Cd} {i : Nat} (hi : i < t.evs.length) : (valsT t c).getD i default = readV t c i := by
  unfold valsT
  rw [List.getD_eq_getElem?_getD, List.getElem?_map, List.getElem?_range hi]; rfl
theorem vals_len (t : Tr) (c : Cd) : (valsT t c).length = t.evs.length := by simp [valsT]
/-- how a thing ends -/
def finV (t : Tr) (c : Cd) (i : Nat) : Int := if (t.ends.getD i default).kind = 1 then (t.ends.getD i default).n else if (t.ends.getD i default).kind = 2 then readV t c (t.ends.getD i default).n.toNat else if (c.co.getD (t.ends.getD i default).n.toNat default).length = 0 then t.init.getD (t.ends.getD i default).n.toNat default else readV t c ((c.co.getD (t.ends.getD i default).n.toNat default).getD ((c.co.getD (t.ends.getD i default).n.toNat default).length - 1) default).toNat
def finT (t : Tr) (c : Cd) : List Int := (List.range t.ends.length).map (finV t c)
theorem finT_len (t : Tr) (c : Cd) : (finT t c).length = t.ends.length := by simp [finT]
theorem finT_get {t : Tr} {c : Cd} {i : Nat} (hi : i < t.ends.length) : (finT t c).getD i default = finV t c i := by
  unfold finT
  rw [List.getD_eq_getElem?_getD, List.getElem?_map, List.getElem?_range hi]; rfl
end Go.Tc
namespace Go.Proofs.Ytdpcdbepeemflaa
open Go Go.Eng Go.Tc
attribute [local irreducible] wpList Code.wp bodyPost Exit.then Exit.inBlock Calls

set_option maxHeartbeats 1600000 in
theorem cvalues_spec {lv iv ev bv av dv cv tv nv : Value} {t : Tr} (fv ov : Value) (c : Cd) (w : World) (h : TrIn All w lv iv ev bv av dv cv tv nv t) (hc : CdIn All w fv ov c) (hz : cdE t c = 0) :
    Pur Try.prog 36 [.agg #[lv, iv, ev, bv, av, dv, cv, tv, nv], .agg #[fv, ov]] w fun m v w' => Sl (Fr m) w' Eng.encI 1 v (valsT t c) := by
  obtain ⟨ht, hcb⟩ := cdE_parts hz
  obtain ⟨hb, hlb⟩ := trOk_lens ht
  have hE := h.evs; have hI := h.init; have hR := hc.rf
  have hEl := hE.le; have hIl := hI.le; have hRl := hR.le
  have s1 := hR.sv; have s2 := hc.cov
  have hrl : c.rf.length = t.evs.length := ((candB_iff t c).1 hcb).1
  have hil := init_len ht
  refine enter_pur Try.func36 Try.ntmps36 rfl rfl ?_
  refine gO_ ?_
  refine wl_fx (fx_box (next := ?_)); intro bt
  refine gO_ ?_
  refine wl_fx (fx_box (next := ?_)); intro bc
  refine gO_ ?_
  refine wl_fx (fx_make (enc := Eng.encI) (dec := Eng.decI) (next := ?_))
  intro v11 hv11
  refine gO_ ?_
  refine wc_loop (fun i : Nat => i ≤ t.evs.length) (fun i => [(15, true, .int .i64 i), (14, true, .int .i64 t.evs.length), (13, true, ev), (5, true, v11), (3, true, .pointer (some ⟨bc, 0, none⟩)), (2, true, .pointer (some ⟨bt, 0, none⟩))])
    (fun i => Mem [(w, All)] [.own v11 3 1 Eng.encI (fillTo t.evs.length (readV t c) i), .box bc [fv, ov] 33, .box bt [lv, iv, ev, bv, av, dv, cv, tv, nv] 30]) (fun i => t.evs.length - i) 0 (Nat.zero_le _) ⟨rfl, rfl, rfl, rfl, rfl, rfl, trivial⟩ (fun _ h => by rw [fillTo_zero]; exact h.last rfl) ?_
  intro i hi
  refine gO_ ?_
  refine wc_cond rfl (fun h1 => ?_) (fun h1 => ?_)
  · have h1' : i < t.evs.length := by rw [dc_true] at h1; omega
    have hfl := fillTo_len t.evs.length (readV t c) i
    have hif : i < (fillTo t.evs.length (readV t c) i).length := by omega
    have hloc := trOk_loc ht h1'
    have hrf := rf_lt hcb h1'
    have hri : i < c.rf.length := by omega
    refine gO_ ?_
    refine wl_fx (fx_alloc (next := ?_)); intro bx
    refine gO_ ?_
    refine wl_fx (fx_store_box (i := 0) (hi := rfl) (next := ?_))
    refine gO_ ?_
    refine wc_cond rfl (fun h2 => ?_) (fun h2 => ?_)
    · rw [dc_true] at h2
      refine gO_ ?_
      refine wl_fx (fx_store_own (k := 1) (hk := rfl) (next := ?_))
      refine gO_ ?_
      refine po_loop (i + 1) (by omega) (by omega) ⟨rfl, rfl, rfl, rfl, rfl, rfl, trivial⟩ (fun _ h => ?_)
      rw [← fillTo_set h1' (x := (t.evs.getD i default).value) (by unfold readV; rw [if_pos h2])]
      exact (h.last rfl).tail
    · rw [dc_false] at h2
      refine gO_ ?_
      refine wc_cond rfl (fun h3 => ?_) (fun h3 => ?_)
      · rw [dc_true] at h3
        refine gO_ ?_
        refine wl_fx (fx_store_own (k := 1) (hk := rfl) (next := ?_))
        refine gO_ ?_
        refine po_loop (i + 1) (by omega) (by omega) ⟨rfl, rfl, rfl, rfl, rfl, rfl, trivial⟩ (fun _ h => ?_)
        rw [← fillTo_set h1' (x := t.init.getD (t.evs.getD i default).loc.toNat default) (by unfold readV; rw [if_neg h2, if_pos h3])]
        exact (h.last rfl).tail
      · rw [dc_false] at h3
        refine gO_ ?_
        refine wc_draw [0, 1, 2, 3, 4, 5, 6, 7, 8, 9, 10, 11, 12, 13] mixed ?_
        refine kG_ ?_
        refine kg_z (h := fx_store_own (k := 1) (hk := rfl) (next := ?_))
        refine gO_ ?_
        refine po_loop (i + 1) (by omega) (by omega) ⟨rfl, rfl, rfl, rfl, rfl, rfl, trivial⟩ (fun _ h => ?_)
        rw [← fillTo_set h1' (x := (t.evs.getD (c.rf.getD i default).toNat default).value) (by unfold readV; rw [if_neg h2, if_neg h3])]
        exact (h.last rfl).tail
  · obtain rfl : i = t.evs.length := by rw [dc_false] at h1; omega
    refine gO_ ?_
    refine pur_ret Try.results36 (.tmp rfl .nil) (.head _) fun w' hw => ?_
    have := hw.give (.head _) (.head _)
    rw [fillTo_all] at this
    exact this

theorem cdE_dc (t : Tr) (c : Cd) (h : (!dc (cdE t c = 0)) = false) : cdE t c = 0 := by rw [Bool.not_eq_false', dc_true] at h; exact h
set_option maxHeartbeats 1600000 in
theorem cValues_spec {lv iv ev bv av dv cv tv nv : Value} {t : Tr} (fv ov : Value) (c : Cd) (w : World) (h : TrIn All w lv iv ev bv av dv cv tv nv t) (hc : CdIn All w fv ov c) (hz : cdE t c = 0) :
    Pur Try.prog 15 [.agg #[lv, iv, ev, bv, av, dv, cv, tv, nv], .agg #[fv, ov]] w fun m v w' => ∃ u, v = .tuple #[u, .int .i64 0] ∧ Sl (Fr m) w' Eng.encI 1 u (valsT t c) := by
  have s1 := hc.rf.sv; have s2 := hc.cov
  refine enter_pur Try.func15 Try.ntmps15 rfl rfl ?_
  refine gO_ ?_
  refine wl_fx (fx_box (next := ?_)); intro bt
  refine gO_ ?_
  refine wl_fx (fx_box (next := ?_)); intro bc
  refine gO_ ?_
  refine wl_fx (fx_call (spec := fun w' hw => ccheck_spec fv ov c w' (h.now hw (.head _)) (hc.now hw (.head _))) (next := ?_))
  rintro v n1 w1 rfl hn1
  rw [hz]
  refine gO_ ?_
  refine wc_cond rfl (fun h1 => ?_) (fun h1 => ?_)
  · exfalso; simp [dc_eq] at h1
  · refine gO_ ?_
    refine wl_fx (fx_call (spec := fun w' hw => (cvalues_spec fv ov c w' (h.now hw (.tail _ (.head _))) (hc.now hw (.tail _ (.head _))) hz).size (hw.sz (.tail _ (.head _)))) (next := ?_))
    rintro v n2 w2 ⟨hv, hm⟩ hn2
    have hv' : Sl (Fr n2) w2 Eng.encI 1 v (valsT t c) := hv
    have hvs := hv'.sv
    refine gO_ ?_
    refine pur_ret Try.results15 (.tmp rfl (.tmp rfl .nil)) (.tail _ (.tail _ (.head _))) fun w' hw => ?_
    exact ⟨v, rfl, hw.pass hv' (.head _) hm⟩

set_option maxHeartbeats 1600000 in
theorem cFinal_spec {lv iv ev bv av dv cv tv nv : Value} {t : Tr} (fv ov : Value) (c : Cd) (w : World) (h : TrIn All w lv iv ev bv av dv cv tv nv t) (hc : CdIn All w fv ov c) (hz : cdE t c = 0) :
    Pur Try.prog 18 [.agg #[lv, iv, ev, bv, av, dv, cv, tv, nv], .agg #[fv, ov]] w fun m v w' => ∃ u, v = .tuple #[u, .int .i64 0] ∧ Sl (Fr m) w' Eng.encI 1 u (finT t c) := by
  obtain ⟨ht, hcb⟩ := cdE_parts hz
  obtain ⟨hb, hlb⟩ := trOk_lens ht
  obtain ⟨hel, hel2⟩ := ends_len ht
  have s1 := hc.rf.sv; have s2 := hc.cov
  have hN := h.ends; have hI := h.init
  have hNl := hN.le; have hIl := hI.le
  have hil := init_len ht
  have hcl : c.co.length = t.locs.length := ((candB_iff t c).1 hcb).2.1
  obtain ⟨vs, hvs, hvl, hvi⟩ := hc.co
  have hvle := hvs.le
  refine enter_pur Try.func18 Try.ntmps18 rfl rfl ?_
  refine gO_ ?_
  refine wl_fx (fx_box (next := ?_)); intro bt
  refine gO_ ?_
  refine wl_fx (fx_box (next := ?_)); intro bc
  refine gO_ ?_
  refine wl_fx (fx_call (spec := fun w' hw => ccheck_spec fv ov c w' (h.now hw (.head _)) (hc.now hw (.head _))) (next := ?_))
  rintro v n1 w1 rfl hn1
  rw [hz]
  refine gO_ ?_
  refine wc_cond rfl (fun h1 => ?_) (fun h1 => ?_)
  · exfalso; simp [dc_eq] at h1
  clear h1
  refine gO_ ?_
  refine wl_fx (fx_call (spec := fun w' hw => cvalues_spec fv ov c w' (h.now hw (.tail _ (.head _))) (hc.now hw (.tail _ (.head _))) hz) (next := ?_))
  rintro vv n2 w2 hv hn2
  have hv' : Sl (Fr n2) w2 Eng.encI 1 vv (valsT t c) := hv
  have hvvs := hv'.sv
  have hvll := vals_len t c
  refine kp_mem (A' := Mem [(w2, Fr n2), (w, All)] [.box bc [fv, ov] 33, .box bt [lv, iv, ev, bv, av, dv, cv, tv, nv] 30]) (fun _ h => h.dropB1) ?_
  refine gO_ ?_
  refine wl_fx (fx_make (enc := Eng.encI) (dec := Eng.decI) (next := ?_))
  intro v24 hv24
  refine gO_ ?_
  refine wc_loop (fun i : Nat => i ≤ t.ends.length) (fun i => [(28, true, .int .i64 i), (27, true, .int .i64 t.ends.length), (26, true, nv), (8, true, v24), (7, true, vv), (3, true, .pointer (some ⟨bc, 0, none⟩)), (2, true, .pointer (some ⟨bt, 0, none⟩))])
    (fun i => Mem [(w2, Fr n2), (w, All)] [.own v24 3 1 Eng.encI (fillTo t.ends.length (finV t c) i), .box bc [fv, ov] 33, .box bt [lv, iv, ev, bv, av, dv, cv, tv, nv] 30]) (fun i => t.ends.length - i) 0 (Nat.zero_le _) ⟨rfl, rfl, rfl, rfl, rfl, rfl, rfl, trivial⟩ (fun _ h => by rw [fillTo_zero]; exact h) ?_
  intro i hi
  refine gO_ ?_
  refine wc_cond rfl (fun h2 => ?_) (fun h2 => ?_)
  · have h2' : i < t.ends.length := by rw [dc_true] at h2; omega
    have hfl := fillTo_len t.ends.length (finV t c) i
    have hif : i < (fillTo t.ends.length (finV t c) i).length := by omega
    have hend := end_is ht h2'
    have hset : ∀ x, x = finV t c i → (fillTo t.ends.length (finV t c) i).set i x = fillTo t.ends.length (finV t c) (i + 1) := fun x hx => fillTo_set h2' hx
    generalize fillTo t.ends.length (finV t c) i = L0 at *
    refine gO_ ?_
    refine wl_fx (fx_alloc (next := ?_)); intro bx
    refine gO_ ?_
    refine wl_fx (fx_store_box (i := 0) (hi := rfl) (next := ?_))
    refine gO_ ?_
    refine wc_cond rfl (fun h3 => ?_) (fun h3 => ?_)
    · rw [dc_true] at h3
      refine gO_ ?_
      refine wl_fx (fx_store_own (k := 1) (hk := rfl) (next := ?_))
      refine gO_ ?_
      refine po_loop (i + 1) (by omega) (by omega) ⟨rfl, rfl, rfl, rfl, rfl, rfl, rfl, trivial⟩ (fun _ h => ?_)
      rw [← hset (t.ends.getD i default).n (by unfold finV; rw [if_pos h3])]
      exact h.tail
    · rw [dc_false] at h3
      refine gO_ ?_
      refine wc_cond rfl (fun h4 => ?_) (fun h4 => ?_)
      · rw [dc_true] at h4
        have hn : 0 ≤ (t.ends.getD i default).n ∧ (t.ends.getD i default).n < t.evs.length := by omega
        have hvg := vals_get (t := t) (c := c) (i := (t.ends.getD i default).n.toNat) (by omega)
        have hn1 : (t.ends.getD i default).n < (valsT t c).length := by omega
        refine gO_ ?_
        rw [hvg]
        refine gO_ ?_
        refine wl_fx (fx_store_own (k := 1) (hk := rfl) (next := ?_))
        refine gO_ ?_
        refine po_loop (i + 1) (by omega) (by omega) ⟨rfl, rfl, rfl, rfl, rfl, rfl, rfl, trivial⟩ (fun _ h => ?_)
        rw [← hset (readV t c (t.ends.getD i default).n.toNat) (by unfold finV; rw [if_neg h3, if_pos h4])]
        exact h.tail
      · rw [dc_false] at h4
        have h5' : (t.ends.getD i default).kind = 3 ∧ 0 ≤ (t.ends.getD i default).n ∧ (t.ends.getD i default).n < t.locs.length := by omega
        have hni : (t.ends.getD i default).n < t.init.length := by omega
        have hnv : (t.ends.getD i default).n < vs.length := by omega
        have hx := hvi (t.ends.getD i default).n.toNat (by omega)
        have hxs := hx.sv
        have hpm := cp_perm hcb (k := (t.ends.getD i default).n.toNat) (by omega)
        have hxl : (c.co.getD (t.ends.getD i default).n.toNat default).length ≤ 64 := by rw [hpm.length_eq]; exact Nat.le_trans (wrTo_le _ _ _) hb
        have hfin : finV t c i = if (c.co.getD (t.ends.getD i default).n.toNat default).length = 0 then t.init.getD (t.ends.getD i default).n.toNat default else readV t c ((c.co.getD (t.ends.getD i default).n.toNat default).getD ((c.co.getD (t.ends.getD i default).n.toNat default).length - 1) default).toNat := by
          unfold finV; rw [if_neg h3, if_neg h4]
        have hmem : ∀ y, y ∈ c.co.getD (t.ends.getD i default).n.toNat default → 0 ≤ y ∧ y < t.evs.length := fun y hy => by
          obtain ⟨j, hj, e, _⟩ := wm_iff.1 (hpm.mem_iff.1 hy)
          omega
        have hset0 : ∀ y, (L0.set i y).length = L0.length := fun y => List.length_set
        refine gO_ ?_
        refine wc_cond rfl (fun h5 => ?_) (fun h5 => ?_)
        · refine gO_ ?_
          refine wl_fx (fx_store_own (k := 1) (hk := rfl) (next := ?_))
          have hif2 : i < (L0.set i (t.init.getD (t.ends.getD i default).n.toNat default)).length := by rw [hset0]; exact hif
          refine gO_ ?_
          generalize hl : c.co.getD (t.ends.getD i default).n.toNat default = l at *
          refine wc_cond rfl (fun h6 => ?_) (fun h6 => ?_)
          · rw [dc_true] at h6
            obtain ⟨m, hm⟩ : ∃ m, l.length = m + 1 := ⟨l.length - 1, by omega⟩
            have hy := hmem (l.getD m default) (by rw [List.getD_eq_getElem?_getD, List.getElem?_eq_getElem (show m < l.length by omega)]; exact List.getElem_mem _)
            have e1 : ((l.length : Int) - 1).toNat = m := by omega
            have hyv : l.getD m default < (valsT t c).length := by omega
            have hyg := vals_get (t := t) (c := c) (i := (l.getD m default).toNat) (by omega)
            refine gO_ ?_
            rw [e1]
            refine gO_ ?_
            rw [hyg]
            refine gO_ ?_
            refine wl_fx (fx_store_own (k := 1) (hk := rfl) (next := ?_))
            refine gO_ ?_
            refine po_loop (i + 1) (by omega) (by omega) ⟨rfl, rfl, rfl, rfl, rfl, rfl, rfl, trivial⟩ (fun _ h => ?_)
            rw [← hset (readV t c (l.getD m default).toNat) (by rw [hfin, if_neg (by omega), hm]; rfl)]
            have h' := h.tail
            simp only [List.set_cons_succ, List.set_cons_zero, List.set_set] at h'
            exact h'
          · rw [dc_false] at h6
            refine gO_ ?_
            refine po_loop (i + 1) (by omega) (by omega) ⟨rfl, rfl, rfl, rfl, rfl, rfl, rfl, trivial⟩ (fun _ h => ?_)
            rw [← hset (t.init.getD (t.ends.getD i default).n.toNat default) (by rw [hfin, if_pos (by omega)])]
            exact h.tail
        · rw [dc_false] at h5
          omega
  · obtain rfl : i = t.ends.length := by rw [dc_false] at h2; omega
    refine gO_ ?_
    refine pur_ret Try.results18 (.tmp rfl (.tmp rfl .nil)) (.tail _ (.head _)) fun w' hw => ?_
    have := hw.give (.head _) (.tail _ (.head _))
    rw [fillTo_all] at this
    exact ⟨_, rfl, this⟩
end Go.Proofs.Ytdpcdbepeemflaa
