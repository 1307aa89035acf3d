import Derived.Test.YtdpcdbepeemflaaG07
import Derived.Test.YtdpcdbepeemflaaG08
set_option linter.unusedSimpArgs false
set_option linter.unusedVariables false
section
/- Candidates: cand.choices.fits, cand.Check. -/
namespace Go.Eng
open Go Go.RowKit
theorem Mem.now2 {bs : List Base} {H : List Ent} {S : Nat → Prop} {B w' : World} {v : Value} {xss : List (List Int)} (hw : Mem bs H w') (h : Sl2 S B v xss) (hB : (B, S) ∈ bs) : Sl2 All w' v xss := by
  obtain ⟨vs, h1, h2, h3⟩ := h
  exact ⟨vs, hw.now h1 hB, h2, fun i hi => hw.now (h3 i hi) hB⟩
end Go.Eng
namespace Go.Tc
open Go Go.Eng
structure Cd where
  rf : List Int
  co : List (List Int)
structure CdIn (S : Nat → Prop) (w : World) (fv cv : Value) (c : Cd) : Prop where
  rf : Sl S w encI 1 fv c.rf
  co : Sl2 S w cv c.co
  big : ∀ i, i < c.co.length → (c.co.getD i default).length * 8 ≤ 140737488351232
theorem CdIn.now {S : Nat → Prop} {B w' : World} {fv cv : Value} {c : Cd} {bs : List Base} {H : List Ent} (h : CdIn S B fv cv c) (hw : Mem bs H w') (hB : (B, S) ∈ bs) : CdIn All w' fv cv c :=
  ⟨hw.now h.rf hB, hw.now2 h.co hB, h.big⟩
def fitB (rs ws : List (List Int)) (c : Cd) : Bool := decide (c.rf.length = rs.length) && decide (c.co.length = ws.length) && ((List.range c.rf.length).all fun i => decide (c.rf.getD i default ∈ rs.getD i default)) && (List.range c.co.length).all fun k => decide (sortI (c.co.getD k default) = ws.getD k default)
def candB (t : Tr) (c : Cd) : Bool := fitB (rds t) (wrs t) c
/-- Check's answer -/
def cdE (t : Tr) (c : Cd) : Int := if trOk t = true then if candB t c = true then 0 else 160 else 1
end Go.Tc
namespace Go.Proofs.Ytdpcdbepeemflaa
open Go Go.Eng Go.Tc
attribute [local irreducible] wpList Code.wp bodyPost Exit.then Exit.inBlock Calls

set_option maxHeartbeats 1600000 in
theorem cfits_spec (rv wv fv cv : Value) (rs ws : List (List Int)) (c : Cd) (w : World) (hr : Sl2 All w rv rs) (hw2 : Sl2 All w wv ws) (hc : CdIn All w fv cv c) :
    Pur Try.prog 33 [.agg #[rv, wv], .agg #[fv, cv]] w fun _ v _ => v = .bool (fitB rs ws c) := by
  obtain ⟨rvs, hrv, hrl, hri⟩ := hr
  obtain ⟨wvs, hwv, hwl, hwi⟩ := hw2
  have hF := hc.rf
  obtain ⟨cvs, hcv, hcl, hci⟩ := hc.co
  have hFl := hF.le; have hrvl := hrv.le; have hwvl := hwv.le; have hcvl := hcv.le
  have hrs := hrv.sv; have hws := hwv.sv; have hfs := hF.sv; have hcs := hcv.sv
  refine enter_pur Try.func33 Try.ntmps33 rfl rfl ?_
  refine gO_ ?_
  refine wl_fx (fx_box (next := ?_)); intro bc
  refine gO_ ?_
  refine wl_fx (fx_box (next := ?_)); intro bx
  refine gO_ ?_
  refine wc_cond rfl (fun h1 => ?_) (fun h1 => ?_)
  · refine gO_ ?_
    refine pur_ret Try.results33 (.tmp rfl .nil) (.head _) fun w' hw => ?_
    have : fitB rs ws c = false := by
      simp only [Bool.or_eq_true, Bool.not_eq_true', dc_false] at h1
      simp only [fitB, Bool.and_eq_false_iff, decide_eq_false_iff_not]
      omega
    rw [this]; rfl
  · simp only [Bool.or_eq_false_iff, Bool.not_eq_false', dc_true] at h1
    have hl1 : c.rf.length = rs.length := by omega
    have hl2 : c.co.length = ws.length := by omega
    refine gO_ ?_
    refine wc_loop (fun i : Nat => i ≤ c.rf.length ∧ ∀ j, j < i → decide (c.rf.getD j default ∈ rs.getD j default) = true) (fun s => [(28, true, .int .i64 s), (27, true, .int .i64 c.rf.length), (26, true, fv), (3, true, .pointer (some ⟨bx, 0, none⟩)), (2, true, .pointer (some ⟨bc, 0, none⟩))])
      (fun s => Mem [(w, All)] [.box bx [fv, cv] 33, .box bc [rv, wv] 63]) (fun s => c.rf.length - s) (0) ⟨Nat.zero_le _, fun j hj => absurd hj (Nat.not_lt_zero _)⟩ ⟨rfl, rfl, rfl, rfl, rfl, trivial⟩ (fun _ h => h.last rfl) ?_
    rintro i ⟨hi, hall⟩
    refine gO_ ?_
    refine wc_cond rfl (fun h2 => ?_) (fun h2 => ?_)
    · have h2' : i < c.rf.length := by rw [dc_true] at h2; omega
      refine gO_ ?_
      refine wl_fx (fx_call (spec := fun w' hw => scontains_spec (rvs.getD i default) (c.rf.getD i default) w' (rs.getD i default) (hw.now (hri i (by omega)) (.head _))) (next := ?_))
      rintro v n1 w1 rfl hn1
      refine gO_ ?_
      refine wc_cond rfl (fun h3 => ?_) (fun h3 => ?_)
      · rw [Bool.not_eq_true'] at h3
        refine gO_ ?_
        refine pur_ret Try.results33 (.tmp rfl .nil) (.tail _ (.head _)) fun w' hw => ?_
        have : fitB rs ws c = false := by
          unfold fitB
          rw [all_range_f h2' h3]; simp
        rw [this]; rfl
      · rw [Bool.not_eq_false'] at h3
        refine gO_ ?_
        exact po_loop (i + 1) ⟨by omega, seenT hall h3⟩ (by omega) ⟨rfl, rfl, rfl, rfl, rfl, trivial⟩ (fun _ h => h.last rfl)
    · have hin : i = c.rf.length := by rw [dc_false] at h2; omega
      refine gO_ ?_
      refine wc_loop (fun k : Nat => k ≤ c.co.length ∧ ∀ j, j < k → decide (sortI (c.co.getD j default) = ws.getD j default) = true) (fun s => [(45, true, .int .i64 s), (44, true, .int .i64 cvs.length), (43, true, cv), (2, true, .pointer (some ⟨bc, 0, none⟩))])
        (fun s => Mem [(w, All)] [.box bx [fv, cv] 33, .box bc [rv, wv] 63]) (fun s => c.co.length - s) (0) ⟨Nat.zero_le _, fun j hj => absurd hj (Nat.not_lt_zero _)⟩ ⟨rfl, rfl, rfl, rfl, trivial⟩ (fun _ h => h.last rfl) ?_
      rintro k ⟨hk, hall2⟩
      refine gO_ ?_
      refine wc_cond rfl (fun h4 => ?_) (fun h4 => ?_)
      · have h4' : k < c.co.length := by rw [dc_true] at h4; omega
        have hik := hci k h4'
        refine gO_ ?_
        refine wc_draw [0, 3, 4, 5, 6, 7, 1, 2, 8, 9] mixed ?_
        refine kG_ ?_
        refine kg_f _ (h := fx_call_mk (spec := fun w' hw => svalues_spec (cvs.getD k default) w' hik.sv) (next := ?_)) (hSS := fun _ h => h)
        rintro v n2 es w2 ⟨b, rfl, rfl⟩
        refine kp_S ?_ (fun _ h => (h.last rfl).sel [1, 2] rfl (by decide))
        refine kG_ ?_
        refine kg_f _ (h := fx_call_mk (spec := fun w' hw => ssorted_spec b (cvs.getD k default) (c.co.getD k default) w' (hc.big k h4') (box_cell (hw.own _ (.head _)) rfl) (hw.now hik (.tail _ (.head _)))) (next := ?_)) (hSS := fun _ h => h)
        rintro v n3 es w3 ⟨hv, rfl⟩
        refine kp_S ?_ (fun _ h => (h.last rfl).sel [2, 3] rfl (by decide))
        refine kG_ ?_
        refine kg_f _ (h := fx_call (spec := fun w' hw => sequal_spec v (wvs.getD k default) w' (sortI (c.co.getD k default)) (ws.getD k default) (hw.lend (.head _)) (hw.now (hwi k (by omega)) (.tail _ (.tail _ (.head _))))) (next := ?_)) (hSS := fun _ h => h)
        rintro v n4 w4 rfl hn4
        refine kp_S ?_ (fun _ h => (h.last rfl).sel [2, 3] rfl (by decide))
        refine kG_ ?_
        refine gO_ ?_
        refine wc_cond rfl (fun h5 => ?_) (fun h5 => ?_)
        · rw [Bool.not_eq_true'] at h5
          refine gO_ ?_
          refine pur_ret Try.results33 (.tmp rfl .nil) (.tail _ (.tail _ (.tail _ (.head _)))) fun w' hw => ?_
          have : fitB rs ws c = false := by
            unfold fitB
            rw [all_range_f h4' h5]; simp
          rw [this]; rfl
        · rw [Bool.not_eq_false'] at h5
          refine gO_ ?_
          exact po_loop (k + 1) ⟨by omega, seenT hall2 h5⟩ (by omega) ⟨rfl, rfl, rfl, rfl, trivial⟩ (fun _ h => (h.last rfl).sel [2, 3] rfl (by decide))
      · have hkn : k = c.co.length := by rw [dc_false] at h4; omega
        refine gO_ ?_
        refine pur_ret Try.results33 (.tmp rfl .nil) (.head _) fun w' hw => ?_
        have : fitB rs ws c = true := by
          unfold fitB
          rw [decide_eq_true hl1, decide_eq_true hl2, all_range.2 (fun j hj => hall j (by omega)), all_range.2 (fun j hj => hall2 j (by omega))]; rfl
        rw [this]; rfl

set_option maxHeartbeats 1600000 in
theorem ccheck_spec {lv iv ev bv av dv cv tv nv : Value} {t : Tr} (fv ov : Value) (c : Cd) (w : World) (h : TrIn All w lv iv ev bv av dv cv tv nv t) (hc : CdIn All w fv ov c) :
    Pur Try.prog 13 [.agg #[lv, iv, ev, bv, av, dv, cv, tv, nv], .agg #[fv, ov]] w fun _ v _ => v = .int .i64 (cdE t c) := by
  have hfs := hc.rf.sv
  obtain ⟨_, hov, _, _⟩ := hc.co
  have hos := hov.sv
  refine enter_pur Try.func13 Try.ntmps13 rfl rfl ?_
  refine gO_ ?_
  refine wl_fx (fx_box (next := ?_)); intro bt
  refine gO_ ?_
  refine wl_fx (fx_box (next := ?_)); intro bc
  refine gO_ ?_
  refine wl_fx (fx_call (spec := fun w' hw => tcheck_spec w' (h.now hw (.head _))) (next := ?_))
  rintro v n1 w1 rfl hn1
  refine gO_ ?_
  refine wc_cond rfl (fun h1 => ?_) (fun h1 => ?_)
  · rw [trE_dc, Bool.not_eq_true'] at h1
    refine gO_ ?_
    refine pur_ret Try.results13 (.tmp rfl .nil) (.tail _ (.head _)) fun w' hw => ?_
    unfold cdE trE; rw [h1]; rfl
  · rw [trE_dc, Bool.not_eq_false'] at h1
    refine gO_ ?_
    refine wc_draw [0, 2, 1, 3, 4] mixed ?_
    refine kG_ ?_
    refine kg_f _ (h := fx_call (spec := fun w' hw => cof_spec w' (h.now hw (.tail _ (.head _))) h1) (next := ?_)) (hSS := fun _ h => h)
    rintro v n2 w2 ⟨rv, wv, rfl, hrv, hwv⟩ hn2
    refine kp_S ?_ (fun _ h => h.tailB)
    refine kG_ ?_
    refine kg_f _ (h := fx_call (spec := fun w' hw => cfits_spec rv wv fv ov (rds t) (wrs t) c w' (hw.now2 hrv (.head _)) (hw.now2 hwv (.head _)) (hc.now hw (.tail _ (.tail _ (.head _))))) (next := ?_)) (hSS := fun _ h => h)
    rintro v n3 w3 rfl hn3
    refine kp_S ?_ (fun _ h => h.tailB.tailB)
    refine kG_ ?_
    refine gO_ ?_
    refine wc_cond rfl (fun h2 => ?_) (fun h2 => ?_)
    · rw [Bool.not_eq_true'] at h2
      refine gO_ ?_
      refine pur_ret Try.results13 (.tmp rfl .nil) (.tail _ (.tail _ (.tail _ (.head _)))) fun w' hw => ?_
      unfold cdE candB; rw [h1, h2]; rfl
    · rw [Bool.not_eq_false'] at h2
      refine gO_ ?_
      refine pur_ret Try.results13 (.tmp rfl .nil) (.tail _ (.tail _ (.tail _ (.head _)))) fun w' hw => ?_
      unfold cdE candB; rw [h1, h2]; rfl
end Go.Proofs.Ytdpcdbepeemflaa
end

section
/- Candidates: alembicref16.Check. -/
namespace Go.Tc
open Go Go.Eng
def rdb (t : Tr) (c : Cd) (i : Nat) : Bool := decide (c.rf.getD i default = -1) || (decide ((t.evs.getD i default).dir = 1) && decide (c.rf.getD i default ∈ wr t (t.evs.getD i default).loc))
def wrq (t : Tr) (c : Cd) (k q : Nat) : Bool := decide ((wr t (k : Int)).getD q default ∈ c.co.getD k default)
def wrb (t : Tr) (c : Cd) (k : Nat) : Bool := decide ((c.co.getD k default).length = (wr t (k : Int)).length) && (List.range (wr t (k : Int)).length).all (wrq t c k)
theorem rdb_eq (t : Tr) (c : Cd) (i : Nat) : rdb t c i = decide (c.rf.getD i default ∈ rdOf t i) := by
  unfold rdb rdOf
  by_cases h : (t.evs.getD i default).dir = 1
  · rw [if_pos h, Bool.eq_iff_iff]; simp only [Bool.or_eq_true, Bool.and_eq_true, decide_eq_true_eq, List.mem_cons, h, true_and]
  · rw [if_neg h, Bool.eq_iff_iff]; simp only [Bool.or_eq_true, Bool.and_eq_true, decide_eq_true_eq, List.mem_cons, List.not_mem_nil, h, false_and, or_false]
theorem perm_of_sub {a : Int} : ∀ {l m : List Int}, l.Nodup → (∀ x, x ∈ l → x ∈ m) → m.length ≤ l.length → m.Perm l
  | [], m, _, _, hl => by
    have : m = [] := List.eq_nil_of_length_eq_zero (by simpa using hl)
    subst this; exact .refl _
  | b :: l, m, hn, hs, hl => by
    have hb : b ∈ m := hs b (.head _)
    have hp := List.perm_cons_erase hb
    refine hp.trans (.cons b (perm_of_sub (a := a) (List.nodup_cons.1 hn).2 (fun x hx => ?_) ?_))
    · have hxb : x ≠ b := fun e => (List.nodup_cons.1 hn).1 (e ▸ hx)
      exact (List.mem_erase_of_ne hxb).2 (hs x (.tail _ hx))
    · have := List.length_erase_of_mem hb
      simp at hl; omega
def Rising (l : List Int) : Prop := l.Pairwise (· < ·)
theorem wrTo_rising (t : Tr) (loc : Int) (n : Nat) : Rising (wrTo t loc n) := by
  unfold Rising wrTo
  rw [List.pairwise_map]
  refine List.Pairwise.imp (fun {a b} h => ?_) (List.Pairwise.filter _ (List.pairwise_lt_range (n := n)))
  omega
theorem Rising.nodup {l : List Int} (h : Rising l) : l.Nodup := List.Pairwise.imp (fun {a b} h => by omega) h
theorem sortI_le (l : List Int) : (sortI l).Pairwise (· ≤ ·) := by
  have := List.pairwise_mergeSort (le := fun x y : Int => decide (x ≤ y)) (fun a b c h1 h2 => by simp at *; omega) (fun a b => by simp; omega) l
  exact List.Pairwise.imp (fun {a b} h => by simpa using h) this
theorem sort_rising {l m : List Int} (hp : l.Perm m) (hm : Rising m) : sortI l = m :=
  ((sortI_perm l).trans hp).eq_of_pairwise (le := fun a b => a ≤ b) (fun a b _ _ h1 h2 => by omega) (sortI_le l) (List.Pairwise.imp (fun {a b} h => by omega) hm)
theorem wrb_eq (t : Tr) (c : Cd) (k : Nat) : wrb t c k = decide (sortI (c.co.getD k default) = wr t (k : Int)) := by
  rw [Bool.eq_iff_iff]
  simp only [wrb, Bool.and_eq_true, decide_eq_true_eq, all_range, wrq]
  have hr : Rising (wr t (k : Int)) := wrTo_rising t _ _
  constructor
  · rintro ⟨h1, h2⟩
    refine sort_rising (perm_of_sub (a := 0) hr.nodup (fun x hx => ?_) (by omega)) hr
    obtain ⟨q, hq, rfl⟩ := mem_getD.1 hx
    exact h2 q hq
  · intro h
    have hp : (c.co.getD k default).Perm (wr t (k : Int)) := h ▸ (sortI_perm _).symm
    exact ⟨hp.length_eq, fun q hq => hp.mem_iff.2 (mem_getD.2 ⟨q, hq, rfl⟩)⟩
theorem rds_len (t : Tr) : (rds t).length = t.evs.length := by simp [rds]
theorem wrs_len (t : Tr) : (wrs t).length = t.locs.length := by simp [wrs]
theorem rds_get (t : Tr) {i : Nat} (h : i < t.evs.length) : (rds t).getD i default = rdOf t i := by
  unfold rds; rw [List.getD_eq_getElem?_getD, List.getElem?_map, List.getElem?_range h]; rfl
theorem wrs_get (t : Tr) {k : Nat} (h : k < t.locs.length) : (wrs t).getD k default = wr t (k : Int) := by
  unfold wrs; rw [List.getD_eq_getElem?_getD, List.getElem?_map, List.getElem?_range h]; rfl
theorem candB_iff (t : Tr) (c : Cd) : candB t c = true ↔ c.rf.length = t.evs.length ∧ c.co.length = t.locs.length ∧ (∀ i, i < t.evs.length → rdb t c i = true) ∧ ∀ k, k < t.locs.length → wrb t c k = true := by
  simp only [candB, fitB, Bool.and_eq_true, decide_eq_true_eq, all_range, rds_len, wrs_len]
  constructor
  · rintro ⟨⟨⟨h1, h2⟩, h3⟩, h4⟩
    refine ⟨h1, h2, fun i hi => ?_, fun k hk => ?_⟩
    · rw [rdb_eq, ← rds_get t hi]; exact decide_eq_true (h3 i (by omega))
    · rw [wrb_eq, ← wrs_get t hk]; exact decide_eq_true (h4 k (by omega))
  · rintro ⟨h1, h2, h3, h4⟩
    refine ⟨⟨⟨h1, h2⟩, fun i hi => ?_⟩, fun k hk => ?_⟩
    · have := h3 i (by omega); rw [rdb_eq, ← rds_get t (by omega)] at this; exact of_decide_eq_true this
    · have := h4 k (by omega); rw [wrb_eq, ← wrs_get t (by omega)] at this; exact of_decide_eq_true this
end Go.Tc
namespace Go.Proofs.Ytdpcdbepeemflaa
open Go Go.Eng Go.Tc
attribute [local irreducible] wpList Code.wp bodyPost Exit.then Exit.inBlock Calls
set_option maxHeartbeats 3200000 in
theorem rCheck_spec {lv iv ev bv av dv cv tv nv : Value} {t : Tr} (fv ov : Value) (c : Cd) (w : World) (h : TrIn All w lv iv ev bv av dv cv tv nv t) (hc : CdIn All w fv ov c) :
    Pur Try.prog 14 [.agg #[lv, iv, ev, bv, av, dv, cv, tv, nv], .agg #[fv, ov]] w fun _ v _ => v = .int .i64 (cdE t c) := by
  have hfs := hc.rf.sv
  obtain ⟨ovs, hov, hol, hoi⟩ := hc.co
  have hos := hov.sv
  have hF := hc.rf
  have hFl := hF.le; have hovl := hov.le
  have hE := h.evs; have hL := h.locs; have hEl := hE.le; have hLl := hL.le
  refine enter_pur Try.func14 Try.ntmps14 rfl rfl ?_
  refine gO_ ?_
  refine wl_fx (fx_box (next := ?_)); intro bt
  refine gO_ ?_
  refine wl_fx (fx_box (next := ?_)); intro bc
  refine gO_ ?_
  refine wl_fx (fx_call (spec := fun w' hw => rtcheck_spec w' (h.now hw (.head _))) (next := ?_))
  rintro v n1 w1 rfl hn1
  refine gO_ ?_
  refine wc_cond rfl (fun h1 => ?_) (fun h1 => ?_)
  · rw [trE_dc, Bool.not_eq_true'] at h1
    refine gO_ ?_
    refine pur_ret Try.results14 (.tmp rfl .nil) (.tail _ (.head _)) fun w' hw => ?_
    unfold cdE; rw [h1]; rfl
  · rw [trE_dc, Bool.not_eq_false'] at h1
    obtain ⟨hb, hlb⟩ := trOk_lens h1
    have bad : ∀ {x : Value}, candB t c = false → x = .int .i64 160 → x = .int .i64 (cdE t c) := fun hcb hx => by
      unfold cdE; rw [h1, hcb]; exact hx
    refine gO_ ?_
    refine wc_cond rfl (fun h2 => ?_) (fun h2 => ?_)
    · refine gO_ ?_
      refine pur_ret Try.results14 (.tmp rfl .nil) (.tail _ (.head _)) fun w' hw => bad ?_ rfl
      simp only [Bool.or_eq_true, Bool.not_eq_true', dc_false] at h2
      rw [Bool.eq_false_iff]
      intro hcb
      obtain ⟨g1, g2, _⟩ := (candB_iff t c).1 hcb
      omega
    · simp only [Bool.or_eq_false_iff, Bool.not_eq_false', dc_true] at h2
      have hl1 : c.rf.length = t.evs.length := by omega
      have hl2 : c.co.length = t.locs.length := by omega
      refine gO_ ?_
      refine wc_loop (fun i : Nat => i ≤ c.rf.length ∧ ∀ j, j < i → rdb t c j = true) (fun s => [(5, true, .int .i64 s), (3, true, .pointer (some ⟨bc, 0, none⟩)), (2, true, .pointer (some ⟨bt, 0, none⟩))])
        (fun s => Mem [(w, All)] [.box bc [fv, ov] 33, .box bt [lv, iv, ev, bv, av, dv, cv, tv, nv] 30]) (fun s => c.rf.length - s) (0) ⟨Nat.zero_le _, fun j hj => absurd hj (Nat.not_lt_zero _)⟩ ⟨rfl, rfl, rfl, trivial⟩ (fun _ h => h.last rfl) ?_
      rintro i ⟨hi, hall⟩
      refine gO_ ?_
      refine wc_cond rfl (fun h3 => ?_) (fun h3 => ?_)
      · have h3' : i < c.rf.length := by rw [dc_true] at h3; omega
        have h3e : i < t.evs.length := by omega
        refine gO_ ?_
        refine wc_cond rfl (fun h4 => ?_) (fun h4 => ?_)
        · rw [dc_true] at h4
          refine gO_ ?_
          exact po_loop (i + 1) ⟨by omega, seenT hall (by unfold rdb; rw [decide_eq_true h4]; rfl)⟩ (by omega) ⟨rfl, rfl, rfl, trivial⟩ (fun _ h => h.last rfl)
        · rw [dc_false] at h4
          have hr4 : rdb t c i = (decide ((t.evs.getD i default).dir = 1) && decide (c.rf.getD i default ∈ wr t (t.evs.getD i default).loc)) := by unfold rdb; rw [decide_eq_false h4]; rfl
          refine gO_ ?_
          by_cases h5 : (t.evs.getD i default).dir = 1
          · have hg5 : (!dc ((t.evs.getD i default).dir = 1)) = false := by rw [dc_eq, decide_eq_true h5]; rfl
            have hgt : (!(!dc ((t.evs.getD i default).dir = 1))) = true := by rw [hg5]; rfl
            refine wc_draw [0, 1, 2, 3, 4, 5, 6, 7, 8, 9, 10, 11, 12, 13, 14, 16, 17, 18, 19, 20, 15, 21, 22, 23] mixed ?_
            refine kG_ ?_
            refine kg_gyes _ (hb := hg5) (h := fx_call (hxs := .cons ⟨_, rfl, fun _ => hgt⟩ (.cons ⟨_, rfl, fun _ => hgt⟩ .nil)) (spec := fun w' hw => rwrites_spec (t.evs.getD i default).loc w' (h.now hw (.head _)) hb) (next := ?_)) (hSS := fun _ h => h)
            rintro v n2 w2 hv hn2
            refine kp_S ?_ (fun _ h => h.tailB)
            refine kG_ ?_
            refine kg_gyes _ (hb := hg5) (h := fx_call (hxs := .cons ⟨_, rfl, fun _ => rfl⟩ (.cons ⟨_, rfl, fun _ => hgt⟩ .nil)) (spec := fun w' hw => rin_spec v (c.rf.getD i default) (wr t (t.evs.getD i default).loc) w' (hw.now hv (.head _))) (next := ?_)) (hSS := fun _ h => h)
            rintro v3 n3 w3 rfl hn3
            refine kp_S ?_ (fun _ h => h.tailB.tailB)
            refine kG_ ?_
            refine gO_ ?_
            refine wc_cond rfl (fun h6 => ?_) (fun h6 => ?_)
            · rw [hg5, Bool.false_or, Bool.not_eq_true'] at h6
              refine gO_ ?_
              refine pur_ret Try.results14 (.tmp rfl .nil) (.tail _ (.tail _ (.head _))) fun w' hw => bad ?_ rfl
              rw [Bool.eq_false_iff]
              intro hcb
              have := ((candB_iff t c).1 hcb).2.2.1 i h3e
              rw [hr4, h6, Bool.and_false] at this
              cases this
            · rw [hg5, Bool.false_or, Bool.not_eq_false'] at h6
              refine gO_ ?_
              exact po_loop (i + 1) ⟨by omega, seenT hall (by rw [hr4, decide_eq_true h5, h6]; rfl)⟩ (by omega) ⟨rfl, rfl, rfl, trivial⟩ (fun _ h => h.last rfl)
          · have hg5 : (!dc ((t.evs.getD i default).dir = 1)) = true := by rw [dc_eq, decide_eq_false h5]; rfl
            refine wc_draw [0, 1, 2, 3, 4, 5, 6, 7, 8, 9, 10, 11, 12, 13, 14, 16, 17, 18, 19, 20, 15, 21, 22, 23] mixed ?_
            refine kG_ ?_
            refine kg_gx (u := .slice none 0 0) (h := gx_no (by rw [hg5]; rfl)) (next := ?_)
            refine kG_ ?_
            refine kg_gx (u := .bool true) (h := gx_no (by rw [hg5]; rfl)) (next := ?_)
            refine kG_ ?_
            refine gO_ ?_
            refine wc_cond rfl (fun h6 => ?_) (fun h6 => ?_)
            · refine gO_ ?_
              refine pur_ret Try.results14 (.tmp rfl .nil) (.head _) fun w' hw => bad ?_ rfl
              rw [Bool.eq_false_iff]
              intro hcb
              have := ((candB_iff t c).1 hcb).2.2.1 i h3e
              rw [hr4, decide_eq_false h5, Bool.false_and] at this
              cases this
            · rw [hg5, Bool.true_or] at h6; cases h6
      · have hin : i = c.rf.length := by rw [dc_false] at h3; omega
        refine gO_ ?_
        refine wc_loop (fun k : Nat => k ≤ c.co.length ∧ ∀ j, j < k → wrb t c j = true) (fun s => [(6, true, .int .i64 s), (3, true, .pointer (some ⟨bc, 0, none⟩)), (2, true, .pointer (some ⟨bt, 0, none⟩))])
          (fun s => Mem [(w, All)] [.box bc [fv, ov] 33, .box bt [lv, iv, ev, bv, av, dv, cv, tv, nv] 30]) (fun s => c.co.length - s) (0) ⟨Nat.zero_le _, fun j hj => absurd hj (Nat.not_lt_zero _)⟩ ⟨rfl, rfl, rfl, trivial⟩ (fun _ h => h.last rfl) ?_
        rintro k ⟨hk, hallk⟩
        refine gO_ ?_
        refine wc_cond rfl (fun h6 => ?_) (fun h6 => ?_)
        · have h6' : k < c.co.length := by rw [dc_true] at h6; omega
          have hok := hoi k h6'
          refine gO_ ?_
          refine wl_fx (fx_call (spec := fun w' hw => rwrites_spec (k : Int) w' (h.now hw (.head _)) hb) (next := ?_))
          rintro v n4 w4 hv hn4
          have hwl : (wr t (k : Int)).length ≤ t.evs.length := wrTo_le t _ _
          have hokl := hok.le
          refine gO_ ?_
          refine wc_cond rfl (fun h7 => ?_) (fun h7 => ?_)
          · refine gO_ ?_
            refine pur_ret Try.results14 (.tmp rfl .nil) (.tail _ (.head _)) fun w' hw => bad ?_ rfl
            rw [Bool.not_eq_true', dc_false] at h7
            rw [Bool.eq_false_iff]
            intro hcb
            have := ((candB_iff t c).1 hcb).2.2.2 k (by omega)
            simp only [wrb, Bool.and_eq_true, decide_eq_true_eq] at this
            omega
          · rw [Bool.not_eq_false', dc_true] at h7
            refine gO_ ?_
            refine wc_loop (fun q : Nat => q ≤ (wr t (k : Int)).length ∧ ∀ j, j < q → wrq t c k j = true) (fun s => [(8, true, .int .i64 s), (7, true, v), (6, true, .int .i64 k), (3, true, .pointer (some ⟨bc, 0, none⟩)), (2, true, .pointer (some ⟨bt, 0, none⟩))])
              (fun s => Mem [(w4, Fr n4), (w, All)] [.box bc [fv, ov] 33, .box bt [lv, iv, ev, bv, av, dv, cv, tv, nv] 30]) (fun s => (wr t (k : Int)).length - s) (0) ⟨Nat.zero_le _, fun j hj => absurd hj (Nat.not_lt_zero _)⟩ ⟨rfl, rfl, rfl, rfl, rfl, trivial⟩ (fun _ h => h) ?_
            rintro q ⟨hq, hallq⟩
            refine gO_ ?_
            refine wc_cond rfl (fun h8 => ?_) (fun h8 => ?_)
            · have h8' : q < (wr t (k : Int)).length := by rw [dc_true] at h8; omega
              refine gO_ ?_
              refine wc_draw [0, 1, 2, 3, 4, 5, 6, 7, 8, 9, 10] mixed ?_
              refine kG_ ?_
              refine kg_f _ (h := fx_call (spec := fun w' hw => rin_spec (ovs.getD k default) ((wr t (k : Int)).getD q default) (c.co.getD k default) w' (hw.now hok (.tail _ (.head _)))) (next := ?_)) (hSS := fun _ h => h)
              rintro v5 n5 w5 rfl hn5
              refine kp_S ?_ (fun _ h => h.tailB)
              refine kG_ ?_
              refine gO_ ?_
              refine wc_cond rfl (fun h9 => ?_) (fun h9 => ?_)
              · rw [Bool.not_eq_true'] at h9
                refine gO_ ?_
                refine pur_ret Try.results14 (.tmp rfl .nil) (.tail _ (.tail _ (.head _))) fun w' hw => bad ?_ rfl
                rw [Bool.eq_false_iff]
                intro hcb
                have := ((candB_iff t c).1 hcb).2.2.2 k (by omega)
                simp only [wrb, Bool.and_eq_true, all_range] at this
                exact absurd (this.2 q h8') (by rw [show wrq t c k q = false from h9]; simp)
              · rw [Bool.not_eq_false'] at h9
                refine gO_ ?_
                exact po_loop (q + 1) ⟨by omega, seenT hallq h9⟩ (by omega) ⟨rfl, rfl, rfl, rfl, rfl, trivial⟩ (fun _ h => h.tailB)
            · have hqn : q = (wr t (k : Int)).length := by rw [dc_false] at h8; omega
              refine gO_ ?_
              refine po_loop (k + 1) ⟨by omega, seenT hallk ?_⟩ (by omega) ⟨rfl, rfl, rfl, trivial⟩ (fun _ h => h.last rfl)
              unfold wrb
              rw [decide_eq_true (by omega), all_range.2 (fun j hj => hallq j (by omega))]; rfl
        · have hkn : k = c.co.length := by rw [dc_false] at h6; omega
          refine gO_ ?_
          refine pur_ret Try.results14 (.tmp rfl .nil) (.head _) fun w' hw => ?_
          have hcb : candB t c = true := (candB_iff t c).2 ⟨hl1, hl2, fun j hj => hall j (by omega), fun j hj => hallk j (by omega)⟩
          unfold cdE; rw [h1, hcb]; rfl
end Go.Proofs.Ytdpcdbepeemflaa
end
