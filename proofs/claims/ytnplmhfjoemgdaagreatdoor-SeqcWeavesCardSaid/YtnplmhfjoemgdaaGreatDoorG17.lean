import Derived.Test.YtnplmhfjoemgdaaGreatDoorG16
import Derived.Test.YtnplmhfjoemgdaaGreatDoorG14
set_option linter.unusedSimpArgs false
set_option linter.unusedVariables false
set_option linter.unusedSectionVars false
section
/- The walk: alembicref17.Of (printed by gen_rof.py). -/
namespace Go.Vw
open Go Go.Eng Go.Tc Go.Rl
/-- the document's -/
def rrfP (t : Tr) (c : Cd) (i j : Nat) : Bool := lcB t i j && (decide ((evi t j).dir = 1) && decide (c.rf.getD j default = (i : Int)))
def rcoP (t : Tr) (c : Cd) (i j : Nat) : Bool := lcB t i j && ((decide ((evi t i).dir = 2) && decide ((evi t j).dir = 2)) && bfB (col t c i) i j)
def rfrP (t : Tr) (c : Cd) (i j : Nat) : Bool := lcB t i j && ((decide ((evi t i).dir = 1) && decide ((evi t j).dir = 2)) && (decide (c.rf.getD i default = -1) || bfB (col t c i) (c.rf.getD i default) j))
section
variable {t : Tr} {c : Cd} (ht : trOk t = true) (hc : candB t c = true)
include ht hc
theorem rrf_eq {i j : Nat} (hi : i < t.evs.length) (hj : j < t.evs.length) : rrfP t c i j = rfP t c i j := by
  rw [Bool.eq_iff_iff]
  simp only [rrfP, rfP, lcB, Bool.and_eq_true, decide_eq_true_eq]
  constructor
  · exact fun h => h.2
  · rintro ⟨h1, h2⟩
    refine ⟨?_, h1, h2⟩
    rcases rf_fact hc hj with h | ⟨_, h⟩
    · omega
    · obtain ⟨i', _, e, _, hl⟩ := mem_wr.1 h
      obtain rfl : i = i' := by omega
      exact hl
theorem col_nodup {i : Nat} (hi : i < t.evs.length) : (col t c i).Nodup := by
  obtain ⟨k, hk, hkl⟩ := loc_nat ht hi
  rw [col_eq hk]; exact co_nodup hc hkl
theorem mem_col {i : Nat} (hi : i < t.evs.length) {x : Int} : x ∈ col t c i ↔ ∃ j : Nat, j < t.evs.length ∧ x = j ∧ (evi t j).dir = 2 ∧ (evi t j).loc = (evi t i).loc := by
  obtain ⟨k, hk, hkl⟩ := loc_nat ht hi
  rw [col_eq hk, co_mem hc hkl, hk]
theorem bf_ah {i : Nat} (hi : i < t.evs.length) (v u : Int) : bfB (col t c i) v u = ahP (col t c i) v u := by
  unfold bfB ahP
  rw [lastI_nodup (col_nodup ht hc hi), lastI_nodup (col_nodup ht hc hi)]
theorem rco_eq {i j : Nat} (hi : i < t.evs.length) (hj : j < t.evs.length) : rcoP t c i j = coP t c i j := by
  unfold rcoP coP
  rw [bf_ah ht hc hi, Bool.eq_iff_iff]
  simp only [lcB, Bool.and_eq_true, decide_eq_true_eq]
  constructor
  · exact fun h => h.2.2
  · intro h
    have h' := h
    simp only [ahP, Bool.and_eq_true, decide_eq_true_eq] at h'
    obtain ⟨i', _, e1, d1, l1⟩ := (mem_col ht hc hi).1 ((ixI_nonneg _ _).1 h'.1)
    obtain ⟨j', _, e2, d2, l2⟩ := (mem_col ht hc hi).1 ((ixI_nonneg (col t c i) (j : Int)).1 (by omega))
    obtain rfl : i = i' := by omega
    obtain rfl : j = j' := by omega
    exact ⟨l2.symm, ⟨d1, d2⟩, h⟩
theorem rfr_eq {i j : Nat} (hi : i < t.evs.length) (hj : j < t.evs.length) : rfrP t c i j = frP t c i j := by
  unfold rfrP frP
  rw [bf_ah ht hc hi, Bool.eq_iff_iff]
  simp only [lcB, ahP, Bool.and_eq_true, Bool.or_eq_true, decide_eq_true_eq]
  have hm1 : ¬ (-1 : Int) ∈ col t c i := fun hm => by obtain ⟨j', _, e, _⟩ := (mem_col ht hc hi).1 hm; omega
  constructor
  · rintro ⟨h1, ⟨h2, h3⟩, h4⟩
    refine ⟨h2, ?_⟩
    rcases h4 with h4 | h4
    · have hmj : (j : Int) ∈ col t c i := (mem_col ht hc hi).2 ⟨j, hj, rfl, h3, h1.symm⟩
      have := (ixI_nonneg _ _).2 hmj
      rw [h4, show ixI (col t c i) (-1) = -1 from if_neg hm1]; omega
    · exact h4.2
  · rintro ⟨h1, h2⟩
    obtain ⟨j', _, e2, d2, l2⟩ := fr_in ht hc hi h2
    obtain rfl : j = j' := by omega
    refine ⟨l2.symm, ⟨h1, d2⟩, ?_⟩
    rcases rf_fact hc hi with h | ⟨_, h⟩
    · exact .inl h
    · refine .inr ⟨(ixI_nonneg _ _).2 ((mem_col ht hc hi).2 ?_), h2⟩
      obtain ⟨r, h5, h6, h7, h8⟩ := mem_wr.1 h
      exact ⟨r, h5, h6, h7, h8⟩
end
end Go.Vw
namespace Go.Proofs.YtnplmhfjoemgdaaGreatDoor
open Go Go.Eng Go.Tc Go.Rl Go.Vw
attribute [local irreducible] wpList Code.wp bodyPost Exit.then Exit.inBlock Calls

theorem runion_ok {m : Nat} {sa sb : Value} {a b : List W} {w : World} (oa : relOk m a = true) (ob : relOk m b = true) (ha : Sl All w encW 1 sa a) (hb : Sl All w encW 1 sb b) :
    Mk Tryz.prog 101 [.agg #[.int .i64 m, sa], .agg #[.int .i64 m, sb]] w (RelΨ m (uni m a b) 0) := by
  have := runion_all m sa a m sb b w ha hb
  unfold mixS at this; rw [erTwo_ok oa ob] at this; exact this

set_option maxHeartbeats 16000000 in
theorem rvof_spec {lv iv ev bv av dv cv tv nv : Value} {t : Tr} (fv ov : Value) (c : Cd) (w : World) (h : TrIn All w lv iv ev bv av dv cv tv nv t) (hc : CdIn All w fv ov c) :
    Mk Tryz.prog 55 [.agg #[lv, iv, ev, bv, av, dv, cv, tv, nv], .agg #[fv, ov]] w (VwΨ (vwOf t c) (cdE t c)) := by
  have hfs := hc.rf.sv
  have hcc := hc
  obtain ⟨ovs, hov, hol, hoi⟩ := hc.co
  have hos := hov.sv
  have hF := hc.rf
  have hFl := hF.le; have hovl := hov.le
  have hE := h.evs; have hEl := hE.le
  refine enter_mk Tryz.func55 Tryz.ntmps55 rfl rfl ?_
  refine gO_ ?_
  refine wl_fx (fx_box (next := ?_)); intro bT
  refine gO_ ?_
  refine wl_fx (fx_box (next := ?_)); intro bC
  refine gO_ ?_
  refine wl_fx (fx_alloc (next := ?_)); intro b4
  refine gO_ ?_
  refine wl_fx (fx_call (spec := fun w' hw => rCheck_spec fv ov c w' (h.now hw (.head _)) (hc.now hw (.head _))) (next := ?_))
  rintro v n1 w1 rfl hn1
  refine gO_ ?_
  refine wc_cond rfl (fun h1 => ?_) (fun h1 => ?_)
  · rw [Bool.not_eq_true', dc_false] at h1
    refine gO_ ?_
    refine wl_fx (fx_store_box (i := 0) (hi := rfl) (next := ?_))
    refine gO_ ?_
    refine kp_nil 68 1 encW ?_
    refine kp_nil 68 1 encW ?_
    refine kp_nil 68 1 encW ?_
    refine kp_nil 68 1 encW ?_
    refine kp_nil 68 1 encW ?_
    refine kp_nil 68 1 encW ?_
    refine kp_nil 68 1 encW ?_
    refine kp_nil 68 1 encW ?_
    refine kp_nil 68 1 encW ?_
    refine mk_ret Tryz.results55 (.cellN inferInstance rfl (.tail _ (.tail _ (.tail _ (.tail _ (.tail _ (.tail _ (.tail _ (.tail _ (.tail _ (.head _)))))))))) rfl (.tmp rfl .nil)) (.tail _ (.head _)) [_, _, _, _, _, _, _, _, _] [0, 1, 2, 3, 4, 5, 6, 7, 8] rfl (by decide) fun w' hw => ?_
    unfold vwOf
    rw [if_neg h1]
    exact ⟨_, _, _, _, _, _, _, _, _, ⟨sv_nil, sv_nil, sv_nil, sv_nil, sv_nil, sv_nil, sv_nil, sv_nil, sv_nil⟩, rfl, rfl⟩
  · rw [Bool.not_eq_false', dc_true] at h1
    obtain ⟨ht, hcb⟩ := cdE_ok h1
    obtain ⟨hb, hlb⟩ := trOk_lens ht
    obtain ⟨hrl, hcl, _, _⟩ := (candB_iff t c).1 hcb
    have htn : trN t = t.evs.length := if_pos ht
    have htr : trR t (poP t) = relOf t.evs.length (poP t) := if_pos ht
    have hpo := relOk_relOf t.evs.length (poP t) hb
    refine gO_ ?_
    refine wl_fx (fx_alloc (next := ?_)); intro b8
    refine gO_ ?_
    refine wl_fx (fx_call_mk (spec := fun w' hw => rtpo_spec w' (h.now hw (.tail _ (.head _)))) (next := ?_))
    rintro v n2 es w2 ⟨s1, hs1, rfl, rfl⟩
    rw [htn, htr]
    refine gO_ ?_
    refine wl_fx (fx_alloc (next := ?_)); intro bpo
    refine gO_ ?_
    refine wl_fx (fx_store_box (i := 0) (hi := rfl) (next := ?_))
    refine gO_ ?_
    refine wl_fx (fx_store_box (i := 2) (hi := rfl) (next := ?_))
    refine gO_ ?_
    refine wl_fx (fx_call_mk (spec := fun w' hw => none_own t.evs.length w' hb) (next := ?_))
    rintro v n3 es w3 ⟨s2, hs2, rfl, rfl⟩
    rw [upTo_zero _ (plP t)]
    refine gO_ ?_
    refine wl_fx (fx_store_box (i := 3) (hi := rfl) (next := ?_))
    refine gO_ ?_
    refine wl_fx (fx_call_mk (spec := fun w' hw => none_own t.evs.length w' hb) (next := ?_))
    rintro v n4 es w4 ⟨s3, hs3, rfl, rfl⟩
    rw [upTo_zero _ (rrfP t c)]
    refine gO_ ?_
    refine wl_fx (fx_store_box (i := 4) (hi := rfl) (next := ?_))
    refine gO_ ?_
    refine wl_fx (fx_call_mk (spec := fun w' hw => none_own t.evs.length w' hb) (next := ?_))
    rintro v n5 es w5 ⟨s5, hs5, rfl, rfl⟩
    rw [upTo_zero _ (rcoP t c)]
    refine gO_ ?_
    refine wl_fx (fx_store_box (i := 5) (hi := rfl) (next := ?_))
    refine gO_ ?_
    refine wl_fx (fx_call_mk (spec := fun w' hw => none_own t.evs.length w' hb) (next := ?_))
    rintro v n6 es w6 ⟨s7, hs7, rfl, rfl⟩
    rw [upTo_zero _ (rfrP t c)]
    refine gO_ ?_
    refine wl_fx (fx_store_box (i := 6) (hi := rfl) (next := ?_))
    refine gO_ ?_
    refine wc_loop (fun i : Nat => i ≤ t.evs.length) (fun s => [(11, true, .int .i64 s), (8, true, .pointer (some ⟨b8, 0, none⟩)), (7, true, .int .i64 t.evs.length), (4, true, .pointer (some ⟨b4, 0, none⟩)), (3, true, .pointer (some ⟨bC, 0, none⟩)), (2, true, .pointer (some ⟨bT, 0, none⟩))])
      (fun s => Mem [(w, All)] [.box b8 [.int .i64 t.evs.length, s1, .int .i64 t.evs.length, s2, .int .i64 t.evs.length, s3, .int .i64 0, .slice none 0 0, .int .i64 t.evs.length, s5, .int .i64 0, .slice none 0 0, .int .i64 t.evs.length, s7, .int .i64 0, .slice none 0 0, .int .i64 0, .slice none 0 0] 78, ownW s1 (relOf t.evs.length (poP t)), ownW s2 (relOf t.evs.length (upTo (plP t) s)), ownW s3 (relOf t.evs.length (upTo (rrfP t c) s)), ownW s5 (relOf t.evs.length (upTo (rcoP t c) s)), ownW s7 (relOf t.evs.length (upTo (rfrP t c) s)), .box b4 [.int .i64 0, .slice none 0 0, .int .i64 0, .slice none 0 0, .int .i64 0, .slice none 0 0, .int .i64 0, .slice none 0 0, .int .i64 0, .slice none 0 0, .int .i64 0, .slice none 0 0, .int .i64 0, .slice none 0 0, .int .i64 0, .slice none 0 0, .int .i64 0, .slice none 0 0] 78, .box bC [fv, ov] 42, .box bT [lv, iv, ev, bv, av, dv, cv, tv, nv] 30]) (fun s => t.evs.length - s) 0 (Nat.zero_le _) ⟨rfl, rfl, rfl, rfl, rfl, rfl, trivial⟩ (fun _ h => (h.last rfl).sel [6, 5, 3, 2, 1, 0, 7, 8, 9] rfl (by decide)) ?_
    intro i hi
    refine gO_ ?_
    refine wc_cond rfl (fun h2 => ?_) (fun h2 => ?_)
    · have h2' : i < t.evs.length := by rw [dc_true] at h2; omega
      obtain ⟨p, hp, hpl⟩ := loc_nat ht h2'
      have hcp := col_eq (c := c) hp
      have hp2 : (t.evs.getD i default).loc = (p : Int) := hp
      refine gO_ ?_
      refine wc_loop (fun j : Nat => j ≤ t.evs.length) (fun s => [(12, true, .int .i64 s), (11, true, .int .i64 i), (8, true, .pointer (some ⟨b8, 0, none⟩)), (7, true, .int .i64 t.evs.length), (4, true, .pointer (some ⟨b4, 0, none⟩)), (3, true, .pointer (some ⟨bC, 0, none⟩)), (2, true, .pointer (some ⟨bT, 0, none⟩))])
        (fun s => Mem [(w, All)] [.box b8 [.int .i64 t.evs.length, s1, .int .i64 t.evs.length, s2, .int .i64 t.evs.length, s3, .int .i64 0, .slice none 0 0, .int .i64 t.evs.length, s5, .int .i64 0, .slice none 0 0, .int .i64 t.evs.length, s7, .int .i64 0, .slice none 0 0, .int .i64 0, .slice none 0 0] 78, ownW s1 (relOf t.evs.length (poP t)), ownW s2 (relOf t.evs.length (upTo2 (plP t) i s)), ownW s3 (relOf t.evs.length (upTo2 (rrfP t c) i s)), ownW s5 (relOf t.evs.length (upTo2 (rcoP t c) i s)), ownW s7 (relOf t.evs.length (upTo2 (rfrP t c) i s)), .box b4 [.int .i64 0, .slice none 0 0, .int .i64 0, .slice none 0 0, .int .i64 0, .slice none 0 0, .int .i64 0, .slice none 0 0, .int .i64 0, .slice none 0 0, .int .i64 0, .slice none 0 0, .int .i64 0, .slice none 0 0, .int .i64 0, .slice none 0 0, .int .i64 0, .slice none 0 0] 78, .box bC [fv, ov] 42, .box bT [lv, iv, ev, bv, av, dv, cv, tv, nv] 30]) (fun s => t.evs.length - s) 0 (Nat.zero_le _) ⟨rfl, rfl, rfl, rfl, rfl, rfl, rfl, trivial⟩ (fun _ h => by rw [← upTo2_zero, ← upTo2_zero, ← upTo2_zero, ← upTo2_zero]; exact h) ?_
      intro j hj
      refine gO_ ?_
      refine wc_cond rfl (fun h3 => ?_) (fun h3 => ?_)
      · have h3' : j < t.evs.length := by rw [dc_true] at h3; omega
        refine gO_ ?_
        refine wc_cutA (fun s : Nat × Nat => True) (fun s => [(14, true, .pointer (some ⟨s.2, 0, none⟩)), (13, true, .pointer (some ⟨s.1, 0, none⟩)), (12, true, .int .i64 j), (11, true, .int .i64 i), (8, true, .pointer (some ⟨b8, 0, none⟩)), (7, true, .int .i64 t.evs.length), (4, true, .pointer (some ⟨b4, 0, none⟩)), (3, true, .pointer (some ⟨bC, 0, none⟩)), (2, true, .pointer (some ⟨bT, 0, none⟩))])
          (fun s => Mem [(w, All)] [.box s.2 (encEv (evi t j)) 49, .box s.1 (encEv (evi t i)) 49, .box b8 [.int .i64 t.evs.length, s1, .int .i64 t.evs.length, s2, .int .i64 t.evs.length, s3, .int .i64 0, .slice none 0 0, .int .i64 t.evs.length, s5, .int .i64 0, .slice none 0 0, .int .i64 t.evs.length, s7, .int .i64 0, .slice none 0 0, .int .i64 0, .slice none 0 0] 78, ownW s1 (relOf t.evs.length (poP t)), ownW s2 (relOf t.evs.length (upTo2 (plP t) i j)), ownW s3 (relOf t.evs.length (upTo2 (rrfP t c) i j)), ownW s5 (relOf t.evs.length (upTo2 (rcoP t c) i j)), ownW s7 (relOf t.evs.length (upTo2 (rfrP t c) i j)), .box b4 [.int .i64 0, .slice none 0 0, .int .i64 0, .slice none 0 0, .int .i64 0, .slice none 0 0, .int .i64 0, .slice none 0 0, .int .i64 0, .slice none 0 0, .int .i64 0, .slice none 0 0, .int .i64 0, .slice none 0 0, .int .i64 0, .slice none 0 0, .int .i64 0, .slice none 0 0] 78, .box bC [fv, ov] 42, .box bT [lv, iv, ev, bv, av, dv, cv, tv, nv] 30]) ?_ ?_
        · refine wc_drawS (Mem [(w, All)] [.box bT [lv, iv, ev, bv, av, dv, cv, tv, nv] 30]) [0, 1, 2, 3, 4, 5, 6, 7, 8, 9, 999] mixed (fun _ h => h.sel [8] rfl (by decide)) ?_
          refine kG_ ?_
          refine kg_br2 10 11 (h1 := ?_) (h2 := ?_)
          · refine ks_f [999] _ (hSS := fun _ h => h) (h := fx_alloc (next := ?_))
            intro bx
            refine kp_S ?_ (fun _ h => h.sel [9] rfl (by decide))
            refine kg_br1 11 (h1 := ?_)
            refine ks_f [12, 13] _ (hSS := fun _ h => h) (h := fx_alloc (next := ?_))
            intro by'
            refine kp_S ?_ (fun _ h => h.sel [10] rfl (by decide))
            refine kg_f _ (h := fx_store_box (i := 1) (hi := rfl) (next := ?_)) (hSS := fun _ h => h)
            refine kp_S ?_ (fun _ h => h.sel [10] rfl (by decide))
            refine kg_z (h := fx_store_box (i := 0) (hi := rfl) (next := ?_))
            exact po_cut (bx, by') trivial ⟨rfl, rfl, rfl, rfl, rfl, rfl, rfl, rfl, rfl, trivial⟩ (fun _ h => h.sel [0, 1, 2, 3, 4, 5, 6, 7, 8, 9, 10] rfl (by decide))
          · refine ks_f [999] _ (hSS := fun _ h => h) (h := fx_alloc (next := ?_))
            intro by'
            refine kp_S ?_ (fun _ h => h.sel [9] rfl (by decide))
            refine kg_br1 10 (h1 := ?_)
            refine ks_f [12, 13] _ (hSS := fun _ h => h) (h := fx_alloc (next := ?_))
            intro bx
            refine kp_S ?_ (fun _ h => h.sel [10] rfl (by decide))
            refine kg_f _ (h := fx_store_box (i := 0) (hi := rfl) (next := ?_)) (hSS := fun _ h => h)
            refine kp_S ?_ (fun _ h => h.sel [10] rfl (by decide))
            refine kg_z (h := fx_store_box (i := 1) (hi := rfl) (next := ?_))
            exact po_cut (bx, by') trivial ⟨rfl, rfl, rfl, rfl, rfl, rfl, rfl, rfl, rfl, trivial⟩ (fun _ h => h.sel [1, 0, 2, 3, 4, 5, 6, 7, 8, 9, 10] rfl (by decide))

        rintro ⟨bx, by'⟩ -
        dsimp only
        refine gO_ ?_
        refine wc_cond rfl (fun h4 => ?_) (fun h4 => ?_)
        · rw [Bool.not_eq_true', dc_false] at h4
          have hq : lcB t i j = false := decide_eq_false h4
          have q1 : plP t i j = false := by unfold plP; rw [hq, Bool.and_false]
          have q2 : rrfP t c i j = false := by unfold rrfP; rw [hq]; rfl
          have q3 : rcoP t c i j = false := by unfold rcoP; rw [hq]; rfl
          have q4 : rfrP t c i j = false := by unfold rfrP; rw [hq]; rfl
          refine gO_ ?_
          exact po_loop (j + 1) (by omega) (by omega) ⟨rfl, rfl, rfl, rfl, rfl, rfl, rfl, trivial⟩ (fun _ h => by rw [← upTo2_skip _ (plP t) i j q1, ← upTo2_skip _ (rrfP t c) i j q2, ← upTo2_skip _ (rcoP t c) i j q3, ← upTo2_skip _ (rfrP t c) i j q4]; exact h.tail.tail)
        · rw [Bool.not_eq_false', dc_true] at h4
          have hq : lcB t i j = true := decide_eq_true h4
          have q1 : poP t i j = plP t i j := by unfold plP; rw [hq, Bool.and_true]
          have q2 : (dc ((evi t j).dir = 1) && dc (c.rf.getD j default = (i : Int))) = rrfP t c i j := by unfold rrfP; rw [hq, Bool.true_and, dc_eq, dc_eq]
          have q3 : ((dc ((evi t i).dir = 2) && dc ((evi t j).dir = 2)) && bfB (c.co.getD p default) i j) = rcoP t c i j := by unfold rcoP; rw [hq, Bool.true_and, dc_eq, dc_eq, hcp]
          have q4 : ((dc ((evi t i).dir = 1) && dc ((evi t j).dir = 2)) && (dc (c.rf.getD i default = -1) || bfB (c.co.getD p default) (c.rf.getD i default) j)) = rfrP t c i j := by unfold rfrP; rw [hq, Bool.true_and, dc_eq, dc_eq, dc_eq, hcp]
          refine gO_ ?_
          refine wl_fx (fx_call (spec := fun w' hw => rhas_spec t.evs.length s1 (relOf t.evs.length (poP t)) i j w' (hw.lend (.tail _ (.tail _ (.tail _ (.head _)))))) (next := ?_))
          rintro v n7 w7 rfl hn7
          rw [has_bt hpo h2' h3', relOf_bt _ _ hb i j h2' h3', q1]
          refine gO_ ?_
          refine wc_cutA (fun s : Unit => True) (fun s => [(14, true, .pointer (some ⟨by', 0, none⟩)), (13, true, .pointer (some ⟨bx, 0, none⟩)), (12, true, .int .i64 j), (11, true, .int .i64 i), (8, true, .pointer (some ⟨b8, 0, none⟩)), (7, true, .int .i64 t.evs.length), (4, true, .pointer (some ⟨b4, 0, none⟩)), (3, true, .pointer (some ⟨bC, 0, none⟩)), (2, true, .pointer (some ⟨bT, 0, none⟩))]) (fun s => Mem [(w, All)] [.box by' (encEv (evi t j)) 49, .box bx (encEv (evi t i)) 49, .box b8 [.int .i64 t.evs.length, s1, .int .i64 t.evs.length, s2, .int .i64 t.evs.length, s3, .int .i64 0, .slice none 0 0, .int .i64 t.evs.length, s5, .int .i64 0, .slice none 0 0, .int .i64 t.evs.length, s7, .int .i64 0, .slice none 0 0, .int .i64 0, .slice none 0 0] 78, ownW s1 (relOf t.evs.length (poP t)), ownW s2 (relOf t.evs.length (upTo2 (plP t) i (j + 1))), ownW s3 (relOf t.evs.length (upTo2 (rrfP t c) i j)), ownW s5 (relOf t.evs.length (upTo2 (rcoP t c) i j)), ownW s7 (relOf t.evs.length (upTo2 (rfrP t c) i j)), .box b4 [.int .i64 0, .slice none 0 0, .int .i64 0, .slice none 0 0, .int .i64 0, .slice none 0 0, .int .i64 0, .slice none 0 0, .int .i64 0, .slice none 0 0, .int .i64 0, .slice none 0 0, .int .i64 0, .slice none 0 0, .int .i64 0, .slice none 0 0, .int .i64 0, .slice none 0 0] 78, .box bC [fv, ov] 42, .box bT [lv, iv, ev, bv, av, dv, cv, tv, nv] 30]) ?_ ?_
          · refine wc_cond rfl (fun h5 => ?_) (fun h5 => ?_)
            · skip
              refine gO_ ?_
              refine wl_fx (fx_call_mu 4 rfl (spec := fun w' hw => with_spec _ s2 _ i j w' (by rw [relOf_length]; omega) (by omega) hs2 (hw.only (.tail _ (.tail _ (.tail _ (.tail _ (.head _))))))) (next := ?_))
              rintro v n8 e' w8 ⟨rfl, rfl⟩
              rw [upTo2_put _ _ hb i j h2' h3' h5]
              refine gO_ ?_
              refine wl_fx (fx_store_box (i := 2) (hi := rfl) (next := ?_))
              refine gO_ ?_
              exact po_cut () trivial ⟨rfl, rfl, rfl, rfl, rfl, rfl, rfl, rfl, rfl, trivial⟩ (fun _ h => h.last rfl)
            · skip
              refine gO_ ?_
              exact po_cut () trivial ⟨rfl, rfl, rfl, rfl, rfl, rfl, rfl, rfl, rfl, trivial⟩ (fun _ h => by rw [← upTo2_skip _ (plP t) i j h5]; exact h.last rfl)
          rintro ⟨⟩ -
          refine gO_ ?_
          refine wc_cutA (fun s : Unit => True) (fun s => [(14, true, .pointer (some ⟨by', 0, none⟩)), (13, true, .pointer (some ⟨bx, 0, none⟩)), (12, true, .int .i64 j), (11, true, .int .i64 i), (8, true, .pointer (some ⟨b8, 0, none⟩)), (7, true, .int .i64 t.evs.length), (4, true, .pointer (some ⟨b4, 0, none⟩)), (3, true, .pointer (some ⟨bC, 0, none⟩)), (2, true, .pointer (some ⟨bT, 0, none⟩))]) (fun s => Mem [(w, All)] [.box by' (encEv (evi t j)) 49, .box bx (encEv (evi t i)) 49, .box b8 [.int .i64 t.evs.length, s1, .int .i64 t.evs.length, s2, .int .i64 t.evs.length, s3, .int .i64 0, .slice none 0 0, .int .i64 t.evs.length, s5, .int .i64 0, .slice none 0 0, .int .i64 t.evs.length, s7, .int .i64 0, .slice none 0 0, .int .i64 0, .slice none 0 0] 78, ownW s1 (relOf t.evs.length (poP t)), ownW s2 (relOf t.evs.length (upTo2 (plP t) i (j + 1))), ownW s3 (relOf t.evs.length (upTo2 (rrfP t c) i (j + 1))), ownW s5 (relOf t.evs.length (upTo2 (rcoP t c) i j)), ownW s7 (relOf t.evs.length (upTo2 (rfrP t c) i j)), .box b4 [.int .i64 0, .slice none 0 0, .int .i64 0, .slice none 0 0, .int .i64 0, .slice none 0 0, .int .i64 0, .slice none 0 0, .int .i64 0, .slice none 0 0, .int .i64 0, .slice none 0 0, .int .i64 0, .slice none 0 0, .int .i64 0, .slice none 0 0, .int .i64 0, .slice none 0 0] 78, .box bC [fv, ov] 42, .box bT [lv, iv, ev, bv, av, dv, cv, tv, nv] 30]) ?_ ?_
          · refine wc_cond rfl (fun h5 => ?_) (fun h5 => ?_)
            · rw [q2] at h5
              refine gO_ ?_
              refine wl_fx (fx_call_mu 5 rfl (spec := fun w' hw => with_spec _ s3 _ i j w' (by rw [relOf_length]; omega) (by omega) hs3 (hw.only (.tail _ (.tail _ (.tail _ (.tail _ (.tail _ (.head _)))))))) (next := ?_))
              rintro v n8 e' w8 ⟨rfl, rfl⟩
              rw [upTo2_put _ _ hb i j h2' h3' h5]
              refine gO_ ?_
              refine wl_fx (fx_store_box (i := 2) (hi := rfl) (next := ?_))
              refine gO_ ?_
              exact po_cut () trivial ⟨rfl, rfl, rfl, rfl, rfl, rfl, rfl, rfl, rfl, trivial⟩ (fun _ h => h.last rfl)
            · rw [q2] at h5
              refine gO_ ?_
              exact po_cut () trivial ⟨rfl, rfl, rfl, rfl, rfl, rfl, rfl, rfl, rfl, trivial⟩ (fun _ h => by rw [← upTo2_skip _ (rrfP t c) i j h5]; exact h.last rfl)
          rintro ⟨⟩ -
          refine gO_ ?_
          rw [hp2]
          refine wl_gx (h := gx_call (spec := fun _ w' hw => cbefore_spec fv ov c p i j w' (hcc.now hw (.head _)) (by omega))) (next := ?_)
          refine gO_ ?_
          refine wc_cutA (fun s : Unit => True) (fun s => [(14, true, .pointer (some ⟨by', 0, none⟩)), (13, true, .pointer (some ⟨bx, 0, none⟩)), (12, true, .int .i64 j), (11, true, .int .i64 i), (8, true, .pointer (some ⟨b8, 0, none⟩)), (7, true, .int .i64 t.evs.length), (4, true, .pointer (some ⟨b4, 0, none⟩)), (3, true, .pointer (some ⟨bC, 0, none⟩)), (2, true, .pointer (some ⟨bT, 0, none⟩))]) (fun s => Mem [(w, All)] [.box by' (encEv (evi t j)) 49, .box bx (encEv (evi t i)) 49, .box b8 [.int .i64 t.evs.length, s1, .int .i64 t.evs.length, s2, .int .i64 t.evs.length, s3, .int .i64 0, .slice none 0 0, .int .i64 t.evs.length, s5, .int .i64 0, .slice none 0 0, .int .i64 t.evs.length, s7, .int .i64 0, .slice none 0 0, .int .i64 0, .slice none 0 0] 78, ownW s1 (relOf t.evs.length (poP t)), ownW s2 (relOf t.evs.length (upTo2 (plP t) i (j + 1))), ownW s3 (relOf t.evs.length (upTo2 (rrfP t c) i (j + 1))), ownW s5 (relOf t.evs.length (upTo2 (rcoP t c) i (j + 1))), ownW s7 (relOf t.evs.length (upTo2 (rfrP t c) i j)), .box b4 [.int .i64 0, .slice none 0 0, .int .i64 0, .slice none 0 0, .int .i64 0, .slice none 0 0, .int .i64 0, .slice none 0 0, .int .i64 0, .slice none 0 0, .int .i64 0, .slice none 0 0, .int .i64 0, .slice none 0 0, .int .i64 0, .slice none 0 0, .int .i64 0, .slice none 0 0] 78, .box bC [fv, ov] 42, .box bT [lv, iv, ev, bv, av, dv, cv, tv, nv] 30]) ?_ ?_
          · refine wc_cond rfl (fun h5 => ?_) (fun h5 => ?_)
            · rw [q3] at h5
              refine gO_ ?_
              refine wl_fx (fx_call_mu 6 rfl (spec := fun w' hw => with_spec _ s5 _ i j w' (by rw [relOf_length]; omega) (by omega) hs5 (hw.only (.tail _ (.tail _ (.tail _ (.tail _ (.tail _ (.tail _ (.head _))))))))) (next := ?_))
              rintro v n8 e' w8 ⟨rfl, rfl⟩
              rw [upTo2_put _ _ hb i j h2' h3' h5]
              refine gO_ ?_
              refine wl_fx (fx_store_box (i := 2) (hi := rfl) (next := ?_))
              refine gO_ ?_
              exact po_cut () trivial ⟨rfl, rfl, rfl, rfl, rfl, rfl, rfl, rfl, rfl, trivial⟩ (fun _ h => h.last rfl)
            · rw [q3] at h5
              refine gO_ ?_
              exact po_cut () trivial ⟨rfl, rfl, rfl, rfl, rfl, rfl, rfl, rfl, rfl, trivial⟩ (fun _ h => by rw [← upTo2_skip _ (rcoP t c) i j h5]; exact h.last rfl)
          rintro ⟨⟩ -
          refine gO_ ?_
          refine wc_draw [0, 1, 2, 3, 4, 5, 6, 7, 8, 9, 10, 11, 12, 13, 14, 15, 16, 17, 18, 19, 20, 21, 22, 23, 24, 25, 26, 27] mixed ?_
          refine kG_ ?_
          rw [hp2]
          refine kg_gx (h := gx_call (spec := fun _ w' hw => cbefore_spec fv ov c p (c.rf.getD i default) j w' (hcc.now hw (.head _)) (by omega))) (next := ?_)
          refine kG_ ?_
          refine gO_ ?_
          refine wc_cond rfl (fun h5 => ?_) (fun h5 => ?_)
          · rw [q4] at h5
            refine gO_ ?_
            refine wl_fx (fx_call_mu 7 rfl (spec := fun w' hw => with_spec _ s7 _ i j w' (by rw [relOf_length]; omega) (by omega) hs7 (hw.only (.tail _ (.tail _ (.tail _ (.tail _ (.tail _ (.tail _ (.tail _ (.head _)))))))))) (next := ?_))
            rintro v n8 e' w8 ⟨rfl, rfl⟩
            rw [upTo2_put _ _ hb i j h2' h3' h5]
            refine gO_ ?_
            refine wl_fx (fx_store_box (i := 2) (hi := rfl) (next := ?_))
            refine gO_ ?_
            exact po_loop (j + 1) (by omega) (by omega) ⟨rfl, rfl, rfl, rfl, rfl, rfl, rfl, trivial⟩ (fun _ h => (h.last rfl).tail.tail)
          · rw [q4] at h5
            refine gO_ ?_
            exact po_loop (j + 1) (by omega) (by omega) ⟨rfl, rfl, rfl, rfl, rfl, rfl, rfl, trivial⟩ (fun _ h => by rw [← upTo2_skip _ (rfrP t c) i j h5]; exact (h.last rfl).tail.tail)
      · have hjn : j = t.evs.length := by rw [dc_false] at h3; omega
        refine gO_ ?_
        exact po_loop (i + 1) (by omega) (by omega) ⟨rfl, rfl, rfl, rfl, rfl, rfl, trivial⟩ (fun _ h => by rw [hjn] at h; rw [← upTo2_all, ← upTo2_all, ← upTo2_all, ← upTo2_all]; exact h)
    · have hin : i = t.evs.length := by rw [dc_false] at h2; omega
      refine kp_mem (A' := Mem [(w, All)] [.box b8 [.int .i64 t.evs.length, s1, .int .i64 t.evs.length, s2, .int .i64 t.evs.length, s3, .int .i64 0, .slice none 0 0, .int .i64 t.evs.length, s5, .int .i64 0, .slice none 0 0, .int .i64 t.evs.length, s7, .int .i64 0, .slice none 0 0, .int .i64 0, .slice none 0 0] 78, ownW s1 (relOf t.evs.length (poP t)), ownW s2 (relOf t.evs.length (plP t)), ownW s3 (relOf t.evs.length (rfP t c)), ownW s5 (relOf t.evs.length (coP t c)), ownW s7 (relOf t.evs.length (frP t c)), .box b4 [.int .i64 0, .slice none 0 0, .int .i64 0, .slice none 0 0, .int .i64 0, .slice none 0 0, .int .i64 0, .slice none 0 0, .int .i64 0, .slice none 0 0, .int .i64 0, .slice none 0 0, .int .i64 0, .slice none 0 0, .int .i64 0, .slice none 0 0, .int .i64 0, .slice none 0 0] 78, .box bC [fv, ov] 42, .box bT [lv, iv, ev, bv, av, dv, cv, tv, nv] 30]) (fun w' h => ?_) ?_
      · rw [hin, upTo_all, upTo_all, upTo_all, upTo_all, relOf_ext fun a b ha hb => rrf_eq ht hcb ha hb, relOf_ext fun a b ha hb => rco_eq ht hcb ha hb, relOf_ext fun a b ha hb => rfr_eq ht hcb ha hb] at h
        exact h
      refine gO_ ?_
      refine wl_fx (fx_call_mk (spec := fun w' hw => router_spec s3 (relOf t.evs.length (rfP t c)) w' (h.now hw (.head _)) (hw.lend (.tail _ (.tail _ (.tail _ (.head _))))) (relOk_relOf _ _ hb)) (next := ?_))
      rintro v n9 es w9 ⟨s4, hs4, rfl, rfl⟩
      refine gO_ ?_
      refine wl_fx (fx_store_box (i := 1) (hi := rfl) (next := ?_))
      refine gO_ ?_
      refine wl_fx (fx_call_mk (spec := fun w' hw => router_spec s5 (relOf t.evs.length (coP t c)) w' (h.now hw (.tail _ (.head _))) (hw.lend (.tail _ (.tail _ (.tail _ (.tail _ (.tail _ (.head _))))))) (relOk_relOf _ _ hb)) (next := ?_))
      rintro v n10 es w10 ⟨s6, hs6, rfl, rfl⟩
      refine gO_ ?_
      refine wl_fx (fx_store_box (i := 2) (hi := rfl) (next := ?_))
      refine gO_ ?_
      refine wl_fx (fx_call_mk (spec := fun w' hw => router_spec s7 (relOf t.evs.length (frP t c)) w' (h.now hw (.tail _ (.tail _ (.head _)))) (hw.lend (.tail _ (.tail _ (.tail _ (.tail _ (.tail _ (.tail _ (.tail _ (.head _))))))))) (relOk_relOf _ _ hb)) (next := ?_))
      rintro v n11 es w11 ⟨s8, hs8, rfl, rfl⟩
      refine gO_ ?_
      refine wl_fx (fx_store_box (i := 3) (hi := rfl) (next := ?_))
      rw [relOf_ex hb, relOf_ex hb, relOf_ex hb]
      refine kp_mem (A' := Mem [(w, All)] [.box b8 [.int .i64 t.evs.length, s1, .int .i64 t.evs.length, s2, .int .i64 t.evs.length, s3, .int .i64 t.evs.length, s4, .int .i64 t.evs.length, s5, .int .i64 t.evs.length, s6, .int .i64 t.evs.length, s7, .int .i64 t.evs.length, s8, .int .i64 0, .slice none 0 0] 78, ownW s8 (relOf t.evs.length (exP t (frP t c))), ownW s6 (relOf t.evs.length (exP t (coP t c))), ownW s4 (relOf t.evs.length (exP t (rfP t c))), ownW s1 (relOf t.evs.length (poP t)), ownW s2 (relOf t.evs.length (plP t)), ownW s3 (relOf t.evs.length (rfP t c)), ownW s5 (relOf t.evs.length (coP t c)), ownW s7 (relOf t.evs.length (frP t c)), .box b4 [.int .i64 0, .slice none 0 0, .int .i64 0, .slice none 0 0, .int .i64 0, .slice none 0 0, .int .i64 0, .slice none 0 0, .int .i64 0, .slice none 0 0, .int .i64 0, .slice none 0 0, .int .i64 0, .slice none 0 0, .int .i64 0, .slice none 0 0, .int .i64 0, .slice none 0 0] 78, .box bC [fv, ov] 42, .box bT [lv, iv, ev, bv, av, dv, cv, tv, nv] 30]) (fun _ h => (h.last rfl).sel [3, 0, 1, 2, 4, 5, 6, 7, 8, 9, 10, 11] rfl (by decide)) ?_
      refine gO_ ?_
      refine wl_fx (fx_call_mk (spec := fun w' hw => runion_ok (relOk_relOf _ (rfP t c) hb) (relOk_relOf _ (coP t c) hb) (hw.lend (.tail _ (.tail _ (.tail _ (.tail _ (.tail _ (.tail _ (.head _)))))))) (hw.lend (.tail _ (.tail _ (.tail _ (.tail _ (.tail _ (.tail _ (.tail _ (.head _)))))))))) (next := ?_))
      rintro v n12 es w12 ⟨s9, hs9, rfl, rfl⟩
      rw [relOf_uni hb]
      refine gO_ ?_
      refine wl_fx (fx_alloc (next := ?_)); intro bq
      refine gO_ ?_
      refine wl_fx (fx_store_box (i := 0) (hi := rfl) (next := ?_))
      refine gO_ ?_
      refine wl_fx (fx_call_mk (spec := fun w' hw => runion_ok (relOk_relOf _ (fun i j => rfP t c i j || coP t c i j) hb) (relOk_relOf _ (frP t c) hb) (hw.lend (.tail _ (.head _))) (hw.lend (.tail _ (.tail _ (.tail _ (.tail _ (.tail _ (.tail _ (.tail _ (.tail _ (.tail _ (.tail _ (.head _))))))))))))) (next := ?_))
      rintro v n13 es w13 ⟨s10, hs10, rfl, rfl⟩
      rw [relOf_uni hb]
      refine gO_ ?_
      refine wl_fx (fx_store_box (i := 1) (hi := rfl) (next := ?_))
      refine gO_ ?_
      refine wl_fx (fx_store_box (i := 3) (hi := rfl) (next := ?_))
      refine gO_ ?_
      refine wl_fx (fx_store_box (i := 12) (hi := rfl) (next := ?_))
      refine gO_ ?_
      refine mk_ret Tryz.results55 (.cellN inferInstance rfl (.tail _ (.tail _ (.tail _ (.tail _ (.tail _ (.tail _ (.tail _ (.tail _ (.tail _ (.tail _ (.tail _ (.tail _ (.head _))))))))))))) rfl (.tmp rfl .nil)) (.tail _ (.tail _ (.head _))) [_, _, _, _, _, _, _, _, _] [7, 8, 9, 6, 10, 5, 11, 4, 0] rfl (by decide) fun w' hw => ?_
      unfold vwOf
      rw [if_pos h1]
      refine ⟨s1, s2, s3, s4, s5, s6, s7, s8, s10, ⟨hs1, hs2, hs3, hs4, hs5, hs6, hs7, hs8, hs10⟩, ?_, rfl⟩
      rw [h1]; rfl
end Go.Proofs.YtnplmhfjoemgdaaGreatDoor
end
