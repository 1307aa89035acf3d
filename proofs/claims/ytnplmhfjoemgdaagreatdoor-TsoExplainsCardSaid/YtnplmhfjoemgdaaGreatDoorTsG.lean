/- The law TsoExplains, walked. -/
import Derived.Test.YtnplmhfjoemgdaaGreatDoorTsF
set_option linter.unusedSimpArgs false
set_option linter.unusedVariables false
namespace Go.Proofs.YtnplmhfjoemgdaaGreatDoor
open Go Go.Eng Go.Tc Go.Rl Go.Vw
attribute [local irreducible] wpList Code.wp bodyPost Exit.then Exit.inBlock Calls
/-- where the first so many of a line stand, counted from one; 0: not yet -/
def atL (n : Nat) (ts : List Nat) (k : Nat) : List Int := (List.range n).map fun x => if posN ts x < k then (posN ts x : Int) + 1 else 0
theorem atL_len (n : Nat) (ts : List Nat) (k : Nat) : (atL n ts k).length = n := by unfold atL; rw [List.length_map, List.length_range]
theorem atL_get (n : Nat) (ts : List Nat) (k : Nat) {x : Nat} (hx : x < n) : (atL n ts k).getD x default = if posN ts x < k then (posN ts x : Int) + 1 else 0 := by
  unfold atL; rw [List.getD_eq_getElem?_getD, List.getElem?_map, List.getElem?_range hx]; rfl
theorem atL_zero (n : Nat) (ts : List Nat) : List.replicate n (0 : Int) = atL n ts 0 := by
  apply List.ext_getElem (by simp [atL])
  intro i h1 h2
  simp [atL]
theorem atL_set {n : Nat} {ts : List Nat} (hn : ts.Nodup) {k : Nat} (hk : k < ts.length) (hlt : ∀ x, x < n → x ∈ ts) : (atL n ts k).set (ts.getD k default) ((k : Int) + 1) = atL n ts (k + 1) := by
  have hgk : ts[k]? = some (ts.getD k default) := getD_some hk
  have hpos : posN ts (ts.getD k default) = k := by
    have hm : ts.getD k default ∈ ts := List.mem_of_getElem? hgk
    have hl := List.idxOf_lt_length_of_mem hm
    have e : ts[ts.idxOf (ts.getD k default)]? = some (ts.getD k default) := by rw [List.getElem?_eq_getElem hl]; simp
    exact (List.getElem?_inj hl hn).1 (e.trans hgk.symm)
  apply List.ext_getElem (by rw [List.length_set, atL_len, atL_len])
  intro i h1 h2
  rw [atL_len] at h2
  rw [List.getElem_set]
  simp only [atL, List.getElem_map, List.getElem_range]
  by_cases e : ts.getD k default = i
  · subst e
    rw [if_pos rfl, hpos, if_pos (Nat.lt_succ_self k)]
  · rw [if_neg e]
    have hne : posN ts i ≠ k := fun q => by
      have hi := hlt i h2
      have hl := List.idxOf_lt_length_of_mem hi
      have e2 : ts[ts.idxOf i]? = some i := by rw [List.getElem?_eq_getElem hl]; simp
      unfold posN at q
      rw [q, hgk] at e2
      injection e2 with e2
      exact e e2
    by_cases q : posN ts i < k
    · rw [if_pos q, if_pos (by omega)]
    · rw [if_neg q, if_neg (by omega)]

set_option maxRecDepth 8000 in
set_option maxHeartbeats 12800000 in
theorem tsoExplains_spec {lv iv ev bv av dv cv tv nv : Value} {t : Tr} (fv ov : Value) (c : Cd) (w : World) (h : TrIn All w lv iv ev bv av dv cv tv nv t) (hc : CdIn All w fv ov c) (hT : Tab w) :
    Pur Tryz.prog 4 [.agg #[lv, iv, ev, bv, av, dv, cv, tv, nv], .agg #[fv, ov]] w fun _ v _ => v = .bool true := by
  have hfs := hc.rf.sv
  have hos := hc.cosv
  have hF := hc.rf
  have hFl := hF.le
  have hE := h.evs; have hEl := hE.le
  refine enter_pur Tryz.func4 Tryz.ntmps4 rfl rfl ?_
  refine gO_ ?_
  refine wl_fx (fx_box (next := ?_)); intro bT
  refine gO_ ?_
  refine wl_fx (fx_box (next := ?_)); intro bC
  refine gO_ ?_
  refine wl_fx (fx_call_mk (spec := fun w' hw => tord_spec fv ov c w' (h.now hw (.head _)) (hc.now hw (.head _)) (hT.now hw (.head _))) (next := ?_))
  rintro v n1 es w1 ⟨pv, hpv, rfl, rfl⟩
  refine gO_ ?_
  refine wl_fx (fx_call (spec := fun w' hw => tcons_spec fv ov c w' (h.now hw (.tail _ (.head _))) (hc.now hw (.tail _ (.head _))) (hT.now hw (.tail _ (.head _)))) (next := ?_))
  rintro v n2 w2 rfl hn2
  refine gO_ ?_
  refine wl_fx (fx_call (spec := fun w' hw => rCheck_spec fv ov c w' (h.now hw (.tail _ (.tail _ (.head _)))) (hc.now hw (.tail _ (.tail _ (.head _))))) (next := ?_))
  rintro v n3 w3 rfl hn3
  refine gO_ ?_
  refine wc_cond rfl (fun h1 => ?_) (fun h1 => ?_)
  · simp [dc_eq] at h1
  clear h1
  by_cases hg : tsB t c = true
  · have hz : cdE t c = 0 := by
      by_cases q : cdE t c = 0
      · exact q
      · unfold tsB at hg; rw [cohB_bad q] at hg; cases hg
    have hcoh : cohB t c = true := by unfold tsB at hg; rw [Bool.and_eq_true] at hg; exact hg.1
    have hac : acyP t (tsP t c) = true := by unfold tsB at hg; rw [Bool.and_eq_true] at hg; exact hg.2
    obtain ⟨ht, hcb⟩ := cdE_ok hz
    have hb := (trOk_lens ht).1
    obtain ⟨_, hlS, hTp, hlen⟩ := line_free hb hac
    have hoE : tordE t c = 0 := by unfold tordE; rw [if_pos hz, if_pos hg]
    have hoL : tordL t c = ints (lN t.evs.length (bt (relOf t.evs.length (tsP t c))) t.evs.length) := by unfold tordL; rw [if_pos hg, hlS]
    rw [hg, hz, hoE, hoL]
    generalize hts : lN t.evs.length (bt (relOf t.evs.length (tsP t c))) t.evs.length = ts at *
    have hil : (ints ts).length = t.evs.length := by unfold ints; rw [List.length_map, hlen]
    have hig : ∀ i, i < ts.length → (ints ts).getD i default = ((ts.getD i default : Nat) : Int) := fun i hi => ints_getD hi
    have htl : ∀ i, i < ts.length → ts.getD i default < t.evs.length := fun i hi => hTp.lt _ (List.mem_of_getElem? (getD_some hi))
    have hall : ∀ x, x < t.evs.length → x ∈ ts := fun x hx => hTp.all hlen x hx
    have hpl : ∀ x, x < t.evs.length → posN ts x < t.evs.length := fun x hx => by have := List.idxOf_lt_length_of_mem (hall x hx); unfold posN; omega
    have hup : ∀ a b, a < t.evs.length → b < t.evs.length → tsP t c a b = true → posN ts a < posN ts b := fun a b ha hb' q => topo_pos hTp hlen ha hb' (by rw [relOf_bt _ _ hb _ _ ha hb']; exact q)
    have hexp : ∀ r, r < t.evs.length → (evi t r).dir = 1 → _ := fun r hr hd => explains hz hcoh hup hr hd
    have hrl := ((candB_iff t c).1 hcb).1
    have hcl := ((candB_iff t c).1 hcb).2.1
    obtain ⟨ovs, hov, hol, hoi⟩ := hc.co
    have hovl := hov.le
    refine gO_ ?_
    refine wc_cond rfl (fun h1 => ?_) (fun h1 => ?_)
    · simp [dc_eq] at h1
    clear h1
    refine gO_ ?_
    refine wc_cond rfl (fun h1 => ?_) (fun h1 => ?_)
    · simp [dc_eq, hil] at h1
    clear h1
    refine gO_ ?_
    rw [hil]
    refine wl_fx (fx_make (next := ?_)); intro va hva
    refine gO_ ?_
    refine wc_loop (fun i : Nat => i ≤ t.evs.length) (fun i => [(13, true, .int .i64 i), (12, true, va), (5, true, pv), (3, true, .pointer (some ⟨bC, 0, none⟩)), (2, true, .pointer (some ⟨bT, 0, none⟩))])
      (fun i => Mem [(w, All)] [.own va 3 1 Eng.encI (atL t.evs.length ts i), ownI pv (ints ts), .box bC [fv, ov] 42, .box bT [lv, iv, ev, bv, av, dv, cv, tv, nv] 30]) (fun i => t.evs.length - i) 0 (Nat.zero_le _) ⟨rfl, rfl, rfl, rfl, rfl, trivial⟩ (fun _ h => by rw [← atL_zero]; exact h.last rfl) ?_
    intro i hi
    refine gO_ ?_
    rw [hil]
    refine wc_cond rfl (fun h1 => ?_) (fun h1 => ?_)
    · have h1' : i < t.evs.length := by rw [dc_true] at h1; omega
      have hi2 : i < (ints ts).length := by omega
      have htx := htl i (by omega)
      have hgi := hig i (by omega)
      refine gO_ ?_
      rw [hgi, hil]
      refine wc_cond rfl (fun h2 => ?_) (fun h2 => ?_)
      · exfalso
        simp only [dc_eq, Bool.or_eq_true, decide_eq_true_eq] at h2
        omega
      clear h2
      have hia : ts.getD i default < (atL t.evs.length ts i).length := by rw [atL_len]; exact htx
      refine gO_ ?_
      rw [hgi]
      refine gO_ ?_
      refine wl_fx (fx_store_own (k := 0) (hk := rfl) (next := ?_))
      refine gO_ ?_
      refine po_loop (i + 1) (by omega) (by omega) ⟨rfl, rfl, rfl, rfl, rfl, trivial⟩ (fun _ h => ?_)
      rw [← atL_set hTp.nodup (by omega) hall]
      exact h.last rfl
    · obtain rfl : i = t.evs.length := by rw [dc_false] at h1; omega
      refine gO_ ?_
      refine wc_loop (fun r : Nat => r ≤ t.evs.length) (fun r => [(14, true, .int .i64 r), (12, true, va), (3, true, .pointer (some ⟨bC, 0, none⟩)), (2, true, .pointer (some ⟨bT, 0, none⟩))])
        (fun r => Mem [(w, All)] [.own va 3 1 Eng.encI (atL t.evs.length ts t.evs.length), .box bC [fv, ov] 42, .box bT [lv, iv, ev, bv, av, dv, cv, tv, nv] 30]) (fun i => t.evs.length - i) 0 (Nat.zero_le _) ⟨rfl, rfl, rfl, rfl, trivial⟩ (fun _ h => h.sel [0, 2, 3] rfl (by decide)) ?_
      intro r hr
      have hal := atL_len t.evs.length ts t.evs.length
      refine gO_ ?_
      rw [hal]
      refine wc_cond rfl (fun h2 => ?_) (fun h2 => ?_)
      · have h2' : r < t.evs.length := by rw [dc_true] at h2; omega
        have hra : r < (atL t.evs.length ts t.evs.length).length := by omega
        have hpr := hpl r h2'
        have hgr : (atL t.evs.length ts t.evs.length).getD r default = (posN ts r : Int) + 1 := by rw [atL_get _ _ _ h2', if_pos hpr]
        refine gO_ ?_
        rw [hgr]
        refine wc_cond rfl (fun h3 => ?_) (fun h3 => ?_)
        · exfalso; rw [dc_true] at h3; omega
        clear h3
        refine gO_ ?_
        refine wc_cond rfl (fun h3 => ?_) (fun h3 => ?_)
        · refine gO_ ?_
          exact po_loop (r + 1) (by omega) (by omega) ⟨rfl, rfl, rfl, rfl, trivial⟩ (fun _ h => h)
        · have hd : (evi t r).dir = 1 := by rw [Bool.not_eq_false', dc_true] at h3; exact h3
          obtain ⟨p, hp, hpl'⟩ := loc_nat ht h2'
          have hcp := col_eq (c := c) hp
          have hLp := (hoi p (by omega))
          have hp2 : (t.evs.getD r default).loc = (p : Int) := hp
          have hp3 : p < ovs.length := by omega
          have hLl := hLp.le
          have hrr : r < c.rf.length := by omega
          have hex := hexp r h2' hd
          rw [hcp] at hex
          refine gO_ ?_
          refine wc_draw [0, 1, 2, 3, 4, 5, 6, 7, 8, 9, 10] mixed ?_
          refine kG_ ?_
          rw [hp2]
          refine kG_ ?_
          refine gO_ ?_
          generalize hq : (fun w : Int => decide (posN ts w.toNat < posN ts r) || (decide (w < (r : Int)) && decide ((evi t w.toNat).thread = (evi t r).thread))) = q at hex
          refine wc_loop (fun k : Nat => k ≤ (c.co.getD p default).length) (fun k => [(17, true, .int .i64 k), (16, true, .int .i64 (lstTo q (c.co.getD p default) k)), (15, true, ovs.getD p default), (14, true, .int .i64 r), (12, true, va), (3, true, .pointer (some ⟨bC, 0, none⟩)), (2, true, .pointer (some ⟨bT, 0, none⟩))])
            (fun k => Mem [(w, All)] [.own va 3 1 Eng.encI (atL t.evs.length ts t.evs.length), .box bC [fv, ov] 42, .box bT [lv, iv, ev, bv, av, dv, cv, tv, nv] 30]) (fun k => (c.co.getD p default).length - k) 0 (Nat.zero_le _) ⟨rfl, rfl, rfl, rfl, rfl, rfl, rfl, trivial⟩ (fun _ h => h) ?_
          intro k hk
          refine gO_ ?_
          refine wc_cond rfl (fun h4 => ?_) (fun h4 => ?_)
          · have h4' : k < (c.co.getD p default).length := by rw [dc_true] at h4; omega
            obtain ⟨x, hx, ex, _⟩ := (co_mem hcb hpl').1 (mem_getD.2 ⟨k, h4', rfl⟩)
            have hxa : x < (atL t.evs.length ts t.evs.length).length := by omega
            have hgx : (atL t.evs.length ts t.evs.length).getD x default = (posN ts x : Int) + 1 := by rw [atL_get _ _ _ hx, if_pos (hpl x hx)]
            refine gO_ ?_
            rw [ex]
            refine gO_ ?_
            refine wc_draw [0, 1, 2, 3, 4, 5, 6, 7, 8, 9, 10, 11, 12, 13, 14, 15, 16, 17, 18, 19, 20, 21, 22, 23, 24, 25, 26, 27, 28] mixed ?_
            refine kG_ ?_
            rw [hgx, hgr]
            refine gO_ ?_
            have hqx : q (x : Int) = (dc ((posN ts x : Int) + 1 < (posN ts r : Int) + 1) || (dc ((x : Int) < r) && dc ((t.evs.getD x default).thread = (t.evs.getD r default).thread))) := by
              rw [← hq]
              simp only [dc_eq, Int.toNat_natCast]
              refine congrArg (fun b => b || _) ?_
              rw [decide_eq_decide]; omega
            have hstep : lstTo q (c.co.getD p default) (k + 1) = if q (x : Int) = true then (x : Int) else lstTo q (c.co.getD p default) k := by
              show (if q ((c.co.getD p default).getD k default) = true then (c.co.getD p default).getD k default else _) = _
              rw [ex]
            refine wc_cond rfl (fun h5 => ?_) (fun h5 => ?_)
            · refine gO_ ?_
              refine po_loop (k + 1) (by omega) (by omega) ?_ (fun _ h => h)
              rw [hstep, if_pos (by rw [hqx]; exact h5)]
              exact ⟨rfl, rfl, rfl, rfl, rfl, rfl, rfl, trivial⟩
            · refine gO_ ?_
              refine po_loop (k + 1) (by omega) (by omega) ?_ (fun _ h => h)
              rw [hstep, if_neg (by rw [hqx, h5]; simp)]
              exact ⟨rfl, rfl, rfl, rfl, rfl, rfl, rfl, trivial⟩
          · obtain rfl : k = (c.co.getD p default).length := by rw [dc_false] at h4; omega
            rw [hex]
            refine gO_ ?_
            refine wc_cond rfl (fun h5 => ?_) (fun h5 => ?_)
            · simp [dc_eq] at h5
            · refine gO_ ?_
              exact po_loop (r + 1) (by omega) (by omega) ⟨rfl, rfl, rfl, rfl, trivial⟩ (fun _ h => h)
      · refine gO_ ?_
        refine wl_fx (fx_call (spec := fun w' hw => tawake_spec w' (hT.now hw (.head _))) (next := ?_))
        rintro v n9 w9 rfl hn9
        refine gO_ ?_
        refine pur_ret Tryz.results4 (.tmp rfl .nil) (.tail _ (.head _)) fun w' hw => ?_
        rfl
  · rw [Bool.not_eq_true] at hg
    have hoL : tordL t c = [] := by unfold tordL; rw [if_neg (by rw [hg]; simp)]
    have hoE : dc (tordE t c = 181) = dc (cdE t c = 0) := by
      rw [dc_eq, dc_eq, decide_eq_decide]
      unfold tordE
      rw [hg]
      by_cases q : cdE t c = 0
      · rw [if_pos q, if_neg (by simp)]; simp [q]
      · rw [if_neg q]
        unfold cdE at q ⊢
        split at q
        · split at q
          · exact absurd rfl q
          · rename_i h1 h2; rw [if_pos h1, if_neg h2]; decide
        · rename_i h1; rw [if_neg h1]; decide
    rw [hg, hoL]
    refine gO_ ?_
    refine wc_cond rfl (fun h1 => ?_) (fun h1 => ?_)
    · refine gO_ ?_
      refine wl_fx (fx_call (spec := fun w' hw => rcons19_spec fv ov c w' (h.now hw (.tail _ (.tail _ (.tail _ (.head _))))) (hc.now hw (.tail _ (.tail _ (.tail _ (.head _)))))) (next := ?_))
      rintro v n4 w4 rfl hn4
      rw [hg]
      refine gO_ ?_
      refine wl_gx (h := gx_call (spec := fun _ w' hw => tawake_spec w' (hT.now hw (.tail _ (.tail _ (.tail _ (.tail _ (.head _)))))))) (next := ?_)
      refine gO_ ?_
      refine pur_ret Tryz.results4 (.tmp rfl .nil) (.tail _ (.tail _ (.tail _ (.tail _ (.head _))))) fun w' hw => ?_
      rw [hoE]
      simp [dc_eq]
      rfl
    · simp [dc_eq] at h1
end Go.Proofs.YtnplmhfjoemgdaaGreatDoor
