import Derived.Test.YtifgncgiiojikaaGreatDoorG15
import Derived.Test.YtifgncgiiojikaaGreatDoorG14
set_option linter.unusedSimpArgs false
set_option linter.unusedVariables false
section
/- The walk: view.Of. -/
namespace Go.Vw
open Go Go.Eng Go.Tc Go.Rl
theorem prsTo_len {l : List Int} (h : l.length ≤ 64) : ∀ i, (prsTo l i).length ≤ i * 64
  | 0 => by simp [prsTo]
  | i + 1 => by
    rw [prsTo_succ, List.length_append]
    have := prsTo_len h i
    have : (prsIn l i).length ≤ 64 := by unfold prsIn; rw [List.length_map, List.length_drop]; omega
    omega
theorem coTo_len {c : Cd} : ∀ k, (∀ j, j < k → (c.co.getD j default).length ≤ 64) → (coTo c k).length ≤ k * 4096
  | 0, _ => by simp [coTo]
  | k + 1, h => by
    rw [coTo_succ, List.length_append]
    have := coTo_len k fun j hj => h j (by omega)
    have h1 := h k (by omega)
    have := prsTo_len h1 (c.co.getD k default).length
    omega
theorem rfTo_len (t : Tr) (c : Cd) : ∀ n, (rfTo t c n).length ≤ n
  | 0 => by simp [rfTo]
  | n + 1 => by
    rw [rfTo_succ, List.length_append]
    have := rfTo_len t c n
    have : (rf1 t c n).length ≤ 1 := by unfold rf1; split <;> simp
    omega
theorem frTo_len {t : Tr} {c : Cd} : ∀ n, (∀ j, j < n → (col t c j).length ≤ 64) → (frTo t c n).length ≤ n * 64
  | 0, _ => by simp [frTo]
  | n + 1, h => by
    rw [frTo_succ, List.length_append]
    have := frTo_len n fun j hj => h j (by omega)
    have : (fr1 t c n).length ≤ 64 := by
      unfold fr1
      split
      · unfold frs; rw [List.length_map, List.length_drop]; have := h n (by omega); omega
      · simp
    omega
theorem take_one {α : Type} [Inhabited α] {l : List α} {i : Nat} (h : i < l.length) : l.take (i + 1) = l.take i ++ [l.getD i default] := by
  rw [List.take_add_one, List.getD_eq_getElem?_getD, List.getElem?_eq_getElem h]; rfl
structure Vw where
  n : Int
  po : List W
  pl : List W
  rf : List W
  rfe : List W
  co : List W
  coe : List W
  fr : List W
  fre : List W
  cm : List W
def vwOf (t : Tr) (c : Cd) : Vw :=
  if cdE t c = 0 then
    { n := t.evs.length, po := relOf t.evs.length (poP t), pl := relOf t.evs.length (plP t), rf := relOf t.evs.length (rfP t c), rfe := relOf t.evs.length (exP t (rfP t c)), co := relOf t.evs.length (coP t c),
      coe := relOf t.evs.length (exP t (coP t c)), fr := relOf t.evs.length (frP t c), fre := relOf t.evs.length (exP t (frP t c)), cm := relOf t.evs.length (cmP t c) }
  else { n := 0, po := [], pl := [], rf := [], rfe := [], co := [], coe := [], fr := [], fre := [], cm := [] }
theorem cdE_ok {t : Tr} {c : Cd} (h : cdE t c = 0) : trOk t = true ∧ candB t c = true := by
  unfold cdE at h
  by_cases h1 : trOk t = true
  · rw [if_pos h1] at h
    by_cases h2 : candB t c = true
    · exact ⟨h1, h2⟩
    · rw [if_neg h2] at h; omega
  · rw [if_neg h1] at h; omega
theorem relOf_uni {m : Nat} (hm : m ≤ 64) (p q : Nat → Nat → Bool) : uni m (relOf m p) (relOf m q) = relOf m fun i j => p i j || q i j := by
  unfold uni
  exact relOf_ext fun i j hi hj => by rw [relOf_bt m _ hm i j hi hj, relOf_bt m _ hm i j hi hj]
theorem relOf_ex {m : Nat} (hm : m ≤ 64) (p q : Nat → Nat → Bool) : (relOf m fun i j => bt (relOf m p) i j && q i j) = relOf m fun i j => p i j && q i j :=
  relOf_ext fun i j hi hj => by rw [relOf_bt m _ hm i j hi hj]
end Go.Vw
namespace Go.Proofs.YtifgncgiiojikaaGreatDoor
open Go Go.Eng Go.Tc Go.Rl Go.Vw
attribute [local irreducible] wpList Code.wp bodyPost Exit.then Exit.inBlock Calls

def VwΨ (V : Vw) (e : Int) : Nat → Value → List Ent → World → Prop := fun _ v es _ => ∃ s1 s2 s3 s4 s5 s6 s7 s8 s9, (SV s1 ∧ SV s2 ∧ SV s3 ∧ SV s4 ∧ SV s5 ∧ SV s6 ∧ SV s7 ∧ SV s8 ∧ SV s9) ∧
  v = .tuple #[.agg #[.int .i64 V.n, s1, .int .i64 V.n, s2, .int .i64 V.n, s3, .int .i64 V.n, s4, .int .i64 V.n, s5, .int .i64 V.n, s6, .int .i64 V.n, s7, .int .i64 V.n, s8, .int .i64 V.n, s9], .int .i64 e] ∧
  es = [ownW s1 V.po, ownW s2 V.pl, ownW s3 V.rf, ownW s4 V.rfe, ownW s5 V.co, ownW s6 V.coe, ownW s7 V.fr, ownW s8 V.fre, ownW s9 V.cm]

set_option maxHeartbeats 16000000 in
theorem vof_spec {lv iv ev bv av dv cv tv nv : Value} {t : Tr} (fv ov : Value) (c : Cd) (w : World) (h : TrIn All w lv iv ev bv av dv cv tv nv t) (hc : CdIn All w fv ov c) (hT : Tab w) :
    Mk Tryz.prog 41 [.agg #[lv, iv, ev, bv, av, dv, cv, tv, nv], .agg #[fv, ov]] w (VwΨ (vwOf t c) (cdE t c)) := by
  have hfs := hc.rf.sv
  obtain ⟨ovs, hov, hol, hoi⟩ := hc.co
  have hos := hov.sv
  have hF := hc.rf
  have hFl := hF.le; have hovl := hov.le
  have hE := h.evs; have hEl := hE.le
  refine enter_mk Tryz.func41 Tryz.ntmps41 rfl rfl ?_
  refine gO_ ?_
  refine wl_fx (fx_box (next := ?_)); intro bT
  refine gO_ ?_
  refine wl_fx (fx_box (next := ?_)); intro bC
  refine gO_ ?_
  refine wl_fx (fx_alloc (next := ?_)); intro b4
  refine gO_ ?_
  refine wl_fx (fx_call (spec := fun w' hw => ccheck_spec fv ov c w' (h.now hw (.head _)) (hc.now hw (.head _))) (next := ?_))
  rintro v n1 w1 rfl hn1
  refine gO_ ?_
  refine wc_cond rfl (fun h1 => ?_) (fun h1 => ?_)
  · rw [Bool.not_eq_true', dc_false] at h1
    refine gO_ ?_
    refine wl_fx (fx_store_box (i := 0) (hi := rfl) (next := ?_))
    refine gO_ ?_
    refine kp_nil 113 1 encW ?_
    refine kp_nil 113 1 encW ?_
    refine kp_nil 113 1 encW ?_
    refine kp_nil 113 1 encW ?_
    refine kp_nil 113 1 encW ?_
    refine kp_nil 113 1 encW ?_
    refine kp_nil 113 1 encW ?_
    refine kp_nil 113 1 encW ?_
    refine kp_nil 113 1 encW ?_
    refine mk_ret Tryz.results41 (.cellN inferInstance rfl (.tail _ (.tail _ (.tail _ (.tail _ (.tail _ (.tail _ (.tail _ (.tail _ (.tail _ (.head _)))))))))) rfl (.tmp rfl .nil)) (.tail _ (.head _)) [_, _, _, _, _, _, _, _, _] [0, 1, 2, 3, 4, 5, 6, 7, 8] rfl (by decide) fun w' hw => ?_
    unfold vwOf
    rw [if_neg h1]
    exact ⟨_, _, _, _, _, _, _, _, _, ⟨sv_nil, sv_nil, sv_nil, sv_nil, sv_nil, sv_nil, sv_nil, sv_nil, sv_nil⟩, rfl, rfl⟩
  · rw [Bool.not_eq_false', dc_true] at h1
    obtain ⟨ht, hcb⟩ := cdE_ok h1
    obtain ⟨hb, hlb⟩ := trOk_lens ht
    obtain ⟨hrl, hcl, _, _⟩ := (candB_iff t c).1 hcb
    have htn : trN t = t.evs.length := if_pos ht
    have htr : trR t (poP t) = relOf t.evs.length (poP t) := if_pos ht
    have hpo := relOk_relOf t.evs.length (poP t) hb
    have hcol : ∀ k, k < c.co.length → (c.co.getD k default).length ≤ 64 := fun k hk => Nat.le_trans (co_len hcb (by omega)) hb
    have hP : pairsS t.evs.length (relOf t.evs.length (poP t)) = pairsL t.evs.length (relOf t.evs.length (poP t)) := by unfold pairsS; rw [if_pos hpo]; rfl
    have hPl : (pairsL t.evs.length (relOf t.evs.length (poP t))).length ≤ 4096 := Nat.le_trans (pairsL_length _ _) (Nat.mul_le_mul_right 64 hb)
    refine gO_ ?_
    refine wl_fx (fx_alloc (next := ?_)); intro b8
    refine gO_ ?_
    refine wl_fx (fx_call_mk (spec := fun w' hw => tpo_spec w' (h.now hw (.tail _ (.head _)))) (next := ?_))
    rintro v n2 es w2 ⟨s1, hs1, rfl, rfl⟩
    rw [htn, htr]
    refine gO_ ?_
    refine wl_fx (fx_store_box (i := 1) (hi := rfl) (next := ?_))
    refine gO_ ?_
    refine wl_fx (fx_call_mk (spec := fun w' hw => pairs_all t.evs.length s1 (relOf t.evs.length (poP t)) w' (hw.lend (.head _)) (hT.now hw (.tail _ (.tail _ (.head _))))) (next := ?_))
    rintro v n3 es w3 ⟨pv, hpv, rfl, rfl⟩
    rw [hP]
    generalize hl : pairsL t.evs.length (relOf t.evs.length (poP t)) = l at *
    refine gO_ ?_
    refine kp_nil 83 2 encPair ?_
    refine wc_loop (fun s : Nat × Value × List Pair => s.1 ≤ l.length ∧ SV s.2.1 ∧ s.2.2 = (l.take s.1).filter (ptB t fun a b => decide (a.loc = b.loc))) (fun s => [(52, true, .int .i64 s.1), (51, true, .int .i64 l.length), (50, true, pv), (12, true, .slice none 0 0), (11, true, .slice none 0 0), (10, true, .slice none 0 0), (9, true, s.2.1), (8, true, .pointer (some ⟨b8, 0, none⟩)), (7, true, .int .i64 t.evs.length), (4, true, .pointer (some ⟨b4, 0, none⟩)), (3, true, .pointer (some ⟨bC, 0, none⟩)), (2, true, .pointer (some ⟨bT, 0, none⟩))])
      (fun s => Mem [(w, All)] [ownP s.2.1 s.2.2, ownP pv l, .box b8 [.int .i64 t.evs.length, s1, .int .i64 0, .slice none 0 0, .int .i64 0, .slice none 0 0, .int .i64 0, .slice none 0 0, .int .i64 0, .slice none 0 0, .int .i64 0, .slice none 0 0, .int .i64 0, .slice none 0 0, .int .i64 0, .slice none 0 0, .int .i64 0, .slice none 0 0] 62, ownW s1 (relOf t.evs.length (poP t)), .box b4 [.int .i64 0, .slice none 0 0, .int .i64 0, .slice none 0 0, .int .i64 0, .slice none 0 0, .int .i64 0, .slice none 0 0, .int .i64 0, .slice none 0 0, .int .i64 0, .slice none 0 0, .int .i64 0, .slice none 0 0, .int .i64 0, .slice none 0 0, .int .i64 0, .slice none 0 0] 62, .box bC [fv, ov] 33, .box bT [lv, iv, ev, bv, av, dv, cv, tv, nv] 30]) (fun s => l.length - s.1) (0, .slice none 0 0, []) ⟨Nat.zero_le _, sv_nil, by simp⟩ ⟨rfl, rfl, rfl, rfl, rfl, rfl, rfl, rfl, rfl, rfl, rfl, rfl, trivial⟩ (fun _ h => (h.last rfl).sel [0, 1, 3, 2, 4, 5, 6] rfl (by decide)) ?_
    rintro ⟨i, v1, xs⟩ ⟨hi, hv1, hxs⟩
    dsimp only at hi hv1 hxs ⊢
    have hxl : xs.length ≤ 4096 := by rw [hxs]; exact Nat.le_trans (List.length_filter_le _ _) (by simp; omega)
    refine gO_ ?_
    refine wc_cond rfl (fun h2 => ?_) (fun h2 => ?_)
    · have h2' : i < l.length := by rw [dc_true] at h2; omega
      have hx : l.getD i default ∈ pairsL t.evs.length (relOf t.evs.length (poP t)) := by rw [hl, List.getD_eq_getElem?_getD, List.getElem?_eq_getElem h2']; exact List.getElem_mem h2'
      obtain ⟨g1, g2, g3, g4⟩ := pairs_inR hpo _ hx
      have htk : l.take (i + 1) = l.take i ++ [l.getD i default] := take_one (by omega)
      have hqi : (dc ((evi t (l.getD i default).A.toNat).loc = (evi t (l.getD i default).B.toNat).loc)) = ptB t (fun a b => decide (a.loc = b.loc)) (l.getD i default) := by rw [dc_eq]; rfl
      refine gO_ ?_
      refine wl_fx (fx_alloc (next := ?_)); intro bp
      refine gO_ ?_
      refine wl_fx (fx_store_box (i := 0) (hi := rfl) (next := ?_))
      refine gO_ ?_
      refine wc_draw [0, 1, 2, 3, 4, 5, 6, 7, 8, 9, 10, 11, 12, 13, 14] mixed ?_
      refine kG_ ?_
      refine gO_ ?_
      refine wc_cond rfl (fun h3 => ?_) (fun h3 => ?_)
      · rw [hqi] at h3
        refine gO_ ?_
        refine wl_fx (fx_lit (next := ?_))
        intro v5 hv5
        refine gO_ ?_
        refine wl_fx (fx_append_own (k := 2) (hk := rfl) (hlen := by simp; omega) (next := ?_))
        intro v6 hv6
        refine gO_ ?_
        exact po_loop (i + 1, v6, xs ++ [l.getD i default]) ⟨by dsimp only; omega, hv6, by dsimp only; rw [hxs, htk, List.filter_append, List.filter_cons_of_pos h3]; rfl⟩ (by dsimp only; omega) ⟨rfl, rfl, rfl, rfl, rfl, rfl, rfl, rfl, rfl, rfl, rfl, rfl, trivial⟩ (fun _ h => (h.last rfl).sel [2, 3, 4, 5, 6, 7, 8] rfl (by decide))
      · rw [hqi] at h3
        refine gO_ ?_
        exact po_loop (i + 1, v1, xs) ⟨by dsimp only; omega, hv1, by dsimp only; rw [hxs, htk, List.filter_append, List.filter_cons_of_neg (by rw [h3]; simp)]; simp⟩ (by dsimp only; omega) ⟨rfl, rfl, rfl, rfl, rfl, rfl, rfl, rfl, rfl, rfl, rfl, rfl, trivial⟩ (fun _ h => (h.last rfl).sel [1, 2, 3, 4, 5, 6, 7] rfl (by decide))
    · have hin : i = l.length := by rw [dc_false] at h2; omega
      have hxf : xs = sifL t (fun a b => decide (a.loc = b.loc)) t.evs.length (relOf t.evs.length (poP t)) := by rw [hxs, hin, List.take_length]; unfold sifL; rw [hl]
      refine gO_ ?_
      refine kp_nil 83 2 encPair ?_
      refine wc_loop (fun s : Nat × Value × List Pair => s.1 ≤ c.co.length ∧ SV s.2.1 ∧ s.2.2 = coTo c s.1) (fun s => [(79, true, .int .i64 s.1), (78, true, .int .i64 ovs.length), (77, true, ov), (12, true, .slice none 0 0), (11, true, s.2.1), (10, true, .slice none 0 0), (9, true, v1), (8, true, .pointer (some ⟨b8, 0, none⟩)), (7, true, .int .i64 t.evs.length), (4, true, .pointer (some ⟨b4, 0, none⟩)), (3, true, .pointer (some ⟨bC, 0, none⟩)), (2, true, .pointer (some ⟨bT, 0, none⟩))])
        (fun s => Mem [(w, All)] [ownP s.2.1 s.2.2, ownP v1 xs, .box b8 [.int .i64 t.evs.length, s1, .int .i64 0, .slice none 0 0, .int .i64 0, .slice none 0 0, .int .i64 0, .slice none 0 0, .int .i64 0, .slice none 0 0, .int .i64 0, .slice none 0 0, .int .i64 0, .slice none 0 0, .int .i64 0, .slice none 0 0, .int .i64 0, .slice none 0 0] 62, ownW s1 (relOf t.evs.length (poP t)), .box b4 [.int .i64 0, .slice none 0 0, .int .i64 0, .slice none 0 0, .int .i64 0, .slice none 0 0, .int .i64 0, .slice none 0 0, .int .i64 0, .slice none 0 0, .int .i64 0, .slice none 0 0, .int .i64 0, .slice none 0 0, .int .i64 0, .slice none 0 0, .int .i64 0, .slice none 0 0] 62, .box bC [fv, ov] 33, .box bT [lv, iv, ev, bv, av, dv, cv, tv, nv] 30]) (fun s => c.co.length - s.1) (0, .slice none 0 0, []) ⟨Nat.zero_le _, sv_nil, rfl⟩ ⟨rfl, rfl, rfl, rfl, rfl, rfl, rfl, rfl, rfl, rfl, rfl, rfl, trivial⟩ (fun _ h => (h.last rfl).sel [0, 1, 3, 4, 5, 6, 7] rfl (by decide)) ?_
      rintro ⟨k, v2, ys⟩ ⟨hk, hv2, hys⟩
      dsimp only at hk hv2 hys ⊢
      have hyl0 := coTo_len k (fun j hj => hcol j (by omega))
      refine gO_ ?_
      refine wc_cond rfl (fun h3 => ?_) (fun h3 => ?_)
      · have h3' : k < c.co.length := by rw [dc_true] at h3; omega
        have hL := hoi k h3'
        have hLl := hcol k h3'
        refine gO_ ?_
        refine wc_loop (fun s : Nat × Value × List Pair => s.1 ≤ (c.co.getD k default).length ∧ SV s.2.1 ∧ s.2.2 = coTo c k ++ prsTo (c.co.getD k default) s.1) (fun s => [(85, true, .int .i64 s.1), (84, true, .int .i64 (c.co.getD k default).length), (83, true, ovs.getD k default), (79, true, .int .i64 k), (78, true, .int .i64 ovs.length), (77, true, ov), (18, true, ovs.getD k default), (12, true, .slice none 0 0), (11, true, s.2.1), (10, true, .slice none 0 0), (9, true, v1), (8, true, .pointer (some ⟨b8, 0, none⟩)), (7, true, .int .i64 t.evs.length), (4, true, .pointer (some ⟨b4, 0, none⟩)), (3, true, .pointer (some ⟨bC, 0, none⟩)), (2, true, .pointer (some ⟨bT, 0, none⟩))])
          (fun s => Mem [(w, All)] [ownP s.2.1 s.2.2, ownP v1 xs, .box b8 [.int .i64 t.evs.length, s1, .int .i64 0, .slice none 0 0, .int .i64 0, .slice none 0 0, .int .i64 0, .slice none 0 0, .int .i64 0, .slice none 0 0, .int .i64 0, .slice none 0 0, .int .i64 0, .slice none 0 0, .int .i64 0, .slice none 0 0, .int .i64 0, .slice none 0 0] 62, ownW s1 (relOf t.evs.length (poP t)), .box b4 [.int .i64 0, .slice none 0 0, .int .i64 0, .slice none 0 0, .int .i64 0, .slice none 0 0, .int .i64 0, .slice none 0 0, .int .i64 0, .slice none 0 0, .int .i64 0, .slice none 0 0, .int .i64 0, .slice none 0 0, .int .i64 0, .slice none 0 0, .int .i64 0, .slice none 0 0] 62, .box bC [fv, ov] 33, .box bT [lv, iv, ev, bv, av, dv, cv, tv, nv] 30]) (fun s => (c.co.getD k default).length - s.1) (0, v2, ys) ⟨Nat.zero_le _, hv2, by dsimp only; rw [hys]; simp [prsTo]⟩ ⟨rfl, rfl, rfl, rfl, rfl, rfl, rfl, rfl, rfl, rfl, rfl, rfl, rfl, rfl, rfl, rfl, trivial⟩ (fun _ h => h) ?_
        rintro ⟨a, v3, zs⟩ ⟨ha, hv3, hzs⟩
        dsimp only at ha hv3 hzs ⊢
        have hpl := prsTo_len hLl a
        refine gO_ ?_
        refine wc_cond rfl (fun h4 => ?_) (fun h4 => ?_)
        · have h4' : a < (c.co.getD k default).length := by rw [dc_true] at h4; omega
          have hsub : Sl All w Eng.encI 1 (subV 1 (a + 1) (c.co.getD k default).length (ovs.getD k default)) ((c.co.getD k default).drop (a + 1)) := by
            have := hL.sub (a + 1) (c.co.getD k default).length (by omega) (Nat.le_refl _)
            rwa [List.take_length] at this
          have hsubl := hsub.le
          refine gO_ ?_
          refine wl_a (h := qy_subLi (h := hL) (h0 := by omega) (hb := by omega)) (next := ?_)
          rw [show ((a : Int) + 1).toNat = a + 1 by omega]
          refine gO_ ?_
          refine wc_loop (fun s : Nat × Value × List Pair => s.1 ≤ ((c.co.getD k default).drop (a + 1)).length ∧ SV s.2.1 ∧ s.2.2 = coTo c k ++ prsTo (c.co.getD k default) a ++ (((c.co.getD k default).drop (a + 1)).take s.1).map fun b => ⟨(c.co.getD k default).getD a default, b⟩) (fun s => [(95, true, .int .i64 s.1), (94, true, .int .i64 ((c.co.getD k default).drop (a + 1)).length), (93, true, subV 1 (a + 1) (c.co.getD k default).length (ovs.getD k default)), (85, true, .int .i64 a), (84, true, .int .i64 (c.co.getD k default).length), (83, true, ovs.getD k default), (79, true, .int .i64 k), (78, true, .int .i64 ovs.length), (77, true, ov), (20, true, .int .i64 ((c.co.getD k default).getD a default)), (18, true, ovs.getD k default), (12, true, .slice none 0 0), (11, true, s.2.1), (10, true, .slice none 0 0), (9, true, v1), (8, true, .pointer (some ⟨b8, 0, none⟩)), (7, true, .int .i64 t.evs.length), (4, true, .pointer (some ⟨b4, 0, none⟩)), (3, true, .pointer (some ⟨bC, 0, none⟩)), (2, true, .pointer (some ⟨bT, 0, none⟩))])
            (fun s => Mem [(w, All)] [ownP s.2.1 s.2.2, ownP v1 xs, .box b8 [.int .i64 t.evs.length, s1, .int .i64 0, .slice none 0 0, .int .i64 0, .slice none 0 0, .int .i64 0, .slice none 0 0, .int .i64 0, .slice none 0 0, .int .i64 0, .slice none 0 0, .int .i64 0, .slice none 0 0, .int .i64 0, .slice none 0 0, .int .i64 0, .slice none 0 0] 62, ownW s1 (relOf t.evs.length (poP t)), .box b4 [.int .i64 0, .slice none 0 0, .int .i64 0, .slice none 0 0, .int .i64 0, .slice none 0 0, .int .i64 0, .slice none 0 0, .int .i64 0, .slice none 0 0, .int .i64 0, .slice none 0 0, .int .i64 0, .slice none 0 0, .int .i64 0, .slice none 0 0, .int .i64 0, .slice none 0 0] 62, .box bC [fv, ov] 33, .box bT [lv, iv, ev, bv, av, dv, cv, tv, nv] 30]) (fun s => ((c.co.getD k default).drop (a + 1)).length - s.1) (0, v3, zs) ⟨Nat.zero_le _, hv3, by dsimp only; rw [hzs]; simp⟩ ⟨rfl, rfl, rfl, rfl, rfl, rfl, rfl, rfl, rfl, rfl, rfl, rfl, rfl, rfl, rfl, rfl, rfl, rfl, rfl, rfl, trivial⟩ (fun _ h => h) ?_
          rintro ⟨q, v4, us⟩ ⟨hq, hv4, hus⟩
          dsimp only at hq hv4 hus ⊢
          have hul : us.length ≤ 300000 := by
            rw [hus, List.length_append, List.length_append, List.length_map, List.length_take, List.length_drop]; omega
          refine gO_ ?_
          refine wc_cond rfl (fun h5 => ?_) (fun h5 => ?_)
          · have h5' : q < ((c.co.getD k default).drop (a + 1)).length := by rw [dc_true] at h5; omega
            have htk : ((c.co.getD k default).drop (a + 1)).take (q + 1) = ((c.co.getD k default).drop (a + 1)).take q ++ [((c.co.getD k default).drop (a + 1)).getD q default] := take_one (by omega)
            refine gO_ ?_
            refine wl_fx (fx_lit (next := ?_))
            intro v5 hv5
            refine gO_ ?_
            refine wl_fx (fx_append_own (k := 1) (hk := rfl) (hlen := by simp only [List.map, List.length_cons, List.length_nil]; omega) (next := ?_))
            intro v6 hv6
            refine gO_ ?_
            exact po_loop (q + 1, v6, us ++ [(⟨(c.co.getD k default).getD a default, ((c.co.getD k default).drop (a + 1)).getD q default⟩ : Pair)]) ⟨by dsimp only; omega, hv6, by dsimp only; rw [hus, htk, List.map_append, List.append_assoc]; rfl⟩ (by dsimp only; omega) ⟨rfl, rfl, rfl, rfl, rfl, rfl, rfl, rfl, rfl, rfl, rfl, rfl, rfl, rfl, rfl, rfl, rfl, rfl, rfl, rfl, trivial⟩ (fun _ h => (h.last rfl).tail)
          · have hqn : q = ((c.co.getD k default).drop (a + 1)).length := by rw [dc_false] at h5; omega
            refine gO_ ?_
            exact po_loop (a + 1, v4, us) ⟨by dsimp only; omega, hv4, by dsimp only; rw [hus, hqn, List.take_length, prsTo_succ, List.append_assoc]; rfl⟩ (by dsimp only; omega) ⟨rfl, rfl, rfl, rfl, rfl, rfl, rfl, rfl, rfl, rfl, rfl, rfl, rfl, rfl, rfl, rfl, trivial⟩ (fun _ h => h.last rfl)
        · have han : a = (c.co.getD k default).length := by rw [dc_false] at h4; omega
          refine gO_ ?_
          exact po_loop (k + 1, v3, zs) ⟨by dsimp only; omega, hv3, by dsimp only; rw [hzs, han, coTo_succ]⟩ (by dsimp only; omega) ⟨rfl, rfl, rfl, rfl, rfl, rfl, rfl, rfl, rfl, rfl, rfl, rfl, trivial⟩ (fun _ h => h.last rfl)
      · have hkn : k = c.co.length := by rw [dc_false] at h3; omega
        have hys' : ys = coTo c c.co.length := by rw [hys, hkn]
        refine gO_ ?_
        refine kp_nil 83 2 encPair ?_
        refine kp_nil 83 2 encPair ?_
        refine wc_loop (fun s : Nat × (Value × List Pair) × (Value × List Pair) => s.1 ≤ t.evs.length ∧ (SV s.2.1.1 ∧ s.2.1.2 = frTo t c s.1) ∧ SV s.2.2.1 ∧ s.2.2.2 = rfTo t c s.1) (fun s => [(111, true, .int .i64 s.1), (110, true, .int .i64 t.evs.length), (109, true, ev), (12, true, s.2.1.1), (11, true, v2), (10, true, s.2.2.1), (9, true, v1), (8, true, .pointer (some ⟨b8, 0, none⟩)), (7, true, .int .i64 t.evs.length), (4, true, .pointer (some ⟨b4, 0, none⟩)), (3, true, .pointer (some ⟨bC, 0, none⟩)), (2, true, .pointer (some ⟨bT, 0, none⟩))])
          (fun s => Mem [(w, All)] [ownP s.2.1.1 s.2.1.2, ownP s.2.2.1 s.2.2.2, ownP v2 ys, ownP v1 xs, .box b8 [.int .i64 t.evs.length, s1, .int .i64 0, .slice none 0 0, .int .i64 0, .slice none 0 0, .int .i64 0, .slice none 0 0, .int .i64 0, .slice none 0 0, .int .i64 0, .slice none 0 0, .int .i64 0, .slice none 0 0, .int .i64 0, .slice none 0 0, .int .i64 0, .slice none 0 0] 62, ownW s1 (relOf t.evs.length (poP t)), .box b4 [.int .i64 0, .slice none 0 0, .int .i64 0, .slice none 0 0, .int .i64 0, .slice none 0 0, .int .i64 0, .slice none 0 0, .int .i64 0, .slice none 0 0, .int .i64 0, .slice none 0 0, .int .i64 0, .slice none 0 0, .int .i64 0, .slice none 0 0, .int .i64 0, .slice none 0 0] 62, .box bC [fv, ov] 33, .box bT [lv, iv, ev, bv, av, dv, cv, tv, nv] 30]) (fun s => t.evs.length - s.1) (0, (.slice none 0 0, []), (.slice none 0 0, [])) ⟨Nat.zero_le _, ⟨sv_nil, rfl⟩, sv_nil, rfl⟩ ⟨rfl, rfl, rfl, rfl, rfl, rfl, rfl, rfl, rfl, rfl, rfl, rfl, trivial⟩ (fun _ h => h) ?_
        rintro ⟨r, ⟨v3, fs⟩, ⟨v4, rs⟩⟩ ⟨hr, ⟨hv3, hfs⟩, hv4, hrs⟩
        dsimp only at hr hv3 hfs hv4 hrs ⊢
        refine gO_ ?_
        refine wc_cond rfl (fun h4 => ?_) (fun h4 => ?_)
        · have h4' : r < t.evs.length := by rw [dc_true] at h4; omega
          have h4c : r < c.rf.length := by omega
          obtain ⟨p, hp, hpl⟩ := loc_nat ht h4'
          have hcp := col_eq (c := c) hp
          have hLp := hoi p (by omega)
          have hlp := hcol p (by omega)
          have hfl := frTo_len (t := t) (c := c) r (fun j hj => by obtain ⟨p', hp', hpl'⟩ := loc_nat ht (show j < t.evs.length by omega); rw [col_eq (c := c) hp']; exact hcol p' (by omega))
          have hrl2 := rfTo_len t c r
          have hrsl : rs.length ≤ 64 := by rw [hrs]; omega
          have hfsl : fs.length ≤ 4096 := by rw [hfs]; omega
          have hp2 : (t.evs.getD r default).loc = (p : Int) := hp
          have hp3 : p < ovs.length := by omega
          refine gO_ ?_
          refine wl_fx (fx_alloc (next := ?_)); intro be
          refine gO_ ?_
          refine wl_fx (fx_store_box (i := 0) (hi := rfl) (next := ?_))
          refine gO_ ?_
          refine wc_cond rfl (fun h5 => ?_) (fun h5 => ?_)
          · rw [Bool.not_eq_true', dc_false] at h5
            refine gO_ ?_
            exact po_loop (r + 1, (v3, fs), (v4, rs)) ⟨by dsimp only; omega, ⟨hv3, by dsimp only; rw [hfs, frTo_succ]; unfold fr1; rw [if_neg h5, List.append_nil]⟩, hv4, by dsimp only; rw [hrs, rfTo_succ]; unfold rf1; rw [if_neg (fun hh => h5 hh.1), List.append_nil]⟩ (by dsimp only; omega) ⟨rfl, rfl, rfl, rfl, rfl, rfl, rfl, rfl, rfl, rfl, rfl, rfl, trivial⟩ (fun _ h => h.tail)
          · rw [Bool.not_eq_false', dc_true] at h5
            refine gO_ ?_
            refine wc_cutA (fun s : Value × List Pair => SV s.1 ∧ s.2 = rfTo t c (r + 1)) (fun s => [(111, true, .int .i64 r), (110, true, .int .i64 t.evs.length), (109, true, ev), (24, true, .pointer (some ⟨be, 0, none⟩)), (23, true, .int .i64 r), (12, true, v3), (11, true, v2), (10, true, s.1), (9, true, v1), (8, true, .pointer (some ⟨b8, 0, none⟩)), (7, true, .int .i64 t.evs.length), (4, true, .pointer (some ⟨b4, 0, none⟩)), (3, true, .pointer (some ⟨bC, 0, none⟩)), (2, true, .pointer (some ⟨bT, 0, none⟩))])
              (fun s => Mem [(w, All)] [.box be (encEv (evi t r)) 36, ownP v3 fs, ownP s.1 s.2, ownP v2 ys, ownP v1 xs, .box b8 [.int .i64 t.evs.length, s1, .int .i64 0, .slice none 0 0, .int .i64 0, .slice none 0 0, .int .i64 0, .slice none 0 0, .int .i64 0, .slice none 0 0, .int .i64 0, .slice none 0 0, .int .i64 0, .slice none 0 0, .int .i64 0, .slice none 0 0, .int .i64 0, .slice none 0 0] 62, ownW s1 (relOf t.evs.length (poP t)), .box b4 [.int .i64 0, .slice none 0 0, .int .i64 0, .slice none 0 0, .int .i64 0, .slice none 0 0, .int .i64 0, .slice none 0 0, .int .i64 0, .slice none 0 0, .int .i64 0, .slice none 0 0, .int .i64 0, .slice none 0 0, .int .i64 0, .slice none 0 0, .int .i64 0, .slice none 0 0] 62, .box bC [fv, ov] 33, .box bT [lv, iv, ev, bv, av, dv, cv, tv, nv] 30]) ?_ ?_
            · refine wc_cond rfl (fun h6 => ?_) (fun h6 => ?_)
              · rw [dc_true] at h6
                refine gO_ ?_
                refine wl_fx (fx_lit (next := ?_))
                intro v5 hv5
                refine gO_ ?_
                refine wl_fx (fx_append_own (k := 3) (hk := rfl) (hlen := by simp only [List.map, List.length_cons, List.length_nil]; omega) (next := ?_))
                intro v6 hv6
                refine gO_ ?_
                exact po_cut (v6, rs ++ [(⟨c.rf.getD r default, (r : Int)⟩ : Pair)]) ⟨hv6, by dsimp only; rw [hrs, rfTo_succ]; unfold rf1; rw [if_pos ⟨h5, h6⟩]⟩ ⟨rfl, rfl, rfl, rfl, rfl, rfl, rfl, rfl, rfl, rfl, rfl, rfl, rfl, rfl, trivial⟩ (fun _ h => h.tail)
              · rw [dc_false] at h6
                refine gO_ ?_
                exact po_cut (v4, rs) ⟨hv4, by dsimp only; rw [hrs, rfTo_succ]; unfold rf1; rw [if_neg (fun hh => h6 hh.2), List.append_nil]⟩ ⟨rfl, rfl, rfl, rfl, rfl, rfl, rfl, rfl, rfl, rfl, rfl, rfl, rfl, rfl, trivial⟩ (fun _ h => h)
            rintro ⟨v5, rs2⟩ ⟨hv5, hrs2⟩
            dsimp only at hv5 hrs2 ⊢
            have hix := ixI_ge (c.co.getD p default) (c.rf.getD r default)
            have hixl : ixI (c.co.getD p default) (c.rf.getD r default) + 1 ≤ (c.co.getD p default).length := by
              by_cases hm : c.rf.getD r default ∈ c.co.getD p default
              · have := ixI_lt hm; omega
              · unfold ixI; rw [if_neg hm]; omega
            refine gO_ ?_
            have hp4 : (t.evs.getD r default).loc.toNat = p := by omega
            have hfrs : frs t c r = (c.co.getD p default).drop (ixI (c.co.getD p default) (c.rf.getD r default) + 1).toNat := by unfold frs; rw [hcp]
            have hsub : Sl All w Eng.encI 1 (subV 1 (ixI (c.co.getD p default) (c.rf.getD r default) + 1).toNat (c.co.getD p default).length (ovs.getD p default)) (frs t c r) := by
              have := hLp.sub (ixI (c.co.getD p default) (c.rf.getD r default) + 1).toNat (c.co.getD p default).length (by omega) (Nat.le_refl _)
              rw [List.take_length] at this
              rw [hfrs]; exact this
            have hsubl : (frs t c r).length ≤ 64 := by rw [hfrs, List.length_drop]; omega
            rw [hp4]
            refine wl_fx (fx_call (spec := fun w' hw => sindex_spec (ovs.getD p default) (c.rf.getD r default) w' (c.co.getD p default) (hw.now hLp (.head _))) (next := ?_))
            rintro v n4 w4 rfl hn4
            refine gO_ ?_
            refine wl_a (h := qy_subLi (h := hLp) (h0 := by omega) (hb := by omega)) (next := ?_)
            generalize hsv : subV 1 (ixI (c.co.getD p default) (c.rf.getD r default) + 1).toNat (c.co.getD p default).length (ovs.getD p default) = sb at *
            refine gO_ ?_
            refine wc_loop (fun s : Nat × Value × List Pair => s.1 ≤ (frs t c r).length ∧ SV s.2.1 ∧ s.2.2 = frTo t c r ++ ((frs t c r).take s.1).map fun w => ⟨(r : Int), w⟩) (fun s => [(152, true, .int .i64 s.1), (151, true, .int .i64 (frs t c r).length), (150, true, sb), (111, true, .int .i64 r), (110, true, .int .i64 t.evs.length), (109, true, ev), (23, true, .int .i64 r), (12, true, s.2.1), (11, true, v2), (10, true, v5), (9, true, v1), (8, true, .pointer (some ⟨b8, 0, none⟩)), (7, true, .int .i64 t.evs.length), (4, true, .pointer (some ⟨b4, 0, none⟩)), (3, true, .pointer (some ⟨bC, 0, none⟩)), (2, true, .pointer (some ⟨bT, 0, none⟩))])
              (fun s => Mem [(w, All)] [.box be (encEv (evi t r)) 36, ownP s.2.1 s.2.2, ownP v5 rs2, ownP v2 ys, ownP v1 xs, .box b8 [.int .i64 t.evs.length, s1, .int .i64 0, .slice none 0 0, .int .i64 0, .slice none 0 0, .int .i64 0, .slice none 0 0, .int .i64 0, .slice none 0 0, .int .i64 0, .slice none 0 0, .int .i64 0, .slice none 0 0, .int .i64 0, .slice none 0 0, .int .i64 0, .slice none 0 0] 62, ownW s1 (relOf t.evs.length (poP t)), .box b4 [.int .i64 0, .slice none 0 0, .int .i64 0, .slice none 0 0, .int .i64 0, .slice none 0 0, .int .i64 0, .slice none 0 0, .int .i64 0, .slice none 0 0, .int .i64 0, .slice none 0 0, .int .i64 0, .slice none 0 0, .int .i64 0, .slice none 0 0, .int .i64 0, .slice none 0 0] 62, .box bC [fv, ov] 33, .box bT [lv, iv, ev, bv, av, dv, cv, tv, nv] 30]) (fun s => (frs t c r).length - s.1) (0, v3, fs) ⟨Nat.zero_le _, hv3, by dsimp only; rw [hfs]; simp⟩ ⟨rfl, rfl, rfl, rfl, rfl, rfl, rfl, rfl, rfl, rfl, rfl, rfl, rfl, rfl, rfl, rfl, trivial⟩ (fun _ h => h.last rfl) ?_
            rintro ⟨q, v6, us⟩ ⟨hq, hv6, hus⟩
            dsimp only at hq hv6 hus ⊢
            have hul : us.length ≤ 5000 := by
              rw [hus, List.length_append, List.length_map, List.length_take]; omega
            refine gO_ ?_
            refine wc_cond rfl (fun h7 => ?_) (fun h7 => ?_)
            · have h7' : q < (frs t c r).length := by rw [dc_true] at h7; omega
              refine gO_ ?_
              refine wl_fx (fx_lit (next := ?_))
              intro v7 hv7
              refine gO_ ?_
              refine wl_fx (fx_append_own (k := 2) (hk := rfl) (hlen := by simp only [List.map, List.length_cons, List.length_nil]; omega) (next := ?_))
              intro v8 hv8
              refine gO_ ?_
              exact po_loop (q + 1, v8, us ++ [(⟨(r : Int), (frs t c r).getD q default⟩ : Pair)]) ⟨by dsimp only; omega, hv8, by dsimp only; rw [hus, take_one h7', List.map_append, List.append_assoc]; rfl⟩ (by dsimp only; omega) ⟨rfl, rfl, rfl, rfl, rfl, rfl, rfl, rfl, rfl, rfl, rfl, rfl, rfl, rfl, rfl, rfl, trivial⟩ (fun _ h => h.tail)
            · have hqn : q = (frs t c r).length := by rw [dc_false] at h7; omega
              refine gO_ ?_
              exact po_loop (r + 1, (v6, us), (v5, rs2)) ⟨by dsimp only; omega, ⟨hv6, by dsimp only; rw [hus, hqn, List.take_length, frTo_succ]; unfold fr1; rw [if_pos h5]⟩, hv5, by dsimp only; rw [hrs2]⟩ (by dsimp only; omega) ⟨rfl, rfl, rfl, rfl, rfl, rfl, rfl, rfl, rfl, rfl, rfl, rfl, trivial⟩ (fun _ h => h.tail)
        · have hrn : r = t.evs.length := by rw [dc_false] at h4; omega
          have hfs' : fs = frTo t c t.evs.length := by rw [hfs, hrn]
          have hrs' : rs = rfTo t c t.evs.length := by rw [hrs, hrn]
          clear hfs hrs hys hxs
          refine gO_ ?_
          refine wl_fx (fx_call_mk (spec := fun w' hw => of_ok hb v1 xs w' (hw.lend (.tail _ (.tail _ (.tail _ (.head _))))) (by rw [hxf]; exact sif_inR hpo)) (next := ?_))
          rintro v n5 es w5 ⟨s2, hs2, rfl, rfl⟩
          refine gO_ ?_
          refine wl_fx (fx_store_box (i := 5) (hi := rfl) (next := ?_))
          refine gO_ ?_
          refine wl_fx (fx_call_mk (spec := fun w' hw => of_ok hb v4 rs w' (hw.lend (.tail _ (.tail _ (.head _)))) (by rw [hrs']; exact rfTo_inR ht hcb)) (next := ?_))
          rintro v n6 es w6 ⟨s3, hs3, rfl, rfl⟩
          refine gO_ ?_
          refine wl_fx (fx_store_box (i := 6) (hi := rfl) (next := ?_))
          refine gO_ ?_
          refine wl_fx (fx_call_mk (spec := fun w' hw => of_ok hb v2 ys w' (hw.lend (.tail _ (.tail _ (.tail _ (.tail _ (.head _)))))) (by rw [hys']; exact coTo_inR ht hcb)) (next := ?_))
          rintro v n7 es w7 ⟨s5, hs5, rfl, rfl⟩
          refine gO_ ?_
          refine wl_fx (fx_store_box (i := 7) (hi := rfl) (next := ?_))
          refine gO_ ?_
          refine wl_fx (fx_call_mk (spec := fun w' hw => of_ok hb v3 fs w' (hw.lend (.tail _ (.tail _ (.tail _ (.head _))))) (by rw [hfs']; exact frTo_inR ht hcb)) (next := ?_))
          rintro v n8 es w8 ⟨s7, hs7, rfl, rfl⟩
          refine gO_ ?_
          refine wl_fx (fx_store_box (i := 8) (hi := rfl) (next := ?_))
          have e2 : relOf t.evs.length (memb xs) = relOf t.evs.length (plP t) := relOf_ext fun i j hi hj => by
            rw [hxf, memb_sif hi, relOf_bt _ _ hb i j hi hj]; rfl
          have e3 : relOf t.evs.length (memb rs) = relOf t.evs.length (rfP t c) := relOf_ext fun i j hi hj => by rw [hrs', memb_rf ht hcb hj]
          have e5 : relOf t.evs.length (memb ys) = relOf t.evs.length (coP t c) := relOf_ext fun i j hi hj => by rw [hys', memb_co ht hcb hi]
          have e7 : relOf t.evs.length (memb fs) = relOf t.evs.length (frP t c) := relOf_ext fun i j hi hj => by rw [hfs', memb_fr ht hcb hi]
          rw [e2, e3, e5, e7]
          refine gO_ ?_
          refine kp_mem (A' := Mem [(w, All)] [.box b8 [.int .i64 t.evs.length, s1, .int .i64 t.evs.length, s2, .int .i64 t.evs.length, s3, .int .i64 0, .slice none 0 0, .int .i64 t.evs.length, s5, .int .i64 0, .slice none 0 0, .int .i64 t.evs.length, s7, .int .i64 0, .slice none 0 0, .int .i64 0, .slice none 0 0] 62, ownW s1 (relOf t.evs.length (poP t)), ownW s2 (relOf t.evs.length (plP t)), ownW s3 (relOf t.evs.length (rfP t c)), ownW s5 (relOf t.evs.length (coP t c)), ownW s7 (relOf t.evs.length (frP t c)), .box b4 [.int .i64 0, .slice none 0 0, .int .i64 0, .slice none 0 0, .int .i64 0, .slice none 0 0, .int .i64 0, .slice none 0 0, .int .i64 0, .slice none 0 0, .int .i64 0, .slice none 0 0, .int .i64 0, .slice none 0 0, .int .i64 0, .slice none 0 0, .int .i64 0, .slice none 0 0] 62, .box bC [fv, ov] 33, .box bT [lv, iv, ev, bv, av, dv, cv, tv, nv] 30]) (fun _ h => (h.last rfl).sel [8, 9, 3, 2, 1, 0, 10, 11, 12] rfl (by decide)) ?_
          refine wc_drawS (fun w' => ∃ x : Value × Value × Value × Value × Value × Value, Mem [(w, All)] [.box b8 [.int .i64 t.evs.length, s1, .int .i64 t.evs.length, s2, .int .i64 t.evs.length, s3, x.1, x.2.1, .int .i64 t.evs.length, s5, x.2.2.1, x.2.2.2.1, .int .i64 t.evs.length, s7, x.2.2.2.2.1, x.2.2.2.2.2, .int .i64 0, .slice none 0 0] 62, .box bT [lv, iv, ev, bv, av, dv, cv, tv, nv] 30] w') [0, 1, 2, 4, 5, 6, 8, 9, 10, 3, 12, 7, 11, 13, 14, 15, 16, 17] mixed (fun _ h => ⟨(.int .i64 0, .slice none 0 0, .int .i64 0, .slice none 0 0, .int .i64 0, .slice none 0 0), h.sel [0, 8] rfl (by decide)⟩) ?_
          refine kg_a (v := .agg #[lv, iv, ev, bv, av, dv, cv, tv, nv]) (h := ?_) (next := ?_)
          · exact qy_ex fun _ => qy_val (qy_load_boxN (hm := .tail _ (.head _))) rfl
          refine kG_ ?_
          refine kg_a (v := .agg #[.int .i64 t.evs.length, s3]) (h := ?_) (next := ?_)
          · exact qy_ex fun _ => qy_val (qy_load_boxN (hm := .head _)) rfl
          refine kg_a (v := .agg #[lv, iv, ev, bv, av, dv, cv, tv, nv]) (h := ?_) (next := ?_)
          · exact qy_ex fun _ => qy_val (qy_load_boxN (hm := .tail _ (.head _))) rfl
          refine kG_ ?_
          refine kg_a (v := .agg #[.int .i64 t.evs.length, s5]) (h := ?_) (next := ?_)
          · exact qy_ex fun _ => qy_val (qy_load_boxN (hm := .head _)) rfl
          refine kg_a (v := .agg #[lv, iv, ev, bv, av, dv, cv, tv, nv]) (h := ?_) (next := ?_)
          · exact qy_ex fun _ => qy_val (qy_load_boxN (hm := .tail _ (.head _))) rfl
          refine kG_ ?_
          refine kg_a (v := .agg #[.int .i64 t.evs.length, s7]) (h := ?_) (next := ?_)
          · exact qy_ex fun _ => qy_val (qy_load_boxN (hm := .head _)) rfl
          refine kG_ ?_
          refine kg_f _ (h := fx_call_mk (spec := fun w' hw => apart_spec s3 (relOf t.evs.length (rfP t c)) w' (h.now hw (.head _)) (hw.lend (.tail _ (.tail _ (.tail _ (.head _))))) (relOk_relOf _ _ hb) (hT.now hw (.head _))) (next := ?_)) (hSS := fun _ h => h)
          rintro v n9 es w9 ⟨s4, hs4, rfl, rfl⟩
          refine kp_S ?_ (fun _ h => ⟨(.int .i64 0, .slice none 0 0, .int .i64 0, .slice none 0 0, .int .i64 0, .slice none 0 0), (h.last rfl).sel [1, 9] rfl (by decide)⟩)
          refine kG_ ?_
          refine kg_f _ (h := fx_call_mk (spec := fun w' hw => apart_spec s5 (relOf t.evs.length (coP t c)) w' (h.now hw (.tail _ (.head _))) (hw.lend (.tail _ (.tail _ (.tail _ (.tail _ (.tail _ (.head _))))))) (relOk_relOf _ _ hb) (hT.now hw (.tail _ (.head _)))) (next := ?_)) (hSS := fun _ h => h)
          rintro v n10 es w10 ⟨s6, hs6, rfl, rfl⟩
          refine kp_S ?_ (fun _ h => ⟨(.int .i64 0, .slice none 0 0, .int .i64 0, .slice none 0 0, .int .i64 0, .slice none 0 0), (h.last rfl).sel [2, 10] rfl (by decide)⟩)
          refine kG_ ?_
          refine kg_f _ (h := fx_call_mk (spec := fun w' hw => apart_spec s7 (relOf t.evs.length (frP t c)) w' (h.now hw (.tail _ (.tail _ (.head _)))) (hw.lend (.tail _ (.tail _ (.tail _ (.tail _ (.tail _ (.tail _ (.tail _ (.head _))))))))) (relOk_relOf _ _ hb) (hT.now hw (.tail _ (.tail _ (.head _))))) (next := ?_)) (hSS := fun _ h => h)
          rintro v n11 es w11 ⟨s8, hs8, rfl, rfl⟩
          refine kp_S ?_ (fun _ h => ⟨(.int .i64 0, .slice none 0 0, .int .i64 0, .slice none 0 0, .int .i64 0, .slice none 0 0), (h.last rfl).sel [3, 11] rfl (by decide)⟩)
          refine kG_ ?_
          refine kg_f _ (h := fx_store_box (i := 3) (hi := rfl) (next := ?_)) (hSS := fun _ h => h)
          refine kp_S ?_ (fun _ h => ⟨(.int .i64 t.evs.length, s4, .int .i64 0, .slice none 0 0, .int .i64 0, .slice none 0 0), (h.last rfl).sel [3, 11] rfl (by decide)⟩)
          refine kG_ ?_
          refine kg_f _ (h := fx_store_box (i := 3) (hi := rfl) (next := ?_)) (hSS := fun _ h => h)
          refine kp_S ?_ (fun _ h => ⟨(.int .i64 t.evs.length, s4, .int .i64 t.evs.length, s6, .int .i64 0, .slice none 0 0), (h.last rfl).sel [3, 11] rfl (by decide)⟩)
          refine kG_ ?_
          refine kg_z (h := fx_store_box (i := 3) (hi := rfl) (next := ?_))
          rw [relOf_ex hb, relOf_ex hb, relOf_ex hb]
          refine kp_mem (A' := Mem [(w, All)] [.box b8 [.int .i64 t.evs.length, s1, .int .i64 t.evs.length, s2, .int .i64 t.evs.length, s3, .int .i64 t.evs.length, s4, .int .i64 t.evs.length, s5, .int .i64 t.evs.length, s6, .int .i64 t.evs.length, s7, .int .i64 t.evs.length, s8, .int .i64 0, .slice none 0 0] 62, ownW s4 (relOf t.evs.length (exP t (rfP t c))), ownW s6 (relOf t.evs.length (exP t (coP t c))), ownW s8 (relOf t.evs.length (exP t (frP t c))), ownW s1 (relOf t.evs.length (poP t)), ownW s2 (relOf t.evs.length (plP t)), ownW s3 (relOf t.evs.length (rfP t c)), ownW s5 (relOf t.evs.length (coP t c)), ownW s7 (relOf t.evs.length (frP t c)), .box b4 [.int .i64 0, .slice none 0 0, .int .i64 0, .slice none 0 0, .int .i64 0, .slice none 0 0, .int .i64 0, .slice none 0 0, .int .i64 0, .slice none 0 0, .int .i64 0, .slice none 0 0, .int .i64 0, .slice none 0 0, .int .i64 0, .slice none 0 0, .int .i64 0, .slice none 0 0] 62, .box bC [fv, ov] 33, .box bT [lv, iv, ev, bv, av, dv, cv, tv, nv] 30]) (fun _ h => (h.last rfl).sel [3, 2, 1, 0, 4, 5, 6, 7, 8, 9, 10, 11] rfl (by decide)) ?_
          refine gO_ ?_
          refine wl_fx (fx_call_mk (spec := fun w' hw => union_ok (relOk_relOf _ (rfP t c) hb) (relOk_relOf _ (coP t c) hb) (hw.lend (.tail _ (.tail _ (.tail _ (.tail _ (.tail _ (.tail _ (.head _)))))))) (hw.lend (.tail _ (.tail _ (.tail _ (.tail _ (.tail _ (.tail _ (.tail _ (.head _)))))))))) (next := ?_))
          rintro v n12 es w12 ⟨s9, hs9, rfl, rfl⟩
          rw [relOf_uni hb]
          refine gO_ ?_
          refine wl_fx (fx_store_box (i := 1) (hi := rfl) (next := ?_))
          refine gO_ ?_
          refine wl_fx (fx_call_mk (spec := fun w' hw => union_ok (relOk_relOf _ (fun i j => rfP t c i j || coP t c i j) hb) (relOk_relOf _ (frP t c) hb) (hw.lend (.head _)) (hw.lend (.tail _ (.tail _ (.tail _ (.tail _ (.tail _ (.tail _ (.tail _ (.tail _ (.tail _ (.head _)))))))))))) (next := ?_))
          rintro v n13 es w13 ⟨s10, hs10, rfl, rfl⟩
          rw [relOf_uni hb]
          refine gO_ ?_
          refine wl_fx (fx_store_box (i := 2) (hi := rfl) (next := ?_))
          refine gO_ ?_
          refine wl_fx (fx_store_box (i := 11) (hi := rfl) (next := ?_))
          refine gO_ ?_
          refine mk_ret Tryz.results41 (.cellN inferInstance rfl (.tail _ (.tail _ (.tail _ (.tail _ (.tail _ (.tail _ (.tail _ (.tail _ (.tail _ (.tail _ (.tail _ (.head _)))))))))))) rfl (.tmp rfl .nil)) (.tail _ (.tail _ (.head _))) [_, _, _, _, _, _, _, _, _] [6, 7, 8, 3, 9, 4, 10, 5, 0] rfl (by decide) fun w' hw => ?_
          unfold vwOf
          rw [if_pos h1]
          refine ⟨s1, s2, s3, s4, s5, s6, s7, s8, s10, ⟨hs1, hs2, hs3, hs4, hs5, hs6, hs7, hs8, hs10⟩, ?_, rfl⟩
          rw [h1]; rfl
end Go.Proofs.YtifgncgiiojikaaGreatDoor
end
