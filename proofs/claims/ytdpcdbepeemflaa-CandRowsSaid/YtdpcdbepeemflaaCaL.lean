/- The walks: cand.All; alembiclaw16.writes, before. -/
import Derived.Test.YtdpcdbepeemflaaCaK
import Derived.Test.YtdpcdbepeemflaaCaJ
set_option linter.unusedSimpArgs false
set_option linter.unusedVariables false
namespace Go.Eng
open Go Go.RowKit
structure CdV where
  r : Value
  o : Value
instance : Inhabited CdV := ⟨⟨.nilIface, .nilIface⟩⟩
def encCdV (c : CdV) : List Value := [c.r, c.o]
def decCdV : List Value → CdV | [a, b] => ⟨a, b⟩ | _ => ⟨.nilIface, .nilIface⟩
instance : Enc encCdV 2 := ⟨fun _ => rfl, by decide⟩
instance : EncOne encCdV (fun c => c.r.oneCell' = true ∧ c.o.oneCell' = true) := ⟨fun _ h u hu => by simp [encCdV] at hu; rcases hu with rfl | rfl; exact h.1; exact h.2⟩
theorem Mem.peel {bs : List Base} {L H : List Ent} {w : World} (h : Mem bs H w) (he : packL L ∈ H) : Mem bs L w := by
  have h0 : Mem [] L w := h.own _ he w fun _ _ => rfl
  exact ⟨h.base, h0.own, h0.inb, fun B hB e hm k hk hS => h.apart B hB _ he k (List.mem_flatMap.2 ⟨e, hm, hk⟩) hS, h0.disj⟩
end Go.Eng
namespace Go.Proofs.Ytdpcdbepeemflaa
open Go Go.Eng Go.Tc
attribute [local irreducible] wpList Code.wp bodyPost Exit.then Exit.inBlock Calls
instance encofCd : EncOf Try.prog 33 encCdV decCdV := ⟨trivial⟩
theorem give_cd {bs : List Base} {H : List Ent} {w w' : World} {ra oa : Value} {vs : List Value} {c : Cd} (hw : Mem bs H w') (h1 : Ent.own ra 3 1 Eng.encI c.rf ∈ H) (h2 : pack2 3 23 oa vs c.co ∈ H) (hl : vs.length = c.co.length) (hs : Small c) (hB : (w, All) ∈ bs) : CdIn (Fr w.heap.size) w' ra oa c :=
  ⟨hw.give h1 hB, (hw.peel h2).give2 3 23 (.head _) hl (fun _ he => .tail _ he) hB, hs.big⟩
theorem getD_snoc {α : Type} [Inhabited α] (l : List α) (x : α) (i : Nat) : (l ++ [x]).getD i default = if i < l.length then l.getD i default else if i = l.length then x else default := by
  rw [List.getD_eq_getElem?_getD]
  by_cases h : i < l.length
  · rw [if_pos h, List.getElem?_append_left h, ← List.getD_eq_getElem?_getD]
  · rw [if_neg h, List.getElem?_append_right (by omega)]
    by_cases e : i = l.length
    · subst e; rw [if_pos rfl, Nat.sub_self]; rfl
    · rw [if_neg e, List.getElem?_eq_none (by simp; omega)]; rfl

set_option maxHeartbeats 3200000 in
theorem cAll_spec {lv iv ev bv av dv cv tv nv : Value} {t : Tr} (w : World) (h : TrIn All w lv iv ev bv av dv cv tv nv t) :
    Pur Try.prog 19 [.agg #[lv, iv, ev, bv, av, dv, cv, tv, nv]] w fun m v w' => ∃ u, v = .tuple #[u, .int .i64 (cntE t)] ∧ (¬ cntE t = 0 → u = .slice none 0 0) ∧ (cntE t = 0 → ∃ L : List CdV, Sl (Fr m) w' encCdV 2 u L ∧ L.length = candN t ∧ ∀ i, i < candN t → CdIn (Fr m) w' (L.getD i default).r (L.getD i default).o (candAt t i)) := by
  refine enter_pur Try.func19 Try.ntmps19 rfl rfl ?_
  refine gO_ ?_
  refine wl_fx (fx_box (next := ?_)); intro bt
  refine gO_ ?_
  refine wl_fx (fx_call (spec := fun w' hw => counted_spec w' (h.now hw (.head _))) (next := ?_))
  rintro v n1 w1 ⟨rv, wv, hrs, hws, rfl, hS⟩ hn1
  refine gO_ ?_
  refine wl_fx (fx_alloc (next := ?_)); intro bc
  refine gO_ ?_
  refine wl_fx (fx_store_box (i := 0) (hi := rfl) (next := ?_))
  refine gO_ ?_
  refine wc_cond rfl (fun h1 => ?_) (fun h1 => ?_)
  · rw [Bool.not_eq_true', dc_false] at h1
    refine gO_ ?_
    refine pur_ret Try.results19 (.tmp rfl (.tmp rfl .nil)) (.tail _ (.head _)) fun w' hw => ?_
    exact ⟨_, rfl, fun _ => rfl, fun h0 => absurd h0 h1⟩
  have hz : cntE t = 0 := by rw [Bool.not_eq_false', dc_true] at h1; exact h1
  clear h1
  obtain ⟨hr, hq⟩ := hS hz
  obtain ⟨hok, hcn⟩ : trOk t = true ∧ candN t ≤ 65536 := by
    unfold cntE at hz
    by_cases a : trOk t = true
    · rw [if_pos a] at hz
      by_cases b : candN t ≤ 65536
      · exact ⟨a, b⟩
      · rw [if_neg b] at hz; cases hz
    · rw [if_neg a] at hz; cases hz
  obtain ⟨hb, hlb⟩ := trOk_lens hok
  have hcc : cntN t = candN t := by unfold cntN; rw [if_pos hok, if_pos hcn]
  rw [hcc]
  refine gO_ ?_
  refine kp_nil 33 2 encCdV ?_
  refine wc_loop (fun s : Nat × Value × List CdV × List Ent => (s.1 ≤ candN t ∧ SV s.2.1) ∧ s.2.2.1.length = s.1 ∧ ∀ j, j < s.1 → ∃ vs, vs.length = (candAt t j).co.length ∧ Ent.own (s.2.2.1.getD j default).r 3 1 Eng.encI (candAt t j).rf ∈ s.2.2.2 ∧ pack2 3 23 (s.2.2.1.getD j default).o vs (candAt t j).co ∈ s.2.2.2)
    (fun s => [(19, true, .int .i64 s.1), (18, true, .int .i64 (candN t : Int)), (7, true, s.2.1), (4, true, .pointer (some ⟨bc, 0, none⟩))])
    (fun s => Mem [(w1, Fr n1), (w, All)] (.own s.2.1 33 2 encCdV s.2.2.1 :: .box bc [rv, wv] 63 :: .box bt [lv, iv, ev, bv, av, dv, cv, tv, nv] 30 :: s.2.2.2)) (fun s => candN t - s.1) (0, .slice none 0 0, [], []) ⟨⟨Nat.zero_le _, svN⟩, rfl, fun j hj => absurd hj (Nat.not_lt_zero _)⟩ ⟨rfl, rfl, rfl, rfl, trivial⟩ (fun _ h => h) ?_
  rintro ⟨i, out, L, E⟩ ⟨⟨hi, hout⟩, hL, hE⟩
  dsimp only at hi hout hL hE ⊢
  refine gO_ ?_
  refine wc_cond rfl (fun h2 => ?_) (fun h2 => ?_)
  · have h2' : i < candN t := by rw [dc_true] at h2; omega
    refine gO_ ?_
    refine wl_fx (fx_call_mk (spec := fun w' hw => cat_spec rv wv t i w' (hw.now2 hr (.head _)) (hw.now2 hq (.head _)) hb hlb hcn (by omega)) (next := ?_))
    rintro v n2 es w2 ⟨ra, oa, vs, hra, hoa, rfl, hvl, rfl⟩
    refine gO_ ?_
    refine wl_fx (fx_lit (enc := encCdV) (dec := decCdV) (e := 33) (sz := 2) (len := 1) (qs := [(0, [ra, oa])]) (next := ?_))
    intro v26 hv26
    refine gO_ ?_
    refine wl_fx (fx_append_own (k := 3) (hk := rfl) (hm := .head _) (hok := fun y hy => by
      obtain rfl : y = ⟨ra, oa⟩ := by simpa [decCdV] using hy
      obtain ⟨_, _, _, rfl⟩ := hra
      obtain ⟨_, _, _, rfl⟩ := hoa
      exact ⟨rfl, rfl⟩) (hlen := by simp only [List.length_map, List.length_cons, List.length_nil]; omega) (next := ?_))
    intro v27 hv27
    refine gO_ ?_
    refine po_loop (i + 1, v27, L ++ [⟨ra, oa⟩], .own ra 3 1 Eng.encI (candAt t i).rf :: pack2 3 23 oa vs (candAt t i).co :: E) ⟨⟨by dsimp only; omega, hv27⟩, by dsimp only; rw [List.length_append]; simp; omega, fun j hj => ?_⟩ (by dsimp only; omega) ⟨rfl, rfl, rfl, rfl, trivial⟩ (fun w' h => ?_)
    · dsimp only at hj ⊢
      rw [getD_snoc]
      by_cases e : j < i
      · obtain ⟨ws, g1, g2, g3⟩ := hE j e
        rw [if_pos (by omega)]
        exact ⟨ws, g1, .tail _ (.tail _ g2), .tail _ (.tail _ g3)⟩
      · obtain rfl : j = i := by omega
        rw [if_neg (by omega), if_pos hL.symm]
        exact ⟨vs, by rw [hvl, ← coTo_all, coTo_len], .head _, .tail _ (.head _)⟩
    · exact h.tail.tailB.perm ((List.perm_append_comm (l₁ := [_, _]) (l₂ := [_, _, _])).append_right E)
  · obtain rfl : i = candN t := by rw [dc_false] at h2; omega
    refine gO_ ?_
    refine pur_ret Try.results19 (.tmp rfl (.tmp rfl .nil)) (.tail _ (.head _)) fun w' hw => ?_
    refine ⟨_, by rw [hz]; rfl, fun h0 => absurd hz h0, fun _ => ⟨L, hw.give (.head _) (.tail _ (.head _)), hL, fun j hj => ?_⟩⟩
    obtain ⟨ws, g1, g2, g3⟩ := hE j hj
    exact give_cd hw (.tail _ (.tail _ (.tail _ g2))) (.tail _ (.tail _ (.tail _ g3))) g1 (candAt_small hok j) (.tail _ (.head _))

set_option maxHeartbeats 1600000 in
theorem writes16_spec {lv iv ev bv av dv cv tv nv : Value} {t : Tr} (loc : Int) (w : World) (h : TrIn All w lv iv ev bv av dv cv tv nv t) :
    Pur Try.prog 21 [.agg #[lv, iv, ev, bv, av, dv, cv, tv, nv], .int .i64 loc] w fun _ v _ => v = .int .i64 ((wr t loc).length : Int) := by
  have hE := h.evs; have hEl := hE.le
  refine enter_pur Try.func21 Try.ntmps21 rfl rfl ?_
  refine gO_ ?_
  refine wl_fx (fx_box (next := ?_)); intro bt
  refine gO_ ?_
  refine wc_loop (fun s : Nat × Nat => s.1 ≤ t.evs.length ∧ s.2 = (wrTo t loc s.1).length) (fun s => [(6, true, .int .i64 s.1), (5, true, .int .i64 s.2), (2, true, .pointer (some ⟨bt, 0, none⟩)), (1, true, .int .i64 loc)])
    (fun _ => Mem [(w, All)] [.box bt [lv, iv, ev, bv, av, dv, cv, tv, nv] 30]) (fun s => t.evs.length - s.1) (0, 0) ⟨Nat.zero_le _, rfl⟩ ⟨rfl, rfl, rfl, rfl, trivial⟩ (fun _ h => h.last rfl) ?_
  rintro ⟨i, n⟩ ⟨hi, hn⟩
  dsimp only at hi hn ⊢
  have hle := wrTo_le t loc i
  refine gO_ ?_
  refine wc_cond rfl (fun h1 => ?_) (fun h1 => ?_)
  · have h1' : i < t.evs.length := by rw [dc_true] at h1; omega
    refine gO_ ?_
    refine wc_cond rfl (fun h2 => ?_) (fun h2 => ?_)
    · rw [wrAt_dc] at h2
      have hs := wrTo_succ t loc i
      rw [if_pos h2] at hs
      refine gO_ ?_
      exact po_loop (i + 1, n + 1) ⟨h1', by dsimp only; rw [hs, List.length_append, hn]; rfl⟩ (by dsimp only; omega) ⟨rfl, rfl, rfl, rfl, trivial⟩ (fun _ h => h.last rfl)
    · rw [wrAt_dc] at h2
      have hs := wrTo_succ t loc i
      rw [if_neg (by rw [h2]; simp), List.append_nil] at hs
      refine gO_ ?_
      exact po_loop (i + 1, n) ⟨h1', by dsimp only; rw [hs, hn]⟩ (by dsimp only; omega) ⟨rfl, rfl, rfl, rfl, trivial⟩ (fun _ h => h.last rfl)
  · obtain rfl : i = t.evs.length := by rw [dc_false] at h1; omega
    refine gO_ ?_
    refine pur_ret Try.results21 (.tmp rfl .nil) (.head _) fun w' hw => ?_
    rw [hn]; rfl

theorem neg_lt : dc ((-1 : Int) < 0) = true := by rw [dc_true]; omega
set_option maxHeartbeats 1600000 in
theorem before16_spec (fa oa fb ob : Value) (a b : Cd) (w : World) (ha : CdIn All w fa oa a) (hb : CdIn All w fb ob b) (hab : Ahead a b) :
    Pur Try.prog 22 [.agg #[fa, oa], .agg #[fb, ob]] w fun _ v _ => v = .bool true := by
  have s1 := ha.rf.sv; have s2 := hb.rf.sv; have s3 := ha.cov; have s4 := hb.cov
  have r1 := ha.rf; have r2 := hb.rf
  obtain ⟨va, hva, hal, hai⟩ := ha.co
  obtain ⟨vb, hvb, hbl, hbi⟩ := hb.co
  have l1 := hva.le; have l2 := hvb.le
  refine enter_pur Try.func22 Try.ntmps22 rfl rfl ?_
  refine gO_ ?_
  refine wl_fx (fx_box (next := ?_)); intro ba
  refine gO_ ?_
  refine wl_fx (fx_box (next := ?_)); intro bb
  refine gO_ ?_
  refine wl_fx (fx_call (spec := fun w' hw => compare_spec fa fb a.rf b.rf w' (hw.now r1 (.head _)) (hw.now r2 (.head _))) (next := ?_))
  rintro v n1 w1 rfl hn1
  rcases hab with hab | ⟨heq, k, hk1, hk2, hke, hkc⟩
  · rw [hab]
    refine gO_ ?_
    refine wc_cond rfl (fun h1 => ?_) (fun h1 => ?_)
    · refine gO_ ?_
      refine pur_ret Try.results22 (.tmp rfl .nil) (.tail _ (.head _)) fun w' hw => ?_
      rw [neg_lt]; rfl
    · simp [dc_eq] at h1
  · rw [heq, cmpL_self]
    refine gO_ ?_
    refine wc_cond rfl (fun h1 => ?_) (fun h1 => ?_)
    · simp [dc_eq] at h1
    clear h1
    refine gO_ ?_
    refine wc_loop (fun i : Nat => i ≤ k) (fun i => [(6, true, .int .i64 i), (3, true, .pointer (some ⟨bb, 0, none⟩)), (2, true, .pointer (some ⟨ba, 0, none⟩))])
      (fun _ => Mem [(w, All)] [.box bb [fb, ob] 33, .box ba [fa, oa] 33]) (fun i => k - i) 0 (Nat.zero_le _) ⟨rfl, rfl, rfl, trivial⟩ (fun _ h => h.last rfl) ?_
    intro i hi
    have hia : i < va.length := by omega
    have hib : i < vb.length := by omega
    have hx := hai i (by omega)
    have hy := hbi i (by omega)
    refine gO_ ?_
    refine wc_cond rfl (fun h2 => ?_) (fun h2 => ?_)
    · refine gO_ ?_
      refine wc_draw [0, 1, 2, 3, 4, 5, 6, 7, 8, 9, 10, 11] mixed ?_
      refine kG_ ?_
      refine kg_f _ (h := fx_call (spec := fun w' hw => compare_spec _ _ (a.co.getD i default) (b.co.getD i default) w' (hw.now hx (.head _)) (hw.now hy (.head _))) (next := ?_)) (hSS := fun _ h => h)
      rintro v n2 w2 rfl hn2
      refine kp_S ?_ (fun _ h => h.tailB)
      by_cases e : i = k
      · subst e
        rw [hkc]
        refine kG_ ?_
        refine gO_ ?_
        refine wc_cond rfl (fun h3 => ?_) (fun h3 => ?_)
        · refine gO_ ?_
          refine pur_ret Try.results22 (.tmp rfl .nil) (.tail _ (.head _)) fun w' hw => ?_
          rw [neg_lt]; rfl
        · simp [dc_eq] at h3
      · rw [hke i (by omega), cmpL_self]
        refine kG_ ?_
        refine gO_ ?_
        refine wc_cond rfl (fun h3 => ?_) (fun h3 => ?_)
        · simp [dc_eq] at h3
        · refine gO_ ?_
          exact po_loop (i + 1) (by omega) (by omega) ⟨rfl, rfl, rfl, trivial⟩ (fun _ h => h.last rfl)
    · exfalso
      simp only [dc_eq, Bool.and_eq_false_iff, decide_eq_false_iff_not] at h2
      omega
end Go.Proofs.Ytdpcdbepeemflaa
