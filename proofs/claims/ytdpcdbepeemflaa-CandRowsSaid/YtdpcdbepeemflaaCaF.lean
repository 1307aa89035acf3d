/- The walks: cand.place, Number; plain: the number of a candidate, there and back. -/
import Derived.Test.YtdpcdbepeemflaaCaB
import Derived.Test.YtdpcdbepeemflaaCaE
set_option linter.unusedSimpArgs false
set_option linter.unusedVariables false
namespace Go.Tc
open Go Go.Eng
/-- the number of an order of a list -/
def plN : List Int → List Int → Nat → Nat
  | _, [], n => n
  | l, x :: o, n => plN (l.eraseIdx (l.idxOf x)) o (n * l.length + l.idxOf x)
def numE (t : Tr) (c : Cd) : Nat → Nat
  | 0 => 0
  | i + 1 => numE t c i * (rdOf t i).length + (rdOf t i).idxOf (c.rf.getD i default)
def numL (t : Tr) (c : Cd) : Nat → Nat
  | 0 => numE t c t.evs.length
  | k + 1 => numL t c k * fact (wr t (k : Int)).length + plN (wr t (k : Int)) (c.co.getD k default) 0
theorem erase_perm {l o : List Int} {x : Int} (h : l.Perm (x :: o)) : (l.eraseIdx (l.idxOf x)).Perm o := by
  have e : l.eraseIdx (l.idxOf x) = l.erase x := (List.erase_eq_eraseIdx_of_idxOf rfl).symm
  rw [e]
  have := h.erase x
  rwa [List.erase_cons_head] at this
theorem pl_add : ∀ (o l : List Int) (n : Nat), l.Perm o → plN l o n = n * fact l.length + plN l o 0
  | [], l, n, h => by
    have : l = [] := h.eq_nil
    subst this
    simp [plN, fact]
  | x :: o, l, n, h => by
    have hx : x ∈ l := h.mem_iff.2 (.head _)
    have hi : l.idxOf x < l.length := List.idxOf_lt_length_of_mem hx
    have hp := erase_perm h
    have hlen : (l.eraseIdx (l.idxOf x)).length + 1 = l.length := by rw [List.length_eraseIdx, if_pos hi]; omega
    rw [plN, plN, pl_add o _ _ hp, pl_add o _ (0 * l.length + _) hp, ← hlen, fact_succ]
    generalize (l.eraseIdx (l.idxOf x)).length = q
    generalize l.idxOf x = k
    rw [Nat.zero_mul, Nat.zero_add, Nat.add_mul, Nat.mul_assoc, Nat.add_assoc]
theorem pl_lt : ∀ (o l : List Int), l.Perm o → plN l o 0 < fact l.length
  | [], l, h => by
    have : l = [] := h.eq_nil
    subst this
    exact fact_pos _
  | x :: o, l, h => by
    have hx : x ∈ l := h.mem_iff.2 (.head _)
    have hi : l.idxOf x < l.length := List.idxOf_lt_length_of_mem hx
    have hp := erase_perm h
    have hlen : (l.eraseIdx (l.idxOf x)).length + 1 = l.length := by rw [List.length_eraseIdx, if_pos hi]; omega
    have ih := pl_lt o _ hp
    rw [plN, pl_add o _ _ hp, ← hlen, fact_succ, Nat.zero_mul, Nat.zero_add]
    have h1 : (l.idxOf x + 1) * fact (l.eraseIdx (l.idxOf x)).length ≤ ((l.eraseIdx (l.idxOf x)).length + 1) * fact (l.eraseIdx (l.idxOf x)).length := Nat.mul_le_mul_right _ (by omega)
    rw [Nat.add_mul, Nat.one_mul] at h1
    omega
theorem ix_of {l : List Int} {x : Int} (h : x ∈ l) : ixI l x = (l.idxOf x : Int) := by unfold ixI; rw [if_pos h]
section
variable {t : Tr} {c : Cd} (hcb : candB t c = true)
include hcb
theorem rf_mem {i : Nat} (hi : i < t.evs.length) : c.rf.getD i default ∈ rdOf t i := by
  have h := rf_in hcb hi
  unfold rdOf
  rcases h with h | ⟨h1, h2⟩
  · rw [h]; split <;> simp
  · rw [if_pos h1]; exact .tail _ h2
theorem numE_lt : ∀ i, i ≤ t.evs.length → numE t c i < evProd t i
  | 0, _ => Nat.one_pos
  | i + 1, h => by
    have ih := numE_lt i (by omega)
    have hx := List.idxOf_lt_length_of_mem (rf_mem hcb (i := i) h)
    rw [numE, evProd, ← rdOf_len]
    have h1 : (numE t c i + 1) * (rdOf t i).length ≤ evProd t i * (rdOf t i).length := Nat.mul_le_mul_right _ (by omega)
    rw [Nat.add_mul, Nat.one_mul] at h1
    omega
theorem numL_lt : ∀ k, k ≤ t.locs.length → numL t c k < evProd t t.evs.length * locProd t k
  | 0, _ => by rw [locProd, Nat.mul_one]; exact numE_lt hcb _ (Nat.le_refl _)
  | k + 1, h => by
    have ih := numL_lt k (by omega)
    have hx := pl_lt _ _ (cp_perm hcb (k := k) h).symm
    rw [numL, locProd, ← Nat.mul_assoc]
    have h1 : (numL t c k + 1) * fact (wr t (k : Int)).length ≤ evProd t t.evs.length * locProd t k * fact (wr t (k : Int)).length := Nat.mul_le_mul_right _ (by omega)
    rw [Nat.add_mul, Nat.one_mul] at h1
    omega
end
end Go.Tc
namespace Go.Proofs.Ytdpcdbepeemflaa
open Go Go.Eng Go.Tc
attribute [local irreducible] wpList Code.wp bodyPost Exit.then Exit.inBlock Calls

set_option maxHeartbeats 1600000 in
theorem place_spec (lv ov : Value) (l o : List Int) (w : World) (hl : Sl All w Eng.encI 1 lv l) (ho : Sl All w Eng.encI 1 ov o) (hp : l.Perm o) (hc : fact l.length ≤ 65536) (hb : l.length ≤ 64) :
    Pur Try.prog 41 [lv, ov] w fun _ v _ => v = .int .i64 (plN l o 0 : Nat) := by
  have hls := hl.sv; have hos := ho.sv
  have hol := ho.le
  have hlo : l.length = o.length := hp.length_eq
  refine enter_pur Try.func41 Try.ntmps41 rfl rfl ?_
  refine gO_ ?_
  refine wl_fx (fx_call_mk (spec := fun w' hw => sclone_spec lv l w' (hw.now hl (.head _)) (by omega)) (next := ?_))
  rintro v n1 es w1 ⟨hv, rfl⟩
  refine gO_ ?_
  refine wc_loop (fun s : Nat × Nat × Value × List Int => (s.1 ≤ o.length ∧ SV s.2.2.1) ∧ s.2.2.2.Perm (o.drop s.1) ∧ plN s.2.2.2 (o.drop s.1) s.2.1 = plN l o 0)
    (fun s => [(14, true, .int .i64 s.1), (13, true, .int .i64 o.length), (12, true, ov), (6, true, .int .i64 s.2.1), (5, true, s.2.2.1)])
    (fun s => Mem [(w, All)] [.own s.2.2.1 3 1 Eng.encI s.2.2.2]) (fun s => o.length - s.1) (0, 0, v, l) ⟨⟨Nat.zero_le _, hv⟩, hp, rfl⟩ ⟨rfl, rfl, rfl, rfl, rfl, trivial⟩ (fun _ h => h.last rfl) ?_
  rintro ⟨i, q, lw, lf⟩ ⟨⟨hi, hlw⟩, hpm, hinv⟩
  dsimp only at hi hlw hpm hinv ⊢
  have hlf : lf.length = o.length - i := by rw [hpm.length_eq, List.length_drop]
  refine gO_ ?_
  refine wc_cond rfl (fun h1 => ?_) (fun h1 => ?_)
  · have h1' : i < o.length := by rw [dc_true] at h1; omega
    have hdr : o.drop i = o.getD i default :: o.drop (i + 1) := by rw [List.drop_eq_getElem_cons h1', List.getD_eq_getElem?_getD, List.getElem?_eq_getElem h1']; rfl
    rw [hdr] at hpm hinv
    generalize hx : o.getD i default = x at *
    have hxm : x ∈ lf := hpm.mem_iff.2 (.head _)
    have hxi := List.idxOf_lt_length_of_mem hxm
    have hqb : q * fact lf.length ≤ 65536 := by
      have e := pl_add _ lf q hpm
      have e2 := pl_lt o l hp
      omega
    have hq6 : q ≤ 65536 := Nat.le_trans (Nat.le_mul_of_pos_right _ (fact_pos _)) hqb
    have hm0 : 0 ≤ (q : Int) * (lf.length : Int) := Int.mul_nonneg (by omega) (by omega)
    have hm1 : (q : Int) * (lf.length : Int) ≤ 65536 * 64 := Int.mul_le_mul (by omega) (by omega) (by omega) (by omega)
    have hm2 : (q : Int) * (lf.length : Int) + (lf.idxOf x : Int) = ((q * lf.length + lf.idxOf x : Nat) : Int) := by push_cast; rfl
    refine gO_ ?_
    rw [hx]
    refine wl_fx (fx_call (spec := fun w' hw => sindex_spec lw x w' lf (hw.lend (.head _))) (next := ?_))
    rintro v2 n2 w2 rfl hn2
    rw [ix_of hxm]
    refine gO_ ?_
    rw [hm2]
    refine wl_fx (fx_call_mu 0 rfl (spec := fun w' hw => sdelete_spec lw lf (lf.idxOf x) w' hxi (hw.only (.head _))) (next := ?_))
    rintro v3 n3 e' w3 ⟨hv3, rfl⟩
    refine gO_ ?_
    refine po_loop (i + 1, q * lf.length + lf.idxOf x, v3, lf.eraseIdx (lf.idxOf x)) ⟨⟨by dsimp only; omega, hv3⟩, erase_perm hpm, ?_⟩ (by dsimp only; omega) ⟨rfl, rfl, rfl, rfl, rfl, trivial⟩ (fun _ h => h.last rfl)
    dsimp only
    rw [← hinv, plN]
  · obtain rfl : i = o.length := by rw [dc_false] at h1; omega
    rw [List.drop_length, plN] at hinv
    refine gO_ ?_
    refine pur_ret Try.results41 (.tmp rfl .nil) (.head _) fun w' hw => ?_
    rw [← hinv]; rfl

set_option maxHeartbeats 3200000 in
theorem cNumber_spec {lv iv ev bv av dv cv tv nv : Value} {t : Tr} (fv ov : Value) (c : Cd) (w : World) (h : TrIn All w lv iv ev bv av dv cv tv nv t) (hc : CdIn All w fv ov c) (hz : cdE t c = 0) (hn : cntE t = 0) :
    Pur Try.prog 23 [.agg #[lv, iv, ev, bv, av, dv, cv, tv, nv], .agg #[fv, ov]] w fun _ v _ => v = .tuple #[.int .i64 (numL t c t.locs.length : Nat), .int .i64 0] := by
  obtain ⟨ht, hcb⟩ := cdE_parts hz
  obtain ⟨hb, hlb⟩ := trOk_lens ht
  have hcn : candN t ≤ 65536 := by
    unfold cntE at hn
    rw [if_pos ht] at hn
    by_cases q : candN t ≤ 65536
    · exact q
    · rw [if_neg q] at hn; cases hn
  have s1 := hc.rf.sv; have s2 := hc.cov
  have hF := hc.rf; have hFl := hF.le
  have hrl : c.rf.length = t.evs.length := ((candB_iff t c).1 hcb).1
  have hcl : c.co.length = t.locs.length := ((candB_iff t c).1 hcb).2.1
  obtain ⟨vs, hvs, hvl, hvi⟩ := hc.co
  have hvle := hvs.le
  refine enter_pur Try.func23 Try.ntmps23 rfl rfl ?_
  refine gO_ ?_
  refine wl_fx (fx_box (next := ?_)); intro bt
  refine gO_ ?_
  refine wl_fx (fx_box (next := ?_)); intro bc
  refine gO_ ?_
  refine wl_fx (fx_call (spec := fun w' hw => ccheck_spec fv ov c w' (h.now hw (.head _)) (hc.now hw (.head _))) (next := ?_))
  rintro v n1 w1 rfl hn1
  rw [hz]
  refine gO_ ?_
  refine wc_cond rfl (fun h1 => ?_) (fun h1 => ?_)
  · exfalso; simp [dc_eq] at h1
  clear h1
  refine gO_ ?_
  refine wl_fx (fx_call (spec := fun w' hw => counted_spec w' (h.now hw (.tail _ (.head _)))) (next := ?_))
  rintro v n2 w2 ⟨rv, wv, hrs, hws, rfl, hS⟩ hn2
  obtain ⟨⟨rvs, hrv, hrvl, hri⟩, ⟨wvs, hwv, hwvl, hwi⟩⟩ := hS hn
  have hrvle := hrv.le; have hwvle := hwv.le
  rw [rds_len] at hrvl hri
  rw [wrs_len] at hwvl hwi
  rw [hn]
  refine kp_mem (fun _ h => h.dropB1) ?_
  refine gO_ ?_
  refine wl_fx (fx_alloc (next := ?_)); intro bx
  refine gO_ ?_
  refine wl_fx (fx_store_box (i := 0) (hi := rfl) (next := ?_))
  refine gO_ ?_
  refine wc_cond rfl (fun h2 => ?_) (fun h2 => ?_)
  · exfalso; simp [dc_eq] at h2
  clear h2
  refine gO_ ?_
  refine wc_loop (fun i : Nat => i ≤ t.evs.length) (fun i => [(33, true, .int .i64 i), (32, true, .int .i64 c.rf.length), (31, true, fv), (10, true, .int .i64 (numE t c i : Nat)), (7, true, .pointer (some ⟨bx, 0, none⟩)), (3, true, .pointer (some ⟨bc, 0, none⟩))])
    (fun _ => Mem [(w2, Fr n2), (w, All)] [.box bx [rv, wv] 63, .box bc [fv, ov] 33, .box bt [lv, iv, ev, bv, av, dv, cv, tv, nv] 30]) (fun i => t.evs.length - i) 0 (Nat.zero_le _) ⟨rfl, rfl, rfl, rfl, rfl, rfl, trivial⟩ (fun _ h => h) ?_
  intro i hi
  have hlt := numE_lt hcb i hi
  have hle := candN_ev t hi
  refine gO_ ?_
  refine wc_cond rfl (fun h3 => ?_) (fun h3 => ?_)
  · have h3' : i < t.evs.length := by rw [dc_true] at h3; omega
    have h3r : i < rvs.length := by omega
    have hx := hri i h3'
    rw [rds_get t h3'] at hx
    have hxs := hx.sv
    have hxl := rdOf_le hb i
    have hmem := rf_mem hcb h3'
    have hm0 : 0 ≤ (numE t c i : Int) * ((rdOf t i).length : Int) := Int.mul_nonneg (by omega) (by omega)
    have hm1 : (numE t c i : Int) * ((rdOf t i).length : Int) ≤ 65536 * 65 := Int.mul_le_mul (by omega) (by omega) (by omega) (by omega)
    have hidx := List.idxOf_lt_length_of_mem hmem
    have hm2 : (numE t c i : Int) * ((rdOf t i).length : Int) + ((rdOf t i).idxOf (c.rf.getD i default) : Int) = ((numE t c (i + 1) : Nat) : Int) := by rw [numE]; push_cast; rfl
    refine gO_ ?_
    refine wc_draw [0, 1, 2, 3, 4, 5, 6, 7, 8, 9, 10, 11, 12, 13, 14, 15, 16] mixed ?_
    refine kG_ ?_
    refine kg_f _ (h := fx_call (spec := fun w' hw => sindex_spec _ (c.rf.getD i default) w' (rdOf t i) (hw.now hx (.head _))) (next := ?_)) (hSS := fun _ h => h)
    rintro v n3 w3 rfl hn3
    refine kp_S ?_ (fun _ h => h.tailB)
    rw [ix_of hmem]
    refine kG_ ?_
    rw [hm2]
    refine gO_ ?_
    refine po_loop (i + 1) (by omega) (by omega) ⟨rfl, rfl, rfl, rfl, rfl, rfl, trivial⟩ (fun _ h => h.tailB)
  obtain rfl : i = t.evs.length := by rw [dc_false] at h3; omega
  clear h3
  refine gO_ ?_
  refine wc_loop (fun k : Nat => k ≤ t.locs.length) (fun k => [(58, true, .int .i64 k), (57, true, .int .i64 vs.length), (56, true, ov), (10, true, .int .i64 (numL t c k : Nat)), (7, true, .pointer (some ⟨bx, 0, none⟩))])
    (fun _ => Mem [(w2, Fr n2), (w, All)] [.box bx [rv, wv] 63, .box bc [fv, ov] 33, .box bt [lv, iv, ev, bv, av, dv, cv, tv, nv] 30]) (fun k => t.locs.length - k) 0 (Nat.zero_le _) ⟨rfl, rfl, rfl, rfl, rfl, trivial⟩ (fun _ h => h) ?_
  intro k hk
  have hlt := numL_lt hcb k hk
  have hle := candN_loc t hk
  refine gO_ ?_
  refine wc_cond rfl (fun h4 => ?_) (fun h4 => ?_)
  · have h4' : k < t.locs.length := by rw [dc_true] at h4; omega
    have h4v : k < vs.length := by omega
    have h4w : k < wvs.length := by omega
    have hx := hwi k h4'
    rw [wrs_get t h4'] at hx
    have hy := hvi k (by omega)
    have hxs := hx.sv; have hys := hy.sv
    have hxl := wr_le hb (k : Int)
    have hpm := (cp_perm hcb h4').symm
    have hyl : (c.co.getD k default).length = (wr t (k : Int)).length := hpm.length_eq.symm
    have hfc := fact_le_cand hcn h4'
    have hcap : cap (fact (wr t (k : Int)).length) = fact (wr t (k : Int)).length := by unfold cap; omega
    have hpl := pl_lt _ _ hpm
    have hm0 : 0 ≤ (numL t c k : Int) * (fact (wr t (k : Int)).length : Int) := Int.mul_nonneg (by omega) (by omega)
    have hm1 : (numL t c k : Int) * (fact (wr t (k : Int)).length : Int) ≤ 65536 * 65536 := Int.mul_le_mul (by omega) (by omega) (by omega) (by omega)
    have hm2 : (numL t c k : Int) * (fact (wr t (k : Int)).length : Int) + (plN (wr t (k : Int)) (c.co.getD k default) 0 : Int) = ((numL t c (k + 1) : Nat) : Int) := by rw [numL]; push_cast; rfl
    refine gO_ ?_
    refine wc_draw [0, 1, 2, 5, 6, 7, 8, 9, 10, 3, 4, 11, 12, 13] mixed ?_
    refine kG_ ?_
    refine kg_f _ (h := fx_call (spec := fun w' hw => corders_spec (c.co.getD k default).length w' (by omega)) (next := ?_)) (hSS := fun _ h => h)
    rintro v n4 w4 rfl hn4
    refine kp_S ?_ (fun _ h => h.tailB)
    rw [hyl, hcap]
    refine kG_ ?_
    refine kg_f _ (h := fx_call (spec := fun w' hw => place_spec _ _ (wr t (k : Int)) (c.co.getD k default) w' (hw.now hx (.tail _ (.head _))) (hw.now hy (.tail _ (.tail _ (.head _)))) hpm hfc hxl) (next := ?_)) (hSS := fun _ h => h)
    rintro v n5 w5 rfl hn5
    refine kp_S ?_ (fun _ h => h.tailB.tailB)
    refine kG_ ?_
    rw [hm2]
    refine gO_ ?_
    refine po_loop (k + 1) (by omega) (by omega) ⟨rfl, rfl, rfl, rfl, rfl, trivial⟩ (fun _ h => h.tailB.tailB)
  · obtain rfl : k = t.locs.length := by rw [dc_false] at h4; omega
    refine gO_ ?_
    refine pur_ret Try.results23 (.tmp rfl (.tmp rfl .nil)) (.tail _ (.head _)) fun w' hw => ?_
    rfl
end Go.Proofs.Ytdpcdbepeemflaa
