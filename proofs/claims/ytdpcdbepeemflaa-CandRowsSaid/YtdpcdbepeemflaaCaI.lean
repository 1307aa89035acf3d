/- The law CandReads, walked; alembicref16.Copy. -/
import Derived.Test.YtdpcdbepeemflaaCaH
set_option linter.unusedSimpArgs false
set_option linter.unusedVariables false
namespace Go.Eng
open Go
/-- '%' of unsigned numbers -/
theorem qy_rmu {P : Program} {N : Nat} {tm : Tm} {A : World → Prop} {c : Bool} {t t' : TypeId} {x y : Operand} {m n : BitVec 64} (hx : EV tm c x (u64 m)) (hy : EV tm c y (u64 n)) (hn : c = true → ¬ n.toNat = 0) : QY P N (.binOp .rem t x y t') tm A c (u64 (m % n)) := by
  by_cases hc : c = true
  · have h0 := hn hc
    exact qy_int2 hx hy (fun w => by
      simp [binOp, Op.intDiv, h0, u64]
      try exact (Int.ofNat_tmod m.toNat n.toNat).symm)
  · unfold QY; exact fun h => absurd h hc
theorem inner_snoc (t : TypeId) {vs : List Value} {xss : List (List Int)} (h : vs.length = xss.length) (v : Value) (xs : List Int) : inner t (vs ++ [v]) (xss ++ [xs]) = inner t vs xss ++ [.own v t 1 encI xs] := by
  unfold inner
  rw [List.zipWith_append h]; rfl
end Go.Eng
namespace Go.Tc
open Go Go.Eng
theorem take_snoc {l : List (List Int)} {i : Nat} (h : i < l.length) : l.take (i + 1) = l.take i ++ [l.getD i default] := by
  rw [List.take_add_one, List.getD_eq_getElem?_getD, List.getElem?_eq_getElem h]; rfl
theorem gd_mem {α : Type} [Inhabited α] {l : List α} {i : Nat} (h : i < l.length) : l.getD i default ∈ l := by
  rw [List.getD_eq_getElem?_getD, List.getElem?_eq_getElem h]; exact List.getElem_mem h
/-- the reads -/
def isR (t : Tr) (i : Nat) : Bool := decide ((t.evs.getD i default).dir = 1)
def rdsTo (t : Tr) (n : Nat) : List Int := ((List.range n).filter (isR t)).map fun (i : Nat) => (i : Int)
theorem rdsTo_succ (t : Tr) (n : Nat) : rdsTo t (n + 1) = rdsTo t n ++ (if isR t n = true then [(n : Int)] else []) := by
  unfold rdsTo
  rw [List.range_succ, List.filter_append, List.map_append]
  by_cases h : isR t n = true
  · rw [if_pos h, List.filter_cons_of_pos h]; rfl
  · rw [if_neg h, List.filter_cons_of_neg h]; rfl
theorem rdsTo_le (t : Tr) (n : Nat) : (rdsTo t n).length ≤ n := by
  unfold rdsTo
  rw [List.length_map]
  exact Nat.le_trans (List.length_filter_le _ _) (by simp)
theorem mem_rdsTo {t : Tr} {n : Nat} {x : Int} : x ∈ rdsTo t n ↔ ∃ i : Nat, i < n ∧ x = i ∧ (t.evs.getD i default).dir = 1 := by
  unfold rdsTo
  simp only [List.mem_map, List.mem_filter, List.mem_range, isR, decide_eq_true_eq]
  constructor
  · rintro ⟨i, ⟨h1, h2⟩, rfl⟩; exact ⟨i, h1, rfl, h2⟩
  · rintro ⟨i, h1, rfl, h2⟩; exact ⟨i, ⟨h1, h2⟩, rfl⟩
/-- another write for one read -/
def putC (c : Cd) (r : Nat) (y : Int) : Cd := ⟨c.rf.set r y, c.co⟩
section
variable {t : Tr} {c : Cd} {r : Nat} {y : Int}
theorem put_rf (i : Nat) (hr : r < c.rf.length) : (putC c r y).rf.getD i default = if i = r then y else c.rf.getD i default := by
  show (c.rf.set r y).getD i default = _
  rw [List.getD_eq_getElem?_getD, List.getElem?_set]
  by_cases e : r = i
  · subst e; rw [if_pos rfl, if_pos hr, if_pos rfl]; rfl
  · rw [if_neg e, if_neg (fun h => e h.symm), ← List.getD_eq_getElem?_getD]
theorem put_ok (hz : cdE t c = 0) (hr : r < t.evs.length) (hy : y ∈ rdOf t r) : cdE t (putC c r y) = 0 := by
  obtain ⟨ht, hcb⟩ := cdE_parts hz
  obtain ⟨h1, h2, h3, h4⟩ := (candB_iff t c).1 hcb
  unfold cdE
  rw [if_pos ht, if_pos]
  refine (candB_iff t _).2 ⟨?_, h2, fun i hi => ?_, h4⟩
  · show (c.rf.set r y).length = _; rw [List.length_set]; exact h1
  · have h3' := h3 i hi
    rw [rdb_eq, decide_eq_true_eq] at h3' ⊢
    rw [put_rf i (by omega)]
    by_cases e : i = r
    · subst e; rw [if_pos rfl]; exact hy
    · rw [if_neg e]; exact h3'
theorem put_val (hr : r < c.rf.length) {i : Nat} (h : ¬ i = r) : readV t (putC c r y) i = readV t c i := by
  unfold readV
  rw [put_rf i hr, if_neg h]
theorem put_want (hr : r < c.rf.length) (hd : (t.evs.getD r default).dir = 1) : readV t (putC c r y) r = if y < 0 then t.init.getD (t.evs.getD r default).loc.toNat default else (t.evs.getD y.toNat default).value := by
  unfold readV
  rw [put_rf r hr, if_pos rfl, if_neg (by omega)]
theorem put_fin (hz : cdE t c = 0) (hr : r < c.rf.length) (hd : (t.evs.getD r default).dir = 1) {i : Nat} (hi : i < t.ends.length) (h : ¬ ((t.ends.getD i default).kind = 2 ∧ (t.ends.getD i default).n = r)) : finV t (putC c r y) i = finV t c i := by
  obtain ⟨ht, hcb⟩ := cdE_parts hz
  have he := end_is ht hi
  unfold finV
  by_cases k1 : (t.ends.getD i default).kind = 1
  · rw [if_pos k1, if_pos k1]
  · rw [if_neg k1, if_neg k1]
    by_cases k2 : (t.ends.getD i default).kind = 2
    · rw [if_pos k2, if_pos k2, put_val hr (by omega)]
    · rw [if_neg k2, if_neg k2]
      show (if (c.co.getD (t.ends.getD i default).n.toNat default).length = 0 then _ else readV t (putC c r y) ((c.co.getD (t.ends.getD i default).n.toNat default).getD ((c.co.getD (t.ends.getD i default).n.toNat default).length - 1) default).toNat) = _
      by_cases k3 : (c.co.getD (t.ends.getD i default).n.toNat default).length = 0
      · rw [if_pos k3, if_pos k3]
      · rw [if_neg k3, if_neg k3, put_val hr]
        intro e
        have hpm := cp_perm hcb (k := (t.ends.getD i default).n.toNat) (by omega)
        have hl : (c.co.getD (t.ends.getD i default).n.toNat default).length - 1 < (c.co.getD (t.ends.getD i default).n.toNat default).length := by omega
        have hm : (c.co.getD (t.ends.getD i default).n.toNat default).getD ((c.co.getD (t.ends.getD i default).n.toNat default).length - 1) default ∈ c.co.getD (t.ends.getD i default).n.toNat default := gd_mem hl
        obtain ⟨j, hj, e2, hdj, _⟩ := wm_iff.1 (hpm.mem_iff.1 hm)
        rw [e2] at e
        have e3 : j = r := by omega
        rw [e3] at hdj
        omega
theorem put_end (hr : r < c.rf.length) {i : Nat} (h : (t.ends.getD i default).kind = 2 ∧ (t.ends.getD i default).n = r) : finV t (putC c r y) i = readV t (putC c r y) r := by
  unfold finV
  rw [if_neg (by omega), if_pos h.1, h.2]; rfl
end
end Go.Tc
namespace Go.Proofs.Ytdpcdbepeemflaa
open Go Go.Eng Go.Tc
attribute [local irreducible] wpList Code.wp bodyPost Exit.then Exit.inBlock Calls

set_option maxHeartbeats 3200000 in
theorem rCopy16_spec (fv ov : Value) (c : Cd) (w : World) (hc : CdIn All w fv ov c) (hS : Small c) :
    Mk Try.prog 17 [.agg #[fv, ov]] w fun _ v es _ => ∃ ra oa vs, SV ra ∧ SV oa ∧ v = .agg #[ra, oa] ∧ vs.length = c.co.length ∧ es = [.own ra 3 1 Eng.encI c.rf, pack2 3 23 oa vs c.co] := by
  have s1 := hc.rf.sv; have s2 := hc.cov
  have hF := hc.rf; have hFl := hF.le
  obtain ⟨cvs, hvs, hvl, hvi⟩ := hc.co
  have hvle := hvs.le
  have hs1 := hS.rf; have hs2 := hS.co
  refine enter_mk Try.func17 Try.ntmps17 rfl rfl ?_
  refine gO_ ?_
  refine wl_fx (fx_box (next := ?_)); intro bc
  refine gO_ ?_
  refine wl_fx (fx_alloc (next := ?_)); intro br2
  refine gO_ ?_
  refine wl_fx (fx_alloc (next := ?_)); intro bo
  refine gO_ ?_
  refine kp_nil 3 1 Eng.encI ?_
  refine wl_fx (fx_append_base (k := 0) (hk := rfl) (h := hF) (hlen := by simp only [List.length_nil, Nat.zero_add]; omega) (next := ?_))
  intro ra hra
  refine gO_ ?_
  refine wl_fx (fx_store_box (i := 1) (hi := rfl) (next := ?_))
  refine kp_nil 23 1 encV ?_
  refine kp_mem (A' := Mem [(w, All)] (.box bo [ra, .slice none 0 0] 33 :: .own (.slice none 0 0) 23 1 encV [] :: .own ra 3 1 Eng.encI c.rf :: .box br2 [.slice none 0 0, .slice none 0 0] 33 :: .box bc [fv, ov] 33 :: inner 3 [] (c.co.take 0))) (fun _ h => h.sel [2, 0, 1, 3, 4] rfl (by decide)) ?_
  refine gO_ ?_
  refine wc_loop (fun s : Nat × Value × List Value => s.1 ≤ c.co.length ∧ SV s.2.1 ∧ s.2.2.length = s.1) (fun s => [(4, true, .int .i64 s.1), (3, true, .pointer (some ⟨bo, 0, none⟩)), (2, true, .pointer (some ⟨br2, 0, none⟩)), (1, true, .pointer (some ⟨bc, 0, none⟩))])
    (fun s => Mem [(w, All)] (.box bo [ra, s.2.1] 33 :: .own s.2.1 23 1 encV s.2.2 :: .own ra 3 1 Eng.encI c.rf :: .box br2 [.slice none 0 0, .slice none 0 0] 33 :: .box bc [fv, ov] 33 :: inner 3 s.2.2 (c.co.take s.1))) (fun s => c.co.length - s.1) (0, .slice none 0 0, []) ⟨Nat.zero_le _, svN, rfl⟩ ⟨rfl, rfl, rfl, rfl, trivial⟩ (fun _ h => h) ?_
  rintro ⟨i, qv, vs⟩ ⟨hi, hqv, hvsl⟩
  dsimp only at hi hqv hvsl ⊢
  refine gO_ ?_
  refine wc_cond rfl (fun h1 => ?_) (fun h1 => ?_)
  · have h1' : i < c.co.length := by rw [dc_true] at h1; omega
    have h1v : i < cvs.length := by omega
    have hx := hvi i h1'
    have hxs := hx.sv
    have hxl := hS.cs i h1'
    refine gO_ ?_
    refine kp_nil 3 1 Eng.encI ?_
    refine wl_fx (fx_append_base (k := 0) (hk := rfl) (h := hx) (hlen := by simp only [List.length_nil, Nat.zero_add]; omega) (next := ?_))
    intro v25 hv25
    refine gO_ ?_
    refine wl_fx (fx_lit (next := ?_))
    intro v29 hv29
    refine gO_ ?_
    refine wl_fx (fx_append_own (k := 3) (hk := rfl) (hm := .head _) (hok := fun y hy => by
      obtain rfl : y = v25 := by simpa [decV] using hy
      obtain ⟨_, _, _, rfl⟩ := hv25
      rfl) (hlen := by simp only [List.length_map, List.length_cons, List.length_nil]; omega) (next := ?_))
    intro v30 hv30
    refine gO_ ?_
    refine wl_fx (fx_store_box (i := 2) (hi := rfl) (next := ?_))
    refine gO_ ?_
    refine po_loop (i + 1, v30, vs ++ [v25]) ⟨by dsimp only; omega, hv30, by dsimp only; rw [List.length_append]; simp; omega⟩ (by dsimp only; omega) ⟨rfl, rfl, rfl, rfl, trivial⟩ (fun w' h => ?_)
    dsimp only
    rw [take_snoc h1', inner_snoc 3 (by rw [List.length_take]; omega)]
    exact h.tail.perm (List.perm_append_comm (l₁ := [_]))
  · obtain rfl : i = c.co.length := by rw [dc_false] at h1; omega
    rw [List.take_length]
    refine gO_ ?_
    refine wl_fx (fx_store_box (i := 3) (hi := rfl) (next := ?_))
    refine gO_ ?_
    refine kp_mem (A' := Mem [(w, All)] [pack2 3 23 qv vs c.co, .box bo [ra, qv] 33, .own ra 3 1 Eng.encI c.rf, .box br2 [ra, qv] 33, .box bc [fv, ov] 33]) (fun _ h => (h.perm ((List.Perm.swap _ _ _).trans (List.Perm.cons _ (List.perm_append_comm (l₁ := [_, _, _, _]))))).pack) ?_
    exact mk_ret Try.results17 (.cellN inferInstance rfl (.tail _ (.tail _ (.tail _ (.head _)))) rfl .nil) (.head _) [_, _] [2, 0] rfl (by decide) fun w' hw => ⟨ra, qv, vs, hra, hqv, rfl, hvsl, rfl⟩
end Go.Proofs.Ytdpcdbepeemflaa
