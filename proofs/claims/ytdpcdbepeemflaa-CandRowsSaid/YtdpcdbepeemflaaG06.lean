import Derived.Test.YtdpcdbepeemflaaG05
import Derived.Test.YtdpcdbepeemflaaG02
set_option linter.unusedSimpArgs false
set_option linter.unusedVariables false
section
/- Candidates: writes of a location; alembicref16.Writes, in; cand.many. -/
namespace Go.Tc
open Go Go.Eng
def wrAt (t : Tr) (loc : Int) (i : Nat) : Bool := decide ((t.evs.getD i default).dir = 2) && decide ((t.evs.getD i default).loc = loc)
/-- the writes of a location among the first so many events, rising -/
def wrTo (t : Tr) (loc : Int) (n : Nat) : List Int := ((List.range n).filter (wrAt t loc)).map fun (i : Nat) => (i : Int)
def wr (t : Tr) (loc : Int) : List Int := wrTo t loc t.evs.length
theorem wrTo_succ (t : Tr) (loc : Int) (n : Nat) : wrTo t loc (n + 1) = wrTo t loc n ++ (if wrAt t loc n = true then [(n : Int)] else []) := by
  unfold wrTo
  rw [List.range_succ, List.filter_append, List.map_append]
  cases h : wrAt t loc n <;> simp [h]
theorem wrTo_le (t : Tr) (loc : Int) (n : Nat) : (wrTo t loc n).length ≤ n := by
  unfold wrTo
  rw [List.length_map]
  exact Nat.le_trans (List.length_filter_le _ _) (by simp)
theorem wrAt_dc (t : Tr) (loc : Int) (i : Nat) : (dc ((t.evs.getD i default).dir = 2) && dc ((t.evs.getD i default).loc = loc)) = wrAt t loc i := by
  rw [dc_eq, dc_eq]; rfl
end Go.Tc
namespace Go.Proofs.Ytdpcdbepeemflaa
open Go Go.Eng Go.Tc
attribute [local irreducible] wpList Code.wp bodyPost Exit.then Exit.inBlock Calls

set_option maxHeartbeats 1600000 in
theorem rwrites_spec {lv iv ev bv av dv cv tv nv : Value} {t : Tr} (loc : Int) (w : World) (h : TrIn All w lv iv ev bv av dv cv tv nv t) (hb : t.evs.length ≤ 64) :
    Pur Try.prog 16 [.agg #[lv, iv, ev, bv, av, dv, cv, tv, nv], .int .i64 loc] w fun m v w' => Sl (Fr m) w' encI 1 v (wr t loc) := by
  have hE := h.evs
  refine enter_pur Try.func16 Try.ntmps16 rfl rfl ?_
  refine gO_ ?_
  refine wl_fx (fx_box (next := ?_)); intro bt
  refine gO_ ?_
  refine kp_nil 3 1 encI ?_
  refine wc_loop (fun s : Nat × Value × List Int => s.1 ≤ t.evs.length ∧ SV s.2.1 ∧ s.2.2 = wrTo t loc s.1) (fun s => [(6, true, .int .i64 s.1), (5, true, s.2.1), (2, true, .pointer (some ⟨bt, 0, none⟩)), (1, true, .int .i64 loc)])
    (fun s => Mem [(w, All)] [.own s.2.1 3 1 encI s.2.2, .box bt [lv, iv, ev, bv, av, dv, cv, tv, nv] 30]) (fun s => t.evs.length - s.1) (0, .slice none 0 0, []) ⟨Nat.zero_le _, ⟨_, _, _, rfl⟩, rfl⟩ ⟨rfl, rfl, rfl, rfl, trivial⟩ (fun _ h => h.last rfl) ?_
  rintro ⟨i, v1, xs⟩ ⟨hi, hv1, hxs⟩
  dsimp only at hi hv1 hxs ⊢
  have hxl : xs.length ≤ i := by rw [hxs]; exact wrTo_le _ _ _
  refine gO_ ?_
  refine wc_cond rfl (fun h1 => ?_) (fun h1 => ?_)
  · have h1' : i < t.evs.length := by rw [dc_true] at h1; omega
    refine gO_ ?_
    refine wc_cond rfl (fun h2 => ?_) (fun h2 => ?_)
    · have h2' := (wrAt_dc t loc i).symm.trans h2
      refine gO_ ?_
      refine wl_fx (fx_lit (next := ?_)); intro v4 hv4
      refine gO_ ?_
      refine wl_fx (fx_append_own (k := 1) (hk := rfl) (hlen := by simp; omega) (next := ?_)); intro v5 hv5
      refine gO_ ?_
      exact po_loop (i + 1, v5, xs ++ [(i : Int)]) ⟨by dsimp only; omega, hv5, by dsimp only; rw [hxs, wrTo_succ, if_pos h2']⟩ (by dsimp only; omega) ⟨rfl, rfl, rfl, rfl, trivial⟩ (fun _ h => h.sel [1, 2] rfl (by decide))
    · have h2' := (wrAt_dc t loc i).symm.trans h2
      refine gO_ ?_
      exact po_loop (i + 1, v1, xs) ⟨by dsimp only; omega, hv1, by dsimp only; rw [hxs, wrTo_succ, if_neg (by rw [h2']; simp), List.append_nil]⟩ (by dsimp only; omega) ⟨rfl, rfl, rfl, rfl, trivial⟩ (fun _ h => h)
  · refine gO_ ?_
    rw [dc_false] at h1
    obtain rfl : i = t.evs.length := by omega
    exact pur_ret Try.results16 (.tmp rfl .nil) (.head _) fun w' hw => by
      rw [show wr t loc = xs from hxs.symm]
      exact hw.give (.head _) (.head _)

set_option maxHeartbeats 800000 in
theorem many_spec (a b : Nat) (w : World) :
    Pur Try.prog 61 [.int .i64 a, .int .i64 b] w fun _ v _ => v = .int .i64 ((if 65536 < a ∨ 65536 < b then 65537 else min (a * b) 65537 : Nat) : Int) := by
  refine enter_pur Try.func61 Try.ntmps61 rfl rfl ?_
  refine gO_ ?_
  refine wc_cond rfl (fun h1 => ?_) (fun h1 => ?_)
  · simp only [Bool.or_eq_true, dc_true] at h1
    refine gO_ ?_
    refine pur_ret Try.results61 (.tmp rfl .nil) (.head _) fun w' hw => ?_
    rw [if_pos (by omega)]; rfl
  · simp only [Bool.or_eq_false_iff, dc_false] at h1
    have hab : a * b ≤ 65536 * 65536 := Nat.mul_le_mul (by omega) (by omega)
    have hab' : (a : Int) * (b : Int) ≤ 4294967296 := by rw [← Int.natCast_mul]; omega
    have hab0 : 0 ≤ (a : Int) * (b : Int) := Int.mul_nonneg (by omega) (by omega)
    refine gO_ ?_
    refine pur_ret Try.results61 (.tmp rfl .nil) (.head _) fun w' hw => ?_
    rw [if_neg (show ¬ (65536 < a ∨ 65536 < b) by omega)]
    refine congrArg (Value.int IntKind.i64) ?_
    rw [show ((min (a * b) 65537 : Nat) : Int) = if (65537 : Int) < (a : Int) * (b : Int) then 65537 else (a : Int) * (b : Int) by
      rw [← Int.natCast_mul]; split <;> omega]
end Go.Proofs.Ytdpcdbepeemflaa
end

section
/- Candidates: in how many ways so many can stand; cand.orders, alembicref16.orders, in. -/
namespace Go.Tc
open Go Go.Eng
def fact : Nat → Nat
  | 0 => 1
  | n + 1 => (n + 1) * fact n
theorem fact_pos : ∀ n, 0 < fact n
  | 0 => Nat.one_pos
  | n + 1 => Nat.mul_pos (Nat.succ_pos n) (fact_pos n)
def cap (n : Nat) : Nat := min n 65537
theorem cap_mul {a b : Nat} (ha : 0 < a) (hb : 0 < b) : (if 65536 < cap a ∨ 65536 < b then 65537 else min (cap a * b) 65537) = cap (a * b) := by
  have h1 : a ≤ a * b := Nat.le_mul_of_pos_right a hb
  have h2 : b ≤ a * b := Nat.le_mul_of_pos_left b ha
  unfold cap
  by_cases h3 : 65536 < a
  · rw [if_pos (.inl (by omega))]; omega
  · by_cases h4 : 65536 < b
    · rw [if_pos (.inr h4)]; omega
    · rw [if_neg (by omega), show min a 65537 = a by omega]
end Go.Tc
namespace Go.Proofs.Ytdpcdbepeemflaa
open Go Go.Eng Go.Tc
attribute [local irreducible] wpList Code.wp bodyPost Exit.then Exit.inBlock Calls

theorem _root_.Go.Tc.fact_end {n k : Nat} (h2 : 2 ≤ k) (h : k ≤ n + 1 ∨ k = 2) (h1 : ¬ k ≤ n) : fact (k - 1) = fact n := by
  rcases h with h | h
  · rw [show k - 1 = n by omega]
  · subst h
    have : n = 0 ∨ n = 1 := by omega
    rcases this with rfl | rfl <;> rfl
theorem _root_.Go.Tc.fact_step {k : Nat} (h2 : 2 ≤ k) : fact (k - 1) * k = fact (k + 1 - 1) := by
  obtain ⟨m, rfl⟩ : ∃ m, k = m + 1 := ⟨k - 1, by omega⟩
  show fact m * (m + 1) = (m + 1) * fact m
  exact Nat.mul_comm _ _

set_option maxHeartbeats 800000 in
theorem corders_spec (n : Nat) (w : World) (hn : n ≤ 1000000) :
    Pur Try.prog 40 [.int .i64 n] w fun _ v _ => v = .int .i64 (cap (fact n) : Int) := by
  refine enter_pur Try.func40 Try.ntmps40 rfl rfl ?_
  refine gO_ ?_
  refine wc_loop (fun s : Nat × Nat => 2 ≤ s.1 ∧ (s.1 ≤ n + 1 ∨ s.1 = 2) ∧ s.2 = cap (fact (s.1 - 1))) (fun s => [(4, true, .int .i64 s.1), (3, true, .int .i64 s.2), (0, true, .int .i64 n)])
    (fun s => Mem [(w, All)] []) (fun s => n + 1 - s.1) (2, 1) ⟨Nat.le_refl _, .inr rfl, rfl⟩ ⟨rfl, rfl, rfl, trivial⟩ (fun _ h => h.last rfl) ?_
  rintro ⟨k, all⟩ ⟨h2, hk, ha⟩
  dsimp only at h2 hk ha ⊢
  subst ha
  refine gO_ ?_
  refine wc_cond rfl (fun h1 => ?_) (fun h1 => ?_)
  · rw [dc_true] at h1
    refine gO_ ?_
    refine wl_fx (fx_call (spec := fun w' hw => many_spec (cap (fact (k - 1))) k w') (next := ?_))
    rintro v n1 w1 rfl hn1
    rw [cap_mul (fact_pos _) (by omega), fact_step h2]
    refine gO_ ?_
    exact po_loop ((k + 1), cap (fact (k + 1 - 1))) ⟨by dsimp only; omega, .inl (by dsimp only; omega), rfl⟩ (by dsimp only; omega) ⟨rfl, rfl, rfl, trivial⟩ (fun _ h => h.last rfl)
  · rw [dc_false] at h1
    refine gO_ ?_
    refine pur_ret Try.results40 (.tmp rfl .nil) (.head _) fun w' hw => ?_
    rw [fact_end h2 hk (by omega)]; rfl

set_option maxHeartbeats 800000 in
theorem rin_spec (lv : Value) (n : Int) (l : List Int) (w : World) (hl : Sl All w encI 1 lv l) :
    Pur Try.prog 35 [lv, .int .i64 n] w fun _ v _ => v = .bool (decide (n ∈ l)) := by
  have hll := hl.le
  refine enter_pur Try.func35 Try.ntmps35 rfl rfl ?_
  refine gO_ ?_
  refine wc_loop (fun i : Nat => i ≤ l.length ∧ ∀ j, j < i → l.getD j default ≠ n) (fun s => [(5, true, .int .i64 s), (1, true, .int .i64 n), (0, true, lv)])
    (fun s => Mem [(w, All)] []) (fun s => l.length - s) (0) ⟨by omega, fun j hj => by omega⟩ ⟨rfl, rfl, rfl, trivial⟩ (fun _ h => h.last rfl) ?_
  rintro i ⟨hi, hall⟩
  refine gO_ ?_
  refine wc_cond rfl (fun h1 => ?_) (fun h1 => ?_)
  · have h1' : i < l.length := by rw [dc_true] at h1; omega
    refine gO_ ?_
    refine wc_cond rfl (fun h2 => ?_) (fun h2 => ?_)
    · rw [dc_true] at h2
      refine gO_ ?_
      refine pur_ret Try.results35 (.tmp rfl .nil) (.head _) fun w' hw => ?_
      rw [decide_eq_true (h2 ▸ List.mem_of_getElem? (getD_some h1'))]; rfl
    · rw [dc_false] at h2
      refine gO_ ?_
      refine po_loop ((i + 1)) ⟨by omega, fun j hj => ?_⟩ (by omega) ⟨rfl, rfl, rfl, trivial⟩ (fun _ h => h.last rfl)
      by_cases hji : j < i
      · exact hall j hji
      · obtain rfl : j = i := by omega
        exact h2
  · rw [dc_false] at h1
    refine gO_ ?_
    refine pur_ret Try.results35 (.tmp rfl .nil) (.head _) fun w' hw => ?_
    have : ¬ n ∈ l := fun hm => by
      obtain ⟨j, hj, hjn⟩ := List.getElem_of_mem hm
      refine hall j (by omega) ?_
      rw [List.getD_eq_getElem?_getD, List.getElem?_eq_getElem hj, Option.getD_some, hjn]
    rw [decide_eq_false this]; rfl
end Go.Proofs.Ytdpcdbepeemflaa
end

section
/- Candidates: how many; alembicref16.count. -/
namespace Go.Tc
open Go Go.Eng
/-- in how many ways an event reads -/
def evWays (t : Tr) (i : Nat) : Nat := if (t.evs.getD i default).dir = 1 then 1 + (wr t (t.evs.getD i default).loc).length else 1
def evProd (t : Tr) : Nat → Nat
  | 0 => 1
  | i + 1 => evProd t i * evWays t i
def locProd (t : Tr) : Nat → Nat
  | 0 => 1
  | k + 1 => locProd t k * fact (wr t (k : Int)).length
def candN (t : Tr) : Nat := evProd t t.evs.length * locProd t t.locs.length
theorem evWays_pos (t : Tr) (i : Nat) : 0 < evWays t i := by unfold evWays; split <;> omega
theorem evProd_pos (t : Tr) : ∀ i, 0 < evProd t i
  | 0 => Nat.one_pos
  | i + 1 => Nat.mul_pos (evProd_pos t i) (evWays_pos t i)
theorem locProd_pos (t : Tr) : ∀ k, 0 < locProd t k
  | 0 => Nat.one_pos
  | k + 1 => Nat.mul_pos (locProd_pos t k) (fact_pos _)
theorem evProd_mono (t : Tr) {i : Nat} : ∀ j, i ≤ j → evProd t i ≤ evProd t j
  | 0, h => by rw [show i = 0 by omega]; exact Nat.le_refl _
  | j + 1, h => by
    by_cases he : i = j + 1
    · rw [he]; exact Nat.le_refl _
    · exact Nat.le_trans (evProd_mono t j (by omega)) (Nat.le_mul_of_pos_right _ (evWays_pos t j))
theorem locProd_mono (t : Tr) {i : Nat} : ∀ j, i ≤ j → locProd t i ≤ locProd t j
  | 0, h => by rw [show i = 0 by omega]; exact Nat.le_refl _
  | j + 1, h => by
    by_cases he : i = j + 1
    · rw [he]; exact Nat.le_refl _
    · exact Nat.le_trans (locProd_mono t j (by omega)) (Nat.le_mul_of_pos_right _ (fact_pos _))
theorem candN_ev (t : Tr) {i : Nat} (hi : i ≤ t.evs.length) : evProd t i ≤ candN t :=
  Nat.le_trans (evProd_mono t _ hi) (Nat.le_mul_of_pos_right _ (locProd_pos t _))
theorem candN_loc (t : Tr) {k : Nat} (hk : k ≤ t.locs.length) : evProd t t.evs.length * locProd t k ≤ candN t :=
  Nat.mul_le_mul_left _ (locProd_mono t _ hk)
theorem cap_big {n : Nat} (h : 65536 < n) : cap n = 65537 := by unfold cap; omega
theorem cap_small {n : Nat} (h : ¬ 65536 < n) : cap n = n := by unfold cap; omega
end Go.Tc
namespace Go.Proofs.Ytdpcdbepeemflaa
open Go Go.Eng Go.Tc
attribute [local irreducible] wpList Code.wp bodyPost Exit.then Exit.inBlock Calls
set_option maxHeartbeats 1600000 in
theorem rcount_spec {lv iv ev bv av dv cv tv nv : Value} {t : Tr} (w : World) (h : TrIn All w lv iv ev bv av dv cv tv nv t) (hb : t.evs.length ≤ 64) (hlb : t.locs.length ≤ 64) :
    Pur Try.prog 37 [.agg #[lv, iv, ev, bv, av, dv, cv, tv, nv]] w fun _ v _ => v = .int .i64 (cap (candN t) : Int) := by
  have hE := h.evs; have hL := h.locs
  have hwl : ∀ x, (wr t x).length ≤ 64 := fun x => Nat.le_trans (wrTo_le t x _) hb
  refine enter_pur Try.func37 Try.ntmps37 rfl rfl ?_
  refine gO_ ?_
  refine wl_fx (fx_box (next := ?_)); intro bt
  refine gO_ ?_
  refine wc_loop (fun s : Nat × Nat => s.1 ≤ t.evs.length ∧ s.2 = evProd t s.1 ∧ s.2 ≤ 65536) (fun s => [(4, true, .int .i64 s.1), (3, true, .int .i64 s.2), (1, true, .pointer (some ⟨bt, 0, none⟩))])
    (fun s => Mem [(w, All)] [.box bt [lv, iv, ev, bv, av, dv, cv, tv, nv] 30]) (fun s => t.evs.length - s.1) (0, 1) ⟨Nat.zero_le _, rfl, by decide⟩ ⟨rfl, rfl, rfl, trivial⟩ (fun _ h => h.last rfl) ?_
  rintro ⟨i, n⟩ ⟨hi, hn, hn6⟩
  dsimp only at hi hn hn6 ⊢
  refine gO_ ?_
  refine wc_cond rfl (fun h1 => ?_) (fun h1 => ?_)
  · have h1' : i < t.evs.length := by rw [dc_true] at h1; omega
    refine gO_ ?_
    refine wc_cond rfl (fun h2 => ?_) (fun h2 => ?_)
    · rw [dc_true] at h2
      have hm0 : 0 ≤ (n : Int) * (1 + ((wr t (t.evs.getD i default).loc).length : Int)) := Int.mul_nonneg (by omega) (by omega)
      have hm1 : (n : Int) * (1 + ((wr t (t.evs.getD i default).loc).length : Int)) ≤ 65536 * 65 := Int.mul_le_mul (by omega) (by have := hwl (t.evs.getD i default).loc; omega) (by omega) (by omega)
      have hm2 : (n : Int) * (1 + ((wr t (t.evs.getD i default).loc).length : Int)) = ((evProd t (i + 1) : Nat) : Int) := by
        rw [evProd, evWays, if_pos h2, ← hn]; push_cast; rfl
      refine gO_ ?_
      refine wc_draw [0, 1, 2, 3, 4, 5, 6, 7, 8, 9, 10, 11, 12] mixed ?_
      refine kG_ ?_
      refine kg_f _ (h := fx_call (spec := fun w' hw => rwrites_spec _ w' (h.now hw (.head _)) hb) (next := ?_)) (hSS := fun _ h => h)
      rintro v n1 w1 hv hn1
      have hv : Sl (Fr n1) w1 encI 1 v (wr t (t.evs.getD i default).loc) := hv
      have hkl := hwl (t.evs.getD i default).loc
      refine kp_S ?_ (fun _ h => h.tailB)
      refine kG_ ?_
      rw [hm2]
      refine gO_ ?_
      refine wc_cond rfl (fun h3 => ?_) (fun h3 => ?_)
      · rw [dc_true] at h3
        refine gO_ ?_
        refine pur_ret Try.results37 (.tmp rfl .nil) (.tail _ (.head _)) fun w' hw => ?_
        have := candN_ev t (i := i + 1) h1'
        rw [cap_big (by omega)]; rfl
      · rw [dc_false] at h3
        refine gO_ ?_
        exact po_loop ((i + 1), evProd t (i + 1)) ⟨h1', rfl, by dsimp only; omega⟩ (by dsimp only; omega) ⟨rfl, rfl, rfl, trivial⟩ (fun _ h => h.last rfl)
    · rw [dc_false] at h2
      have hs : evProd t (i + 1) = n := by rw [evProd, evWays, if_neg h2, Nat.mul_one, hn]
      refine gO_ ?_
      refine wc_cond rfl (fun h4 => ?_) (fun h4 => ?_)
      · rw [dc_true] at h4; omega
      · refine gO_ ?_
        exact po_loop ((i + 1), n) ⟨h1', hs.symm, hn6⟩ (by dsimp only; omega) ⟨rfl, rfl, rfl, trivial⟩ (fun _ h => h.last rfl)
  · rw [dc_false] at h1
    obtain rfl : i = t.evs.length := by omega
    refine gO_ ?_
    refine wc_loop (fun s : Nat × Nat => s.1 ≤ t.locs.length ∧ s.2 = evProd t t.evs.length * locProd t s.1 ∧ s.2 ≤ 65536) (fun s => [(5, true, .int .i64 s.1), (3, true, .int .i64 s.2), (1, true, .pointer (some ⟨bt, 0, none⟩))])
      (fun s => Mem [(w, All)] [.box bt [lv, iv, ev, bv, av, dv, cv, tv, nv] 30]) (fun s => t.locs.length - s.1) (0, n) ⟨Nat.zero_le _, by dsimp only; rw [locProd, Nat.mul_one, hn], hn6⟩ ⟨rfl, rfl, rfl, trivial⟩ (fun _ h => h.last rfl) ?_
    clear hn hn6
    rintro ⟨k, n⟩ ⟨hk, hn, hn6⟩
    dsimp only at hk hn hn6 ⊢
    refine gO_ ?_
    refine wc_cond rfl (fun h5 => ?_) (fun h5 => ?_)
    · have h5' : k < t.locs.length := by rw [dc_true] at h5; omega
      refine gO_ ?_
      refine wl_fx (fx_call (spec := fun w' hw => rwrites_spec (k : Int) w' (h.now hw (.head _)) hb) (next := ?_))
      rintro v n2 w2 hv hn2
      have hv : Sl (Fr n2) w2 encI 1 v (wr t (k : Int)) := hv
      have hkl := hwl (k : Int)
      refine gO_ ?_
      refine wc_loop (fun s : Nat × Nat => s.1 ≤ (wr t (k : Int)).length ∧ s.2 * fact s.1 = n * fact (wr t (k : Int)).length ∧ s.2 ≤ 65536) (fun s => [(6, true, .int .i64 s.1), (5, true, .int .i64 k), (3, true, .int .i64 s.2), (1, true, .pointer (some ⟨bt, 0, none⟩))])
        (fun s => Mem [(w, All)] [.box bt [lv, iv, ev, bv, av, dv, cv, tv, nv] 30]) (fun s => s.1) ((wr t (k : Int)).length, n) ⟨Nat.le_refl _, rfl, hn6⟩ ⟨rfl, rfl, rfl, rfl, trivial⟩ (fun _ h => h.last rfl) ?_
      rintro ⟨m, n'⟩ ⟨hm, hn', hn6'⟩
      dsimp only at hm hn' hn6' ⊢
      have hc := candN_loc t (k := k + 1) h5'
      rw [locProd, ← Nat.mul_assoc, ← hn, ← hn'] at hc
      refine gO_ ?_
      refine wc_cond rfl (fun h6 => ?_) (fun h6 => ?_)
      · rw [dc_true] at h6
        obtain ⟨q, rfl⟩ : ∃ q, m = q + 1 := ⟨m - 1, by omega⟩
        have hm0 : 0 ≤ (n' : Int) * ((q + 1 : Nat) : Int) := Int.mul_nonneg (by omega) (by omega)
        have hm1 : (n' : Int) * ((q + 1 : Nat) : Int) ≤ 65536 * 64 := Int.mul_le_mul (by omega) (by omega) (by omega) (by omega)
        have hm2 : (n' : Int) * ((q + 1 : Nat) : Int) = ((n' * (q + 1) : Nat) : Int) := by push_cast; rfl
        have hf : n' * (q + 1) ≤ n' * fact (q + 1) := Nat.mul_le_mul_left _ (Nat.le_mul_of_pos_right _ (fact_pos q))
        refine gO_ ?_
        rw [hm2]
        refine wc_cond rfl (fun h7 => ?_) (fun h7 => ?_)
        · rw [dc_true] at h7
          refine gO_ ?_
          refine pur_ret Try.results37 (.tmp rfl .nil) (.head _) fun w' hw => ?_
          rw [cap_big (by omega)]; rfl
        · rw [dc_false] at h7
          refine gO_ ?_
          rw [show ((q + 1 : Nat) : Int) - 1 = (q : Int) by omega]
          exact po_loop (q, n' * (q + 1)) ⟨by dsimp only; omega, by dsimp only; rw [← hn', fact, Nat.mul_assoc], by dsimp only; omega⟩ (by dsimp only; omega) ⟨rfl, rfl, rfl, rfl, trivial⟩ (fun _ h => h.last rfl)
      · rw [dc_false] at h6
        have hf : fact m = 1 := by
          have : m = 0 ∨ m = 1 := by omega
          rcases this with rfl | rfl <;> rfl
        rw [hf, Nat.mul_one] at hn'
        refine gO_ ?_
        exact po_loop ((k + 1), n') ⟨h5', by dsimp only; rw [locProd, ← Nat.mul_assoc, ← hn, hn'], hn6'⟩ (by dsimp only; omega) ⟨rfl, rfl, rfl, trivial⟩ (fun _ h => h.last rfl)
    · rw [dc_false] at h5
      obtain rfl : k = t.locs.length := by omega
      refine gO_ ?_
      refine pur_ret Try.results37 (.tmp rfl .nil) (.head _) fun w' hw => ?_
      rw [candN, ← hn, cap_small (by omega)]; rfl
end Go.Proofs.Ytdpcdbepeemflaa
end

section
/- Candidates: alembicref16.Count. -/
namespace Go.Tc
open Go Go.Eng
/-- Count's answer -/
def cntN (t : Tr) : Nat := if trOk t = true then if candN t ≤ 65536 then candN t else 0 else 0
def cntE (t : Tr) : Int := if trOk t = true then if candN t ≤ 65536 then 0 else 3 else 1
theorem trE_dc (t : Tr) : (!dc (trE t = 0)) = !trOk t := by
  rw [dc_eq]; unfold trE; cases trOk t <;> rfl
theorem trOk_lens {t : Tr} (h : trOk t = true) : t.evs.length ≤ 64 ∧ t.locs.length ≤ 64 := by
  simp only [trOk, Bool.and_eq_true, locatedB, eventedB, decide_eq_true_eq] at h
  exact ⟨h.1.1.1.1.1.2.1, h.1.1.1.1.1.1.1.1⟩
end Go.Tc
namespace Go.Proofs.Ytdpcdbepeemflaa
open Go Go.Eng Go.Tc
attribute [local irreducible] wpList Code.wp bodyPost Exit.then Exit.inBlock Calls
set_option maxHeartbeats 1600000 in
theorem rCount_spec {lv iv ev bv av dv cv tv nv : Value} {t : Tr} (w : World) (h : TrIn All w lv iv ev bv av dv cv tv nv t) :
    Pur Try.prog 20 [.agg #[lv, iv, ev, bv, av, dv, cv, tv, nv]] w fun _ v _ => v = .tuple #[.int .i64 (cntN t : Int), .int .i64 (cntE t)] := by
  refine enter_pur Try.func20 Try.ntmps20 rfl rfl ?_
  refine gO_ ?_
  refine wl_fx (fx_box (next := ?_)); intro bt
  refine gO_ ?_
  refine wl_fx (fx_call (spec := fun w' hw => rtcheck_spec w' (h.now hw (.head _))) (next := ?_))
  rintro v n1 w1 rfl hn1
  refine gO_ ?_
  refine wc_cond rfl (fun h1 => ?_) (fun h1 => ?_)
  · rw [trE_dc, Bool.not_eq_true'] at h1
    refine gO_ ?_
    refine pur_ret Try.results20 (.tmp rfl (.tmp rfl .nil)) (.tail _ (.head _)) fun w' hw => ?_
    simp only [cntN, cntE, h1]; rfl
  · rw [trE_dc, Bool.not_eq_false'] at h1
    obtain ⟨hb, hlb⟩ := trOk_lens h1
    refine gO_ ?_
    refine wl_fx (fx_call (spec := fun w' hw => rcount_spec w' (h.now hw (.tail _ (.head _))) hb hlb) (next := ?_))
    rintro v n2 w2 rfl hn2
    refine gO_ ?_
    refine wc_cond rfl (fun h2 => ?_) (fun h2 => ?_)
    · rw [dc_true] at h2
      refine gO_ ?_
      refine pur_ret Try.results20 (.tmp rfl (.tmp rfl .nil)) (.tail _ (.tail _ (.head _))) fun w' hw => ?_
      have : ¬ candN t ≤ 65536 := by unfold cap at h2; omega
      simp only [cntN, cntE, h1, if_neg this]; rfl
    · rw [dc_false] at h2
      refine gO_ ?_
      refine pur_ret Try.results20 (.tmp rfl (.tmp rfl .nil)) (.tail _ (.tail _ (.head _))) fun w' hw => ?_
      have : candN t ≤ 65536 := by unfold cap at h2; omega
      rw [cap_small (by omega)]
      simp only [cntN, cntE, h1, if_pos this]; rfl
end Go.Proofs.Ytdpcdbepeemflaa
end

section
/- Candidates: alembicref16.orders. -/
namespace Go.Tc
theorem fact_mono {i : Nat} : ∀ j, i ≤ j → fact i ≤ fact j
  | 0, h => by rw [show i = 0 by omega]; exact Nat.le_refl _
  | j + 1, h => by
    by_cases he : i = j + 1
    · rw [he]; exact Nat.le_refl _
    · exact Nat.le_trans (fact_mono j (by omega)) (Nat.le_mul_of_pos_left _ (Nat.succ_pos j))
end Go.Tc
namespace Go.Proofs.Ytdpcdbepeemflaa
open Go Go.Eng Go.Tc
attribute [local irreducible] wpList Code.wp bodyPost Exit.then Exit.inBlock Calls
set_option maxHeartbeats 800000 in
theorem rorders_spec (n : Nat) (w : World) (hn : fact n ≤ 1000000000) (hn2 : n ≤ 1000000) :
    Pur Try.prog 44 [.int .i64 n] w fun _ v _ => v = .int .i64 (fact n : Int) := by
  refine enter_pur Try.func44 Try.ntmps44 rfl rfl ?_
  refine gO_ ?_
  refine wc_loop (fun s : Nat × Nat => 2 ≤ s.1 ∧ (s.1 ≤ n + 1 ∨ s.1 = 2) ∧ s.2 = fact (s.1 - 1)) (fun s => [(4, true, .int .i64 s.1), (3, true, .int .i64 s.2), (0, true, .int .i64 n)])
    (fun s => Mem [(w, All)] []) (fun s => n + 1 - s.1) (2, 1) ⟨Nat.le_refl _, .inr rfl, rfl⟩ ⟨rfl, rfl, rfl, trivial⟩ (fun _ h => h.last rfl) ?_
  rintro ⟨k, all⟩ ⟨h2, hk, ha⟩
  dsimp only at h2 hk ha ⊢
  subst ha
  refine gO_ ?_
  refine wc_cond rfl (fun h1 => ?_) (fun h1 => ?_)
  · rw [dc_true] at h1
    have hf : fact (k + 1 - 1) ≤ fact n := fact_mono n (by omega)
    have hs := fact_step h2
    have hm : ((fact (k - 1) : Nat) : Int) * ((k : Nat) : Int) = ((fact (k + 1 - 1) : Nat) : Int) := by rw [← hs]; push_cast; rfl
    have hm0 : 0 ≤ ((fact (k - 1) : Nat) : Int) * ((k : Nat) : Int) := by rw [hm]; omega
    have hm1 : ((fact (k - 1) : Nat) : Int) * ((k : Nat) : Int) ≤ 1000000000 := by rw [hm]; omega
    refine gO_ ?_
    rw [hm]
    exact po_loop ((k + 1), fact (k + 1 - 1)) ⟨by dsimp only; omega, .inl (by dsimp only; omega), rfl⟩ (by dsimp only; omega) ⟨rfl, rfl, rfl, trivial⟩ (fun _ h => h.last rfl)
  · rw [dc_false] at h1
    refine gO_ ?_
    refine pur_ret Try.results44 (.tmp rfl .nil) (.head _) fun w' hw => ?_
    rw [fact_end h2 hk (by omega)]; rfl
end Go.Proofs.Ytdpcdbepeemflaa
end

section
/- Nested slices: [][]int. -/
namespace Go.Eng
open Go Go.RowKit
def inner (t : TypeId) (vs : List Value) (xss : List (List Int)) : List Ent := List.zipWith (fun v xs => .own v t 1 encI xs) vs xss
theorem inner_len (t : TypeId) {vs : List Value} {xss : List (List Int)} (h : vs.length = xss.length) : (inner t vs xss).length = vs.length := by
  simp [inner, h]
theorem inner_get (t : TypeId) {vs : List Value} {xss : List (List Int)} (h : vs.length = xss.length) {i : Nat} (hi : i < vs.length) : (inner t vs xss)[i]? = some (.own (vs.getD i default) t 1 encI (xss.getD i default)) := by
  unfold inner
  rw [List.getElem?_zipWith, getD_some hi, getD_some (show i < xss.length by omega)]
theorem inner_set (t : TypeId) (vs : List Value) (xss : List (List Int)) (i : Nat) (v : Value) (xs : List Int) : (inner t vs xss).set i (.own v t 1 encI xs) = inner t (vs.set i v) (xss.set i xs) := by
  unfold inner
  induction vs generalizing xss i with
  | nil => cases xss <;> rfl
  | cons a vs ih =>
    cases xss with
    | nil => cases i <;> rfl
    | cons b xss =>
      cases i with
      | zero => rfl
      | succ i => simp only [List.zipWith_cons_cons, List.set_cons_succ, ih]
theorem Mem.swap {bs : List Base} {l1 l2 : List Ent} {w : World} (h : Mem bs (l1 ++ l2) w) : Mem bs (l2 ++ l1) w := by
  refine h.sel ((List.range l2.length).map (· + l1.length) ++ List.range l1.length) ?_ ?_
  · rw [List.map_append, List.map_append, List.map_map]
    congr 1
    · apply List.ext_getElem?
      intro i
      by_cases hi : i < l2.length
      · simp [hi, List.getElem?_append_right]
      · simp [hi]
    · apply List.ext_getElem?
      intro i
      by_cases hi : i < l1.length
      · simp [hi, List.getElem?_append_left]
      · simp [hi]
  · rw [List.nodup_append]
    refine ⟨?_, List.nodup_range, ?_⟩
    · rw [List.Nodup, List.pairwise_map]; exact List.Pairwise.imp (fun h => by omega) List.nodup_range
    · intro a ha b hb
      simp at ha hb
      obtain ⟨c, hc, rfl⟩ := ha
      omega
/-- so many slices that hold nothing -/
theorem Mem.nils {bs : List Base} {H : List Ent} {w : World} (h : Mem bs H w) (t : TypeId) (n : Nat) : Mem bs (inner t (List.replicate n (.slice none 0 0)) (List.replicate n []) ++ H) w := by
  induction n with
  | zero => exact h
  | succ n ih =>
    rw [List.replicate_succ, List.replicate_succ]
    show Mem bs (.own (.slice none 0 0) t 1 encI [] :: (inner t (List.replicate n (.slice none 0 0)) (List.replicate n []) ++ H)) w
    refine ih.new rfl rfl rfl (Nat.le_refl _) (fun _ _ => rfl) ⟨by simp, .inl ⟨rfl, rfl⟩⟩ (fun k hk => ?_) (fun k hk => ?_) <;> simp [Ent.fp, Value.ownBlock] at hk
theorem kp_nils {N : Nat} {K : Act → World → Prop} {tm : Tm} {bs : List Base} {H : List Ent} (t : TypeId) (n : Nat) (h : KP N K tm (Mem bs (H ++ inner t (List.replicate n (.slice none 0 0)) (List.replicate n [])))) : KP N K tm (Mem bs H) :=
  kp_mem (fun _ hw => (hw.nils t n).swap) h
/-- an entry takes the place of another one -/
theorem Mem.put {bs : List Base} {e : Ent} {H : List Ent} {w : World} (h : Mem bs (e :: H) w) (k : Nat) : Mem bs (H.set k e) w := by
  by_cases hk : k < H.length
  · refine h.sel ((List.range H.length).map fun j => if j = k then 0 else j + 1) ?_ ?_
    · apply List.ext_getElem?
      intro i
      by_cases hi : i < H.length
      · by_cases hik : i = k
        · subst hik; simp [hi]
        · simp [hi, hik, List.getElem_set, show ¬ k = i from fun h => hik h.symm]
      · simp [hi]
    · rw [List.Nodup, List.pairwise_map]
      refine List.Pairwise.imp_of_mem (fun {a b} _ _ hab => ?_) List.nodup_range
      split <;> split <;> omega
  · rw [List.set_eq_of_length_le (by omega)]; exact h.tail
theorem inner_mem (t : TypeId) {vs : List Value} {xss : List (List Int)} (h : vs.length = xss.length) {i : Nat} (hi : i < vs.length) : Ent.own (vs.getD i default) t 1 encI (xss.getD i default) ∈ inner t vs xss := List.mem_of_getElem? (inner_get t h hi)
theorem set_right {α : Type _} (a b : List α) (i : Nat) (x : α) : (a ++ b).set (a.length + i) x = a ++ b.set i x := by
  induction a with
  | nil => simp
  | cons c a ih => rw [List.length_cons, Nat.add_right_comm]; simp [ih]
theorem get_right {α : Type _} (a b : List α) (i : Nat) : (a ++ b)[a.length + i]? = b[i]? := by
  rw [List.getElem?_append_right (by omega)]; congr 1; omega
theorem set_left {α : Type _} (a b : List α) (i : Nat) (x : α) (h : i < a.length) : (a ++ b).set i x = a.set i x ++ b := by
  rw [List.set_append_left _ _ h]
/-- a nested slice that is read -/
structure Sl2 (S : Nat → Prop) (w : World) (v : Value) (xss : List (List Int)) : Prop where
  out : ∃ vs, Sl S w encV 1 v vs ∧ vs.length = xss.length ∧ ∀ i, i < xss.length → Sl S w encI 1 (vs.getD i default) (xss.getD i default)
/-- a nested slice that is handed out -/
theorem Mem.give2 {bs : List Base} {H : List Ent} {w w' : World} {v : Value} {vs : List Value} {xss : List (List Int)} (t t' : TypeId) (hw : Mem bs H w') (ho : Ent.own v t' 1 encV vs ∈ H) (hl : vs.length = xss.length) (hi : ∀ e, e ∈ inner t vs xss → e ∈ H) (hB : (w, All) ∈ bs) : Sl2 (Fr w.heap.size) w' v xss :=
  ⟨⟨vs, hw.give ho hB, hl, fun i h => hw.give (hi _ (inner_mem t hl (by omega))) hB⟩⟩
end Go.Eng
end
