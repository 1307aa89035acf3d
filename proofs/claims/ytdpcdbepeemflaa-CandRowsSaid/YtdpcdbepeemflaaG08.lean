import Derived.Shelf.Sort.Plain
import Derived.Test.YtdpcdbepeemflaaProg
import Derived.Test.YtdpcdbepeemflaaG07
import Derived.Sort.OwnSortedInts
import Derived.Shelf.Slices.In.SortNone
import Derived.RangeFuncBox
import Derived.RangeFuncLeaves
import Derived.Shelf.Abstract
import Derived.WalkKit
import Derived.OwnWalkIn
import Derived.TacticsInMore
import Derived.LoopNIn
import Derived.LoopIn
import Derived.Maps.AppendAt
set_option linter.unusedSimpArgs false
set_option linter.unusedVariables false
section
/- The library's sort, as it lies in this program (the kit's laying, in plain words). -/
namespace Go.Proofs.Ytdpcdbepeemflaa
open Go Go.Proofs Go.Shelf
def lays189_ren : Go.Shelf.Ren := ⟨fun | 189 => 69 | 125 => 79 | 257 => 78 | 128 => 92 | 129 => 93 | 294 => 83 | 295 => 84 | 296 => 85 | 297 => 86 | 298 => 87 | 299 => 88 | 216 => 89 | 300 => 90 | 301 => 91 | 328 => 94 | 329 => 95 | 330 => 96 | 331 => 97 | 332 => 98 | 215 => 99 | 343 => 100 | n => n, fun | 28 => 23 | 3 => 3 | 46 => 48 | 0 => 0 | 51 => 118 | 53 => 120 | 4 => 4 | 183 => 112 | 182 => 111 | 131 => 101 | 5 => 5 | 9 => 9 | 218 => 121 | 222 => 125 | 228 => 127 | 229 => 128 | n => n, fun | n => n⟩
theorem lays189 : Go.Proofs.Lays.n189 Try.prog lays189_ren := {
  mixed := by kernel_rfl
  f125 := Try.func79.trans (congrArg some (by kernel_rfl))
  f128 := Try.func92.trans (congrArg some (by kernel_rfl))
  f129 := Try.func93.trans (congrArg some (by kernel_rfl))
  f189 := Try.func69.trans (congrArg some (by kernel_rfl))
  f215 := Try.func99.trans (congrArg some (by kernel_rfl))
  f216 := Try.func89.trans (congrArg some (by kernel_rfl))
  f257 := Try.func78.trans (congrArg some (by kernel_rfl))
  f294 := Try.func83.trans (congrArg some (by kernel_rfl))
  f295 := Try.func84.trans (congrArg some (by kernel_rfl))
  f296 := Try.func85.trans (congrArg some (by kernel_rfl))
  f297 := Try.func86.trans (congrArg some (by kernel_rfl))
  f298 := Try.func87.trans (congrArg some (by kernel_rfl))
  f299 := Try.func88.trans (congrArg some (by kernel_rfl))
  f300 := Try.func90.trans (congrArg some (by kernel_rfl))
  f301 := Try.func91.trans (congrArg some (by kernel_rfl))
  f328 := Try.func94.trans (congrArg some (by kernel_rfl))
  f329 := Try.func95.trans (congrArg some (by kernel_rfl))
  f330 := Try.func96.trans (congrArg some (by kernel_rfl))
  f331 := Try.func97.trans (congrArg some (by kernel_rfl))
  f332 := Try.func98.trans (congrArg some (by kernel_rfl))
  f343 := Try.func100.trans (congrArg some (by kernel_rfl))
  t0 := Try.underlying0
  a0 := Try.isAgg0
  z0 := Try.sizeOf0
  v0 := Try.zeroValue0
  t3 := Try.underlying3
  a3 := Try.isAgg3
  z3 := Try.sizeOf3
  v3 := Try.zeroValue3
  t4 := Try.underlying4
  a4 := Try.isAgg4
  z4 := Try.sizeOf4
  v4 := Try.zeroValue4
  t5 := Try.underlying5
  a5 := Try.isAgg5
  z5 := Try.sizeOf5
  v5 := Try.zeroValue5
  t9 := Try.underlying9
  a9 := Try.isAgg9
  z9 := Try.sizeOf9
  v9 := Try.zeroValue9
  t28 := Try.underlying23
  a28 := Try.isAgg23
  z28 := Try.sizeOf23
  v28 := Try.zeroValue23
  t46 := Try.underlying48
  a46 := Try.isAgg48
  z46 := Try.sizeOf48
  v46 := Try.zeroValue48
  t51 := Try.underlying118
  a51 := Try.isAgg118
  z51 := Try.sizeOf118
  v51 := Try.zeroValue118
  t53 := Try.underlying120
  a53 := Try.isAgg120
  z53 := Try.sizeOf120
  v53 := Try.zeroValue120
  t131 := Try.underlying101
  a131 := Try.isAgg101
  z131 := Try.sizeOf101
  v131 := Try.zeroValue101
  t182 := Try.underlying111
  a182 := Try.isAgg111
  z182 := Try.sizeOf111
  v182 := Try.zeroValue111
  t183 := Try.underlying112
  a183 := Try.isAgg112
  z183 := Try.sizeOf112
  v183 := Try.zeroValue112
  t218 := Try.underlying121
  a218 := Try.isAgg121
  z218 := Try.sizeOf121
  v218 := Try.zeroValue121
  t222 := Try.underlying125
  a222 := Try.isAgg125
  z222 := Try.sizeOf125
  v222 := Try.zeroValue125
  t228 := Try.underlying127
  a228 := Try.isAgg127
  z228 := Try.sizeOf127
  v228 := Try.zeroValue127
  t229 := Try.underlying128
  a229 := Try.isAgg128
  z229 := Try.sizeOf128
  v229 := Try.zeroValue128 }

end Go.Proofs.Ytdpcdbepeemflaa
end

section
/- The library's sort of integers by its contract; slices.Values, AppendSeq, Collect, Sorted (after the worked examples GgSlicesIterAtTheDump and GgPosAtTheDump). -/
namespace Go.Tc
open Go Go.Eng
def sortI (xs : List Int) : List Int := xs.mergeSort fun x y => decide (x ≤ y)
theorem sortI_length (xs : List Int) : (sortI xs).length = xs.length := List.length_mergeSort xs
theorem sortI_perm (xs : List Int) : (sortI xs).Perm xs := List.mergeSort_perm xs _
theorem flat_encI (xs : List Int) : xs.flatMap encI = xs.map (Value.int .i64) := by
  induction xs with
  | nil => rfl
  | cons x xs ih => rw [List.flatMap_cons, ih]; rfl
end Go.Tc
namespace Go.Proofs.Ytdpcdbepeemflaa
open Go Go.Eng Go.Tc Go.Proofs Go.RowKit

theorem ssort_spec (v : Value) (xs : List Int) (w : World) (hx : xs.length * 8 ≤ 140737488351232) (hw : Mem [] [.own v 3 1 Eng.encI xs] w) :
    Mu Try.prog 69 [v] (.own v 3 1 Eng.encI xs) w fun _ r e' _ => r = .tuple #[] ∧ e' = .own v 3 1 Eng.encI (sortI xs) := by
  have hin := hw.inb _ (.head _)
  obtain ⟨hl, ho⟩ := hw.own _ (.head _)
  unfold Mu
  rcases ho with ⟨rfl, h0⟩ | ⟨g, cap, cur, rfl, hg, hh, hn, hm, hsz, htk⟩
  · have : xs = [] := List.eq_nil_of_length_eq_zero h0
    subst this
    refine (Any.slices_Sort_int_none lays189 none 0 w).mono ?_
    rintro e w' ⟨rfl, rfl⟩
    unfold MuR
    have e0 : sortI [] = [] := by unfold sortI; exact List.mergeSort_nil
    exact ⟨_, _, rfl, ⟨rfl, rfl⟩, by rw [e0]; exact mem_mu hw⟩
  · have htk' : cur.toList.take xs.length = xs.map (Value.int .i64) := by rw [Nat.mul_one] at htk; rw [htk, flat_encI]
    have hgs : g < w.heap.size := hin g (by simp [Ent.fp, Value.ownBlock])
    refine (Any.slices_Sort_int lays189 g 0 cap xs w (holds_of_blockI hh htk') hgs (by omega)).mono ?_
    rintro e w' ⟨rfl, n, os, rfl⟩
    unfold MuR
    refine ⟨_, _, rfl, ⟨rfl, rfl⟩, ?_⟩
    have hgb := grownBy_sortedI (w := w) (g := g) (n := n) (os := os) (sortI xs).toArray
    refine (mem_mu hw).upd (i := 0) rfl hgb.os hgb.tape hgb.output hgb.size (fun k hk hne => hgb.block k hk (fun e => hne (by simp [Ent.fp, Value.ownBlock]; cases e; rfl))) ?_ (fun k hk => ?_) (fun k hk => .inl hk)
    · have := ownsRow_sortedI (base := 0) (n := n) (os := os) (ts := sortI xs) (sortI_length xs) (Nat.zero_le _) hh hn hm hsz
      show World.ownsRow _ 0 3 1 _ (sortI xs).length ((sortI xs).flatMap Eng.encI)
      rw [flat_encI, sortI_length]
      exact this
    · exact Nat.lt_of_lt_of_le (hin k hk) hgb.size

/-! slices.Values and who ranges over it -/
def upto {α : Type} (f : Nat → α) (k : Nat) : List α := (List.range k).map f
theorem upto_succ {α : Type} (f : Nat → α) (k : Nat) : upto f (k + 1) = upto f k ++ [f k] := by simp [upto, List.range_succ]
theorem upto_length {α : Type} (f : Nat → α) (k : Nat) : (upto f k).length = k := by simp [upto]
theorem upto_all (zs : List Int) : upto (fun j => zs[j]?.getD 0) zs.length = zs := by
  apply List.ext_getElem
  · simp [upto]
  · intro i h1 h2
    simp [upto, h2]
theorem upto_take (zs : List Int) {k : Nat} (hk : k ≤ zs.length) : upto (fun j => zs[j]?.getD 0) k = zs.take k := by
  apply List.ext_getElem
  · simp [upto, hk]
  · intro i h1 h2
    have : i < zs.length := by simp [upto] at h1; omega
    simp [upto, this]

section
attribute [local go_sem] Oper.semAt_some
set_option maxRecDepth 100000 in
set_option maxHeartbeats 2000000 in
theorem values1_in (F : Fence) (n : Nat) (hf : F.fn 70) (hro : F.round = none) (hn : 1 ≤ n) (l Bs n0 b off len cap : Nat) (zs : List Int) (hreach : len * 8 ≤ 140737488351232) (hb : b < n0) (J Jx : List Int → World → Prop)
    (hY : ∀ pre x W, J pre W → pre.length < len → YieldAt F (n - 1) Try.prog l #[.int .i64 x] W fun e W' =>
      (e = .returned (.bool true) ∧ J (pre ++ [x]) W' ∧ Below n0 W W') ∨ (e = .returned (.bool false) ∧ Jx (pre ++ [x]) W'))
    (W : World) (hBs : W.cell? ⟨Bs, 0, none⟩ = some (.slice (some ⟨b, off, none⟩) len cap)) (hc : ∀ j, j < len → W.cell? ⟨b, off + j, none⟩ = some (.int .i64 (zs[j]?.getD 0))) (h0 : J [] W) :
    CallsIn F n Try.prog 70 #[.func (.yield l) #[] #[], .pointer (some ⟨Bs, 0, none⟩)] W fun e W' => (∃ v, e = .returned v) ∧
      ((∃ ys, ys = upto (fun j => zs[j]?.getD 0) len ∧ J ys W') ∨ (∃ pre, (∃ k, k ≤ len ∧ pre = upto (fun j => zs[j]?.getD 0) k) ∧ Jx pre W')) := by
  refine callsIn_of_wp Try.func70 rfl hf ?_ hro
  simp only [Try.ntmps70, List.size_toArray, List.length_cons, List.length_nil, Nat.reduceAdd, Nat.reduceSub, Array.replicate_succ, Array.replicate_zero, List.push_toArray, List.append_toArray, List.nil_append, List.cons_append]
  gi_wp2
  gi_loopw [7] (fun i wr => ∃ k : Nat, k ≤ len ∧ i = .int .i64 k ∧ J (upto (fun j => zs[j]?.getD 0) k) wr ∧ Below n0 W wr)
    (fun i _ => len - (intOf i).toNat)
  case atStart => exact ⟨0, Nat.zero_le _, rfl, h0, Below.refl _ _⟩
  case round =>
    obtain ⟨k, hk, rfl, hJs, hnx⟩ := hrel
    have hcx : k < len → wr.cell? ⟨b, off + k, none⟩ = some (.int .i64 (zs[k]?.getD 0)) := fun h => (hnx.cell (p := ⟨b, off + k, none⟩) hb).trans (hc k h)
    by_cases hlt : k < len
    · obtain ⟨fn, tmps, assign, body, hy, hR⟩ := hY _ (zs[k]?.getD 0) wr hJs (by rw [upto_length]; exact hlt)
      have hcx' := hcx hlt
      gi_wp2
      refine hR.mono ?_
      rintro e W3 (⟨rfl, hJ3, hk3⟩ | ⟨rfl, hJx3⟩)
      · gi_wp2
        go_roundw
        case rel => exact ⟨k + 1, by omega, by simp, by rw [upto_succ]; exact hJ3, hnx.trans hk3⟩
        case measure => simp [intOf]; omega
      · gi_wp2
        refine bodyPost_ret (results_none rfl _ _ _) rfl ?_
        exact ⟨⟨_, rfl⟩, .inr ⟨_, ⟨k + 1, by omega, (upto_succ _ _).symm⟩, hJx3⟩⟩
    · obtain rfl : k = len := by omega
      gi_wp2
      go_end0
      exact ⟨⟨_, rfl⟩, .inl ⟨_, rfl, hJs⟩⟩

/-- the slice value holds the numbers, in a block below n0; or it is nil and there are none -/
def InSl (n0 : Nat) (W : World) (sv : Value) (zs : List Int) : Prop :=
  (∃ a cap, sv = .slice a 0 cap ∧ zs = []) ∨ ∃ b off cap, sv = .slice (some ⟨b, off, none⟩) zs.length cap ∧ b < n0 ∧ ∀ j, j < zs.length → W.cell? ⟨b, off + j, none⟩ = some (.int .i64 (zs[j]?.getD 0))
theorem InSl.below {n0 : Nat} {A B : World} (h : Below n0 A B) {sv : Value} {zs : List Int} : InSl n0 A sv zs → InSl n0 B sv zs
  | .inl e => .inl e
  | .inr ⟨b, off, cap, e, hb, hc⟩ => .inr ⟨b, off, cap, e, hb, fun j hj => (h.cell (p := ⟨b, off + j, none⟩) hb).trans (hc j hj)⟩

set_option maxRecDepth 100000 in
set_option maxHeartbeats 1000000 in
theorem values1_nil_in (F : Fence) (n : Nat) (hf : F.fn 70) (hro : F.round = none) (l Bs cap : Nat) (a : Option Addr) (J : List Int → World → Prop) (W : World) (hBs : W.cell? ⟨Bs, 0, none⟩ = some (.slice a 0 cap)) (h0 : J [] W) :
    CallsIn F n Try.prog 70 #[.func (.yield l) #[] #[], .pointer (some ⟨Bs, 0, none⟩)] W fun e W' => (∃ v, e = .returned v) ∧ J [] W' := by
  refine callsIn_of_wp Try.func70 rfl hf ?_ hro
  simp only [Try.ntmps70, List.size_toArray, List.length_cons, List.length_nil, Nat.reduceAdd, Nat.reduceSub, Array.replicate_succ, Array.replicate_zero, List.push_toArray, List.append_toArray, List.nil_append, List.cons_append]
  gi_wp2
  gi_loopw [7] (fun i wr => i = .int .i64 0 ∧ J [] wr) (fun _ _ => 0)
  case atStart => exact ⟨rfl, h0⟩
  case round =>
    obtain ⟨rfl, hJs⟩ := hrel
    gi_wp2
    go_end0
    exact ⟨⟨_, rfl⟩, hJs⟩

theorem values_stops (F : Fence) (n : Nat) (hf : F.fn 70) (hro : F.round = none) (hn : 1 ≤ n) (Bs n0 : Nat) (sv : Value) (zs : List Int) (hreach : zs.length * 8 ≤ 140737488351232) (w : World) (hBs : Bs < w.heap.size) (hn0 : n0 ≤ w.heap.size)
    (hc : w.cell? ⟨Bs, 0, none⟩ = some sv) (hI : InSl n0 w sv zs) :
    SeqStopsK F n Try.prog 70 #[.pointer (some ⟨Bs, 0, none⟩)] (fun x : Int => #[Value.int .i64 x]) (Below n0) (fun ys => ys = zs) (fun pre => pre <+: zs) zs.length w := fun l J Jx W hW _ _ hY h0 => by
  have hc' := (hW.cell (p := ⟨Bs, 0, none⟩) hBs).trans hc
  rcases hI.below (hW.mono hn0) with ⟨a, cap, rfl, rfl⟩ | ⟨b, off, cap, rfl, hb, hcs⟩
  · exact (values1_nil_in F n hf hro l Bs cap a J W hc' h0).mono fun e W' ⟨he, hj⟩ => ⟨he, .inl ⟨_, rfl, hj⟩⟩
  · refine (values1_in F n hf hro hn l Bs n0 b off zs.length cap zs hreach hb J Jx hY W hc' hcs h0).mono ?_
    rintro e W' ⟨he, ⟨ys, rfl, hj⟩ | ⟨pre, ⟨k, hk, rfl⟩, hj⟩⟩
    · exact ⟨he, .inl ⟨_, upto_all zs, hj⟩⟩
    · exact ⟨he, .inr ⟨_, by rw [upto_take zs hk]; exact List.take_prefix _ _, hj⟩⟩

theorem infoI : (Try.prog.info? 3).map (fun i => (i.zero, i.size, i.bytes)) = some (some (.int .i64 0), 1, 8) := by kernel_rfl

set_option maxRecDepth 100000 in
set_option maxHeartbeats 2000000 in
theorem appendSeq_in (F : Fence) (n : Nat) (hf : F.fn 77) (hv : F.fn 70) (hro : F.round = none) (hn : 3 ≤ n) (Bs : Nat) (sv : Value) (zs : List Int) (hlen : zs.length * 8 ≤ 140737488351232) (w : World) (hBs : Bs < w.heap.size)
    (hc : w.cell? ⟨Bs, 0, none⟩ = some sv) (hI : InSl w.heap.size w sv zs) :
    CallsIn F n Try.prog 77 #[.slice none 0 0, .func (.func 70) #[] #[.pointer (some ⟨Bs, 0, none⟩)]] w fun e W' =>
      ∃ v, e = .returned v ∧ W'.ownsRow w.heap.size 3 1 v zs.length (zs.map (Value.int .i64)) ∧ Below w.heap.size w W' := by
  have h1 : 1 ≤ n := by omega
  obtain ⟨i0, hi, hz0, hz1, hz2⟩ := info_parts infoI
  refine callsIn_of_wp_marks Try.func77 rfl hf ?_ hro
  simp only [Try.ntmps77, List.size_toArray, List.length_cons, List.length_nil, Nat.reduceAdd, Nat.reduceSub, Array.replicate_succ, Array.replicate_zero, List.push_toArray, List.append_toArray, List.nil_append, List.cons_append]
  gi_wp2
  have bO := Boxed.new w 23 (.slice none 0 0)
  have hB0 : Below w.heap.size w (w.alloc (.cells #[.slice none 0 0] 23)) := (Below.refl _ w).alloc (Nat.le_refl _) _
  refine wpIn_rangeFunc_ownG hro h1 (gf := 70) (lb := #[.pointer (some ⟨Bs, 0, none⟩)]) rfl hv (enters_of Try.func70 (by kernel_rfl) rfl)
    (values_stops F (n - 1) hv hro (by omega) Bs w.heap.size sv zs (by omega) _ (by simp; omega) (by simp) ((hB0.cell (p := ⟨Bs, 0, none⟩) hBs).trans hc) (hI.below hB0)) belowK_t (belowK_b (by simp)) (Below.refl _ _) (fun _ => rfl)
    (fun pre W => (∃ v, Boxed W w.heap.size 23 v ∧ W.ownsRow w.heap.size 3 1 v pre.length (pre.map (Value.int .i64)) ∧ True) ∧ Below w.heap.size w W)
    (fun _ _ _ => False)
    (OwnFrom.and (Own.from (holdsRow_own w.heap.size w.heap.size 23 3 1 (fun (pre : List Int) => pre.length) (fun pre => pre.map (Value.int .i64)) (fun _ _ => True)) _) (ownFrom_below (Nat.le_refl _) (by simp)))
    (fun _ _ _ _ _ hs _ _ => hs)
    ⟨⟨_, bO, World.ownsRow_nil _ _ _ _, trivial⟩, hB0⟩
    (fun x => { tmps := #[.slice none 0 0, .func (.func 70) #[] #[.pointer (some ⟨Bs, 0, none⟩)], .pointer (some ⟨w.heap.size, 0, none⟩), undef, .slice none 0 0, .int .i64 x, .func (.func 70) #[] #[.pointer (some ⟨Bs, 0, none⟩)], .int .i64 x, undef, undef, undef, undef, undef], defers := [] }) ?assign ?body ?done ?stop
  case assign =>
    intro l x W K hK
    gi_wp2
    exact hK
  case body =>
    rintro l pre x W ⟨⟨v, hv, hrow, _⟩, hB⟩ hlt
    have hc := hv.cell
    gi_wp2_with (gi_at_builtin; refine wpListIn_append_own _ rfl _ _ 23 rfl w.heap.size 3 i0 (.int .i64 0) 1 8 Try.underlying23 hi hz0 hz1 hz2 rfl (by decide) _ _ _ rfl (hrow.alloc _) ⟨W.heap.size, 0, none⟩ 1 1 [.int .i64 x] rfl rfl (cell_one_new _ _ _) (by simp [Value.oneCell']) (by unfold maxLen; omega) (by omega) (by have := hB.size; simp; omega) ?_; intro v' w1 hown' hgrow _; obtain ⟨g', cap', rfl⟩ := ownsRow_succ hown'; obtain ⟨hv1, hv2, hr2, hk2, hb2⟩ := hv.appended (by decide) hrow hB.size (Nat.le_refl _) hown' hgrow; have hc1 := hv1.cell; have hf1 := hv1.frozen)
    exact ⟨hk2.from _, hb2, ⟨_, hv2, by simpa using hr2, trivial⟩, hB.trans hb2⟩
  case done =>
    rintro D ys W hD rfl ⟨⟨v, hv, hrow, _⟩, hB⟩ hK
    have hc := hv.cell
    gi_wp2
    refine ⟨by simp, .inl ⟨_, _, rfl, run_takeDeferred hK, ?_⟩⟩
    exact ⟨_, results_tmp rfl _ _ _, v, rfl, ownsRow_putObj hrow _ hK rfl, hB.trans (belowK_b (w := w) (Nat.le_refl _) W D _ _ (by simp at hD; omega) hK rfl rfl)⟩
  case stop =>
    rintro D c pre W _ _ h _
    exact h.elim
end
end Go.Proofs.Ytdpcdbepeemflaa
end

section
/- slices.Values, AppendSeq, Collect, Sorted, as the engine asks. -/
namespace Go.Proofs.Ytdpcdbepeemflaa
open Go Go.Eng Go.Tc Go.RowKit
theorem inSl_of {w : World} {sv : Value} {zs : List Int} (h : Sl All w Eng.encI 1 sv zs) : InSl w.heap.size w sv zs := by
  obtain ⟨a, n, cap, rfl, hn, _, _, hso⟩ := h.is
  subst hn
  by_cases h0 : zs = []
  · subst h0; exact .inl ⟨a, cap, rfl, rfl⟩
  · have hpos : 0 < zs.length := List.length_pos_iff.2 h0
    obtain ⟨A, rfl⟩ := Option.isSome_iff_exists.1 (hso hpos)
    have hcell : ∀ j, j < zs.length → w.cell? (A.add j) = some (.int .i64 (zs[j]?.getD 0)) := fun j hj => by
      have := h.cell j (zs[j]) 0 (.int .i64 zs[j]) (List.getElem?_eq_getElem hj) rfl
      simp only [elt, Nat.mul_one, add_add, Nat.add_zero] at this
      rw [this, List.getElem?_eq_getElem hj]; rfl
    obtain ⟨b, off, sp⟩ := A
    have h00 := hcell 0 hpos
    have hsp : sp = none := by
      cases sp with
      | none => rfl
      | some x =>
        exfalso
        rw [addr_zero] at h00
        unfold World.cell? at h00
        split at h00
        · simp at h00
        · cases h00
    subst hsp
    refine .inr ⟨b, off, cap, rfl, ?_, fun j hj => ?_⟩
    · have := World.block_lt_of_cell? w _ h00; rwa [add_block] at this
    · have := hcell j hj
      unfold Addr.add at this
      by_cases hj0 : j = 0
      · subst hj0; simpa using this
      · simpa [hj0] using this

/-- the function value that slices.Values hands out -/
def seqV (b : Nat) : Value := .func (.func 70) #[] #[.pointer (some ⟨b, 0, none⟩)]

theorem appendSeq_spec (Bs : Nat) (sv : Value) (zs : List Int) (w : World) (hlen : zs.length * 8 ≤ 140737488351232) (hc : w.cell? ⟨Bs, 0, none⟩ = some sv) (hs : Sl All w Eng.encI 1 sv zs) :
    Mk Try.prog 77 [.slice none 0 0, seqV Bs] w fun _ v es _ => SV v ∧ es = [.own v 3 1 Eng.encI zs] := by
  unfold Mk
  have h := callsIn_wide.1 (appendSeq_in Fence.wide 5 trivial trivial rfl (by decide) Bs sv zs hlen w (World.block_lt_of_cell? w _ hc) hc (inSl_of hs))
  refine h.mono ?_
  rintro e w' ⟨v, rfl, ho, hb⟩
  unfold MkR
  have hsv : SV v := by
    rcases ho.2 with ⟨rfl, _⟩ | ⟨g, cap, cur, rfl, _⟩ <;> exact ⟨_, _, _, rfl⟩
  have hfp : ∀ k, k ∈ (Ent.own v 3 1 Eng.encI zs).fp → k < w'.heap.size ∧ w.heap.size ≤ k := fun k hk => by
    rcases ho.2 with ⟨rfl, _⟩ | ⟨g, cap, cur, rfl, hg, hh, _⟩
    · simp [Ent.fp, Value.ownBlock] at hk
    · simp only [Ent.fp, Value.ownBlock, Option.mem_toList, Option.mem_some_iff] at hk
      obtain rfl : g = k := Option.some.inj hk
      exact ⟨(Array.getElem?_eq_some_iff.1 hh).1, hg⟩
  refine ⟨v, _, rfl, ⟨hsv, rfl⟩, ⟨fun B hB => ?_, fun e he => ?_, fun e he k hk => ?_, fun B hB e he k hk _ => ?_, fun i j ei ej hij hi hj => ?_⟩⟩
  · rw [List.mem_singleton.1 hB]
    exact ⟨hb.os, hb.tape, hb.output, hb.size, fun k hk _ => hb.block k hk⟩
  · rw [List.mem_singleton.1 he]
    show World.ownsRow w' 0 3 1 v zs.length (zs.flatMap Eng.encI)
    rw [flat_encI]
    exact ⟨ho.1, ho.2.imp id fun ⟨g, cap, cur, a, _, r⟩ => ⟨g, cap, cur, a, Nat.zero_le _, r⟩⟩
  · rw [List.mem_singleton.1 he] at hk; exact (hfp k hk).1
  · rw [List.mem_singleton.1 he] at hk; rw [List.mem_singleton.1 hB]; exact (hfp k hk).2
  · cases i <;> cases j <;> simp_all
end Go.Proofs.Ytdpcdbepeemflaa
namespace Go.Proofs.Ytdpcdbepeemflaa
open Go Go.Eng Go.Tc
attribute [local irreducible] wpList Code.wp bodyPost Exit.then Exit.inBlock Calls
set_option maxHeartbeats 800000 in
theorem scollect_spec (Bs : Nat) (sv : Value) (zs : List Int) (w : World) (hlen : zs.length * 8 ≤ 140737488351232) (hc : w.cell? ⟨Bs, 0, none⟩ = some sv) (hs : Sl All w Eng.encI 1 sv zs) :
    Mk Try.prog 68 [seqV Bs] w fun _ v es _ => SV v ∧ es = [.own v 3 1 Eng.encI zs] := by
  refine enter_mk Try.func68 Try.ntmps68 rfl rfl ?_
  refine gO_ ?_
  refine wl_fx (fx_call_mk (spec := fun w' hw => appendSeq_spec Bs sv zs w' hlen (cell_of_agr (hw.base _ (.head _)) trivial hc) (hw.now hs (.head _))) (next := ?_))
  rintro v n1 es w1 ⟨hv, rfl⟩
  refine gO_ ?_
  exact mk_ret Try.results68 (.tmp rfl .nil) (.tail _ (.head _)) [_] [0] rfl (by decide) fun w' hw => ⟨hv, rfl⟩

set_option maxHeartbeats 800000 in
theorem svalues_spec (sv : Value) (w : World) (hv : SV sv) :
    Mk Try.prog 55 [sv] w fun _ v es _ => ∃ b, v = seqV b ∧ es = [.box b [sv] 23] := by
  refine enter_mk Try.func55 Try.ntmps55 rfl rfl ?_
  refine gO_ ?_
  refine wl_fx (fx_box (next := ?_)); intro b
  refine gO_ ?_
  exact mk_ret Try.results55 (.tmp rfl .nil) (.head _) [_] [0] rfl (by decide) fun w' hw => ⟨b, rfl, rfl⟩

set_option maxHeartbeats 800000 in
theorem ssorted_spec (Bs : Nat) (sv : Value) (zs : List Int) (w : World) (hlen : zs.length * 8 ≤ 140737488351232) (hc : w.cell? ⟨Bs, 0, none⟩ = some sv) (hs : Sl All w Eng.encI 1 sv zs) :
    Mk Try.prog 54 [seqV Bs] w fun _ v es _ => SV v ∧ es = [.own v 3 1 Eng.encI (sortI zs)] := by
  refine enter_mk Try.func54 Try.ntmps54 rfl rfl ?_
  refine gO_ ?_
  refine wl_fx (fx_call_mk (spec := fun w' hw => scollect_spec Bs sv zs w' hlen (cell_of_agr (hw.base _ (.head _)) trivial hc) (hw.now hs (.head _))) (next := ?_))
  rintro v n1 es w1 ⟨hv, rfl⟩
  refine gO_ ?_
  refine wl_fx (fx_call_mu 0 rfl (spec := fun w' hw => ssort_spec v zs w' hlen (hw.only (.head _))) (next := ?_))
  rintro r n2 e' w2 ⟨rfl, rfl⟩
  refine gO_ ?_
  exact mk_ret Try.results54 (.tmp rfl .nil) (.tail _ (.head _)) [_] [0] rfl (by decide) fun w' hw => ⟨hv, rfl⟩
end Go.Proofs.Ytdpcdbepeemflaa
end
