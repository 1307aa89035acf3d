import Derived.Test.YtifgncgiiojikaaGreatDoorG11
import Derived.Test.YtifgncgiiojikaaGreatDoorG10
set_option linter.unusedSimpArgs false
set_option linter.unusedVariables false
section
/- The walks: Same, SamePairs, SameInts, Has (both), Pairs of the reference. -/
namespace Go.Proofs.YtifgncgiiojikaaGreatDoor
open Go Go.Eng Go.Rl
attribute [local irreducible] wpList Code.wp bodyPost Exit.then Exit.inBlock Calls

instance : EqS Tryz.prog 83 encPair := ⟨Tryz.eqGuardType83, fun x y w => by
  obtain ⟨a, b⟩ := x
  obtain ⟨c, d⟩ := y
  simp [encPair, run_equalIn_agg w 9999 83 _ _ (by rw [Program.fieldsOf, Tryz.underlying83]) Tryz.stoodInHeld83, Program.fieldsOf, Tryz.underlying83, Op.eqFields, part, isAgg, run_underlying Tryz.underlying3, run_equalIn_int w 9998 3 .i64 .i64 _ _ Tryz.underlying3]
  by_cases h1 : a = c <;> by_cases h2 : b = d <;> simp [h1, h2]⟩

theorem getD_eq_of {τ : Type} [Inhabited τ] [DecidableEq τ] {xs ys : List τ} (hl : xs.length = ys.length) (h : ∀ i, i < xs.length → xs.getD i default = ys.getD i default) : xs = ys := by
  apply List.ext_getElem hl
  intro i h1 h2
  have := h i h1
  rwa [List.getD_eq_getElem?_getD, List.getD_eq_getElem?_getD, List.getElem?_eq_getElem h1, List.getElem?_eq_getElem h2] at this

set_option maxHeartbeats 400000 in
theorem sameInts_spec (sa sb : Value) (xs ys : List Int) (w : World) (ha : Sl All w encI 1 sa xs) (hb : Sl All w encI 1 sb ys) :
    Pur Tryz.prog 28 [sa, sb] w fun _ v _ => v = .bool (decide (xs = ys)) := by
  have hla := ha.le
  have hlb := hb.le
  refine enter_pur Tryz.func28 Tryz.ntmps28 rfl rfl ?_
  refine gO_ ?_
  refine wc_cond rfl (fun h1 => ?_) (fun h1 => ?_)
  · refine gO_ ?_
    refine pur_ret Tryz.results28 (.tmp rfl .nil) (.head _) fun w' hw => ?_
    simp only [Bool.not_eq_true', dc_false] at h1
    have : ¬ (xs = ys) := by rintro h3; subst h3; omega
    rw [decide_eq_false this]; rfl
  · simp only [Bool.not_eq_false', dc_true] at h1
    have hlen' : xs.length = ys.length := by omega
    refine gO_ ?_
    refine wc_loop (fun k : Nat => k ≤ xs.length ∧ ∀ i, i < k → xs.getD i default = ys.getD i default) (fun k => [(5, true, .int .i64 k), (0, true, sa), (1, true, sb)])
      (fun _ => Mem [(w, All)] []) (fun k => xs.length - k) 0 ⟨by omega, fun i hi => by omega⟩ ⟨rfl, rfl, rfl, trivial⟩ (fun _ h => h) ?_
    rintro k ⟨hk, hall⟩
    refine gO_ ?_
    refine wc_cond_dec rfl (fun h2 => ?_) (fun h2 => ?_)
    · have hk1 : k < xs.length := by omega
      have hk2 : k < ys.length := by omega
      refine gO_ ?_
      refine wc_draw [0, 1, 2, 3, 4, 5, 6, 7, 8] mixed ?_
      refine kG_ ?_
      refine gO_ ?_
      refine wc_cond rfl (fun h3 => ?_) (fun h3 => ?_)
      · refine gO_ ?_
        refine pur_ret Tryz.results28 (.tmp rfl .nil) (.head _) fun w' hw => ?_
        simp only [Bool.not_eq_true', dc_false] at h3
        have : ¬ (xs = ys) := by rintro h4; subst h4; exact h3 rfl
        rw [decide_eq_false this]; rfl
      · simp only [Bool.not_eq_false', dc_true] at h3
        refine gO_ ?_
        refine po_loop (k + 1) ⟨by omega, fun i hi => ?_⟩ (by omega) ⟨rfl, rfl, rfl, trivial⟩ (fun _ h => h)
        by_cases hik : i < k
        · exact hall i hik
        · obtain rfl : i = k := by omega
          exact h3
    · refine gO_ ?_
      refine pur_ret Tryz.results28 (.tmp rfl .nil) (.head _) fun w' hw => ?_
      rw [decide_eq_true (getD_eq_of hlen' fun i hi => hall i (by omega))]; rfl

end Go.Proofs.YtifgncgiiojikaaGreatDoor
end

section
/- The walks: Has (both), Pairs of the reference. -/
namespace Go.Proofs.YtifgncgiiojikaaGreatDoor
open Go Go.Eng Go.Rl
attribute [local irreducible] wpList Code.wp bodyPost Exit.then Exit.inBlock Calls

set_option maxHeartbeats 400000 in
theorem has_spec (n : Int) (sv : Value) (rows : List W) (a b : Int) (w : World) (h : Sl All w encW 1 sv rows) :
    Pur Tryz.prog 117 [.agg #[.int .i64 n, sv], .int .i64 a, .int .i64 b] w fun _ v _ => v = .bool (has n rows a b) := by
  refine enter_pur Tryz.func117 Tryz.ntmps117 rfl rfl ?_
  refine gO_ ?_
  refine wl_fx (fx_box (next := ?_)); intro bx
  refine gO_ ?_
  refine wl_fx (fx_call (spec := fun w' hw => check_spec n sv rows w' (hw.now h (.head _))) (next := ?_))
  rintro v n' w1 rfl hn1
  by_cases hok : relOk n rows = true
  · simp only [if_pos hok]
    obtain ⟨m, rfl, hm64, hlen⟩ := relOk_nat hok
    refine gO_ ?_
    refine pur_ret Tryz.results117 (.tmp rfl .nil) (.tail _ (.head _)) fun w' hw => congrArg Value.bool ?_
    unfold has
    rw [hok, Bool.true_and]
    by_cases hab : 0 ≤ b ∧ b < (m : Int)
    · obtain ⟨B, rfl⟩ : ∃ B : Nat, b = B := ⟨b.toNat, by omega⟩
      have := bit_eq (rows.getD a.toNat default) B (by omega)
      simp only [dc_eq, this, Int.toNat_natCast]
      simp
    · simp only [dc_eq]
      have : (decide (0 ≤ b) && decide (b < (m : Int))) = false := by simp; omega
      simp only [Bool.and_assoc]
      rw [← Bool.and_assoc (decide (0 ≤ b)), ← Bool.and_assoc (decide (0 ≤ b)), this]
      simp
  · simp only [if_neg hok]
    refine gO_ ?_
    refine pur_ret Tryz.results117 (.tmp rfl .nil) (.tail _ (.head _)) fun w' hw => congrArg Value.bool ?_
    have : relOk n rows = false := by simpa using hok
    unfold has
    rw [this]
    simp [dc_eq]

end Go.Proofs.YtifgncgiiojikaaGreatDoor
end

section
/- The walks: made, closed, Plus, turns. -/
namespace Go.Proofs.YtifgncgiiojikaaGreatDoor
open Go Go.Eng Go.Rl
attribute [local irreducible] wpList Code.wp bodyPost Exit.then Exit.inBlock Calls

set_option maxHeartbeats 400000 in
theorem made_spec (m : Nat) (kf : Nat) [FN Tryz.prog kf] (cap : List Value) (f : Nat → W) (w : World) (h64 : m ≤ 64)
    (hk : ∀ i w', i < m → Mem [(w, All)] [] w' → Pur Tryz.prog kf (.int .i64 (i : Nat) :: cap) w' fun _ v _ => v = u64 (f i)) :
    Mk Tryz.prog 84 [.int .i64 m, .func (.func kf) #[] cap.toArray] w fun _ v es _ => ∃ sv, SV sv ∧ v = .agg #[.int .i64 m, sv] ∧ es = [ownW sv ((List.range m).map f)] := by
  refine enter_mk Tryz.func84 Tryz.ntmps84 rfl rfl ?_
  refine gO_ ?_
  refine wl_fx (fx_alloc (next := ?_)); intro br
  refine gO_ ?_
  refine wl_fx (fx_make (next := ?_)); intro sv hv
  refine gO_ ?_
  refine wl_fx (fx_alloc (next := ?_)); intro b
  refine gO_ ?_
  refine wl_fx (fx_store_box (i := 0) (hi := rfl) (next := ?_))
  refine gO_ ?_
  refine wc_loop (fun s : Nat × List W => s.1 ≤ m ∧ s.2.length = m ∧ ∀ i, i < s.1 → s.2.getD i default = f i) (fun s => [(12, true, .int .i64 s.1), (11, true, .int .i64 m), (5, true, .pointer (some ⟨b, 0, none⟩)), (4, true, .pointer (some ⟨br, 0, none⟩)), (1, true, .func (.func kf) #[] cap.toArray)])
    (fun s => Mem [(w, All)] [.box b [.int .i64 m, sv] 60, ownW sv s.2, .box br [.int .i64 0, .slice none 0 0] 60]) (fun s => m - s.1) (0, List.replicate m 0#64) ⟨by simp, by simp, fun i hi => by simp at hi⟩ ⟨rfl, rfl, rfl, rfl, rfl, trivial⟩ (fun _ h => h) ?_
  rintro ⟨k, rows⟩ ⟨hk1, hlen, hall⟩
  dsimp only at hk1 hlen hall ⊢
  refine gO_ ?_
  refine wc_cond_dec rfl (fun h2 => ?_) (fun h2 => ?_)
  · refine gO_ ?_
    refine wc_draw [0, 1, 2, 3, 4, 5, 6, 7] mixed ?_
    refine kG_ ?_
    refine kg_f _ (h := fx_call (spec := fun w' hw' => hk k w' (by omega) (hw'.sel [] rfl (by decide))) (next := ?_)) (hSS := fun _ h => h)
    rintro v n2 w2 rfl hn2
    refine kp_S ?_ (fun _ h => h.tailB)
    refine kG_ ?_
    refine kg_z (h := fx_store_own (k := 1) (hk := rfl) (next := ?_))
    refine gO_ ?_
    refine po_loop (k + 1, rows.set k (f k)) ⟨by dsimp only; omega, by simp [hlen], fun i hi => ?_⟩ (by dsimp only; omega) ⟨rfl, rfl, rfl, rfl, rfl, trivial⟩ (fun _ h => h.tailB)
    dsimp only at hi ⊢
    rw [List.getD_eq_getElem?_getD, List.getElem?_set]
    by_cases hik : k = i
    · subst hik; simp [show k < rows.length from by omega]
    · rw [if_neg hik, ← List.getD_eq_getElem?_getD]; exact hall i (by omega)
  · refine gO_ ?_
    refine wl_fx (fx_store_box (i := 2) (hi := rfl) (next := ?_))
    refine gO_ ?_
    refine mk_ret Tryz.results84 (.cellN inferInstance rfl (.tail _ (.tail _ (.head _))) rfl .nil) (.head _) [ownW sv rows] [1] rfl (by decide) fun w' hw => ?_
    refine ⟨sv, hv, rfl, ?_⟩
    rw [getD_eq_of (xs := rows) (ys := (List.range m).map f) (by simp [hlen]) fun i hi => by
      rw [hall i (by omega), List.getD_eq_getElem?_getD, List.getElem?_map, List.getElem?_range (by omega)]; rfl]

theorem closed1_spec (i m : Nat) (ba : Nat) (sv : Value) (rows : List W) (w : World) (hi : i < rows.length) (hb : Bx All w ba [.int .i64 m, sv]) (h : Sl All w encW 1 sv rows) :
    Pur Tryz.prog 86 [.int .i64 i, .pointer (some ⟨ba, 0, none⟩)] w fun _ v _ => v = u64 (rows.getD i default) := by
  refine enter_pur Tryz.func86 Tryz.ntmps86 rfl rfl ?_
  refine gO_ ?_
  exact pur_ret Tryz.results86 (.tmp rfl .nil) (.head _) fun w' hw => rfl

set_option maxHeartbeats 400000 in
theorem closed_spec (m : Nat) (sv : Value) (rows : List W) (w : World) (h : Sl All w encW 1 sv rows) (h64 : m ≤ 64) (hlen : rows.length = m) :
    Mk Tryz.prog 67 [.agg #[.int .i64 m, sv]] w fun _ v es _ => ∃ sv', SV sv' ∧ v = .agg #[.int .i64 m, sv'] ∧ es = [ownW sv' (closedL m rows)] := by
  refine enter_mk Tryz.func67 Tryz.ntmps67 rfl rfl ?_
  refine gO_ ?_
  refine wl_fx (fx_box (next := ?_)); intro ba
  refine gO_ ?_
  refine wl_fx (fx_alloc (next := ?_)); intro br
  refine gO_ ?_
  refine wl_fx (fx_call_mk (spec := fun w' hw => made_spec m 86 [.pointer (some ⟨ba, 0, none⟩)] (fun i => rows.getD i default) w' h64 (fun i w2 hi hw2 =>
    closed1_spec i m ba sv rows w2 (by omega) ((hw.bx (.tail _ (.head _)) trivial).mono (hw2.base _ (.head _)) (fun _ => trivial)) (hw2.now (hw.now h (.head _)) (.head _)))) (next := ?_))
  rintro v n es w1 ⟨s1, hs1, rfl, rfl⟩
  rw [map_getD m rows hlen]
  refine gO_ ?_
  refine wl_fx (fx_alloc (next := ?_)); intro bo
  refine gO_ ?_
  refine wl_fx (fx_store_box (i := 0) (hi := rfl) (next := ?_))
  refine gO_ ?_
  refine wc_loop (fun s : Nat × List W => s.1 ≤ m ∧ s.2.length = m ∧ s.2 = (List.range s.1).foldl (crow m) rows) (fun s => [(12, true, .int .i64 s.1), (11, true, .int .i64 m), (3, true, .pointer (some ⟨bo, 0, none⟩)), (2, true, .pointer (some ⟨br, 0, none⟩)), (1, true, .pointer (some ⟨ba, 0, none⟩))])
    (fun s => Mem [(w, All)] [.box bo [.int .i64 m, s1] 60, ownW s1 s.2, .box br [.int .i64 0, .slice none 0 0] 60, .box ba [.int .i64 m, sv] 60]) (fun s => m - s.1) (0, rows) ⟨by simp, hlen, rfl⟩ ⟨rfl, rfl, rfl, rfl, rfl, trivial⟩ (fun _ h => h.tailB) ?_
  rintro ⟨k, cur⟩ ⟨hk, hcl, hcur⟩
  dsimp only at hk hcl hcur ⊢
  refine gO_ ?_
  refine wc_cond_dec rfl (fun h2 => ?_) (fun h2 => ?_)
  · refine gO_ ?_
    refine wc_loop (fun s : Nat × List W => s.1 ≤ m ∧ s.2.length = m ∧ s.2 = (List.range s.1).foldl (cstep k) cur) (fun s => [(17, true, .int .i64 s.1), (16, true, .int .i64 m), (4, true, .int .i64 k), (12, true, .int .i64 k), (11, true, .int .i64 m), (3, true, .pointer (some ⟨bo, 0, none⟩)), (2, true, .pointer (some ⟨br, 0, none⟩)), (1, true, .pointer (some ⟨ba, 0, none⟩))])
      (fun s => Mem [(w, All)] [.box bo [.int .i64 m, s1] 60, ownW s1 s.2, .box br [.int .i64 0, .slice none 0 0] 60, .box ba [.int .i64 m, sv] 60]) (fun s => m - s.1) (0, cur) ⟨by simp, hcl, rfl⟩ ⟨rfl, rfl, rfl, rfl, rfl, rfl, rfl, rfl, trivial⟩ (fun _ h => h) ?_
    rintro ⟨i, c2⟩ ⟨hi, hc2l, hc2⟩
    dsimp only at hi hc2l hc2 ⊢
    refine gO_ ?_
    refine wc_cond_dec rfl (fun h3 => ?_) (fun h3 => ?_)
    · have hi2 : i < c2.length := by omega
      have hk2 : k < c2.length := by omega
      have hstep := foldl_succ (cstep k) cur i
      rw [← hc2] at hstep
      refine gO_ ?_
      refine wc_cond rfl (fun h4 => ?_) (fun h4 => ?_)
      · rw [dc_eq, bit_eq _ k (by omega)] at h4
        refine gO_ ?_
        refine wc_draw [0, 1, 2, 3, 4, 5, 6, 7, 8, 9, 10, 11, 12] mixed ?_
        refine kG_ ?_
        refine kg_z (h := fx_store_own (k := 1) (hk := rfl) (next := ?_))
        refine gO_ ?_
        refine po_loop (i + 1, c2.set i (c2.getD i default ||| c2.getD k default)) ⟨by dsimp only; omega, by simp [hc2l], ?_⟩ (by dsimp only; omega) ⟨rfl, rfl, rfl, rfl, rfl, rfl, rfl, rfl, trivial⟩ (fun _ h => h)
        dsimp only
        rw [hstep]; unfold cstep; rw [if_pos h4]
      · rw [dc_eq, bit_eq _ k (by omega)] at h4
        refine gO_ ?_
        refine po_loop (i + 1, c2) ⟨by dsimp only; omega, hc2l, ?_⟩ (by dsimp only; omega) ⟨rfl, rfl, rfl, rfl, rfl, rfl, rfl, rfl, trivial⟩ (fun _ h => h)
        dsimp only
        rw [hstep]; unfold cstep; rw [if_neg (by rw [h4]; simp)]
    · refine gO_ ?_
      refine po_loop (k + 1, c2) ⟨by dsimp only; omega, hc2l, ?_⟩ (by dsimp only; omega) ⟨rfl, rfl, rfl, rfl, rfl, trivial⟩ (fun _ h => h)
      dsimp only
      rw [foldl_succ, ← hcur, hc2, show i = m from by omega]; rfl
  · refine gO_ ?_
    refine wl_fx (fx_store_box (i := 2) (hi := rfl) (next := ?_))
    refine gO_ ?_
    refine mk_ret Tryz.results67 (.cellN inferInstance rfl (.tail _ (.tail _ (.head _))) rfl .nil) (.head _) [ownW s1 cur] [1] rfl (by decide) fun w' hw => ?_
    refine ⟨s1, hs1, rfl, ?_⟩
    rw [hcur, show k = m from by omega]; rfl
end Go.Proofs.YtifgncgiiojikaaGreatDoor
end

section
/- The walks: Plus, turns, Line. -/
namespace Go.Proofs.YtifgncgiiojikaaGreatDoor
open Go Go.Eng Go.Rl
attribute [local irreducible] wpList Code.wp bodyPost Exit.then Exit.inBlock Calls

set_option maxHeartbeats 400000 in
theorem turns_spec (m : Nat) (sv : Value) (rows : List W) (w : World) (h : Sl All w encW 1 sv rows) (h64 : m ≤ 64) (hlen : rows.length = m) :
    Pur Tryz.prog 44 [.agg #[.int .i64 m, sv]] w fun _ v _ => v = .bool (turnsL m rows) := by
  refine enter_pur Tryz.func44 Tryz.ntmps44 rfl rfl ?_
  refine gO_ ?_
  refine wl_fx (fx_box (next := ?_)); intro ba
  refine gO_ ?_
  refine wl_fx (fx_call_mk (spec := fun w' hw => closed_spec m sv rows w' (hw.now h (.head _)) h64 hlen) (next := ?_))
  rintro v n2 es w2 ⟨s1, hs1, rfl, rfl⟩
  have hcl : (closedL m rows).length = m := by rw [closedL_length, hlen]
  refine gO_ ?_
  refine wl_fx (fx_alloc (next := ?_)); intro bc
  refine gO_ ?_
  refine wl_fx (fx_store_box (i := 0) (hi := rfl) (next := ?_))
  refine gO_ ?_
  refine wc_loop (fun k : Nat => k ≤ m ∧ ∀ i, i < k → ((closedL m rows).getD i default).getLsbD i = false) (fun k => [(9, true, .int .i64 k), (8, true, .int .i64 m), (3, true, .pointer (some ⟨bc, 0, none⟩)), (1, true, .pointer (some ⟨ba, 0, none⟩))])
    (fun _ => Mem [(w, All)] [.box bc [.int .i64 m, s1] 60, ownW s1 (closedL m rows), .box ba [.int .i64 m, sv] 60]) (fun k => m - k) 0 ⟨by omega, fun i hi => by omega⟩ ⟨rfl, rfl, rfl, rfl, trivial⟩ (fun _ h => h.tailB) ?_
  rintro k ⟨hk, hall⟩
  refine gO_ ?_
  refine wc_cond_dec rfl (fun h2 => ?_) (fun h2 => ?_)
  · have hk2 : k < (closedL m rows).length := by omega
    refine gO_ ?_
    refine wc_cond rfl (fun h4 => ?_) (fun h4 => ?_)
    · rw [dc_eq, bit_eq _ k (by omega)] at h4
      refine gO_ ?_
      refine pur_ret Tryz.results44 (.tmp rfl .nil) (.head _) fun w' hw => ?_
      have : turnsL m rows = true := by
        unfold turnsL; rw [List.any_eq_true]; exact ⟨k, by rw [List.mem_range]; omega, h4⟩
      rw [this]; rfl
    · rw [dc_eq, bit_eq _ k (by omega)] at h4
      refine gO_ ?_
      refine po_loop (k + 1) ⟨by omega, fun i hi => ?_⟩ (by omega) ⟨rfl, rfl, rfl, rfl, trivial⟩ (fun _ h => h)
      by_cases hik : i < k
      · exact hall i hik
      · obtain rfl : i = k := by omega
        exact h4
  · refine gO_ ?_
    refine pur_ret Tryz.results44 (.tmp rfl .nil) (.head _) fun w' hw => ?_
    have : turnsL m rows = false := by
      unfold turnsL; rw [List.any_eq_false]; intro i hi; rw [List.mem_range] at hi; rw [hall i (by omega)]; simp
    rw [this]; rfl

abbrev ownI (v : Value) (xs : List Int) : Ent := .own v 3 1 encI xs

end Go.Proofs.YtifgncgiiojikaaGreatDoor
end

section
/- The walks: awake, Copy, Kept. -/
namespace Go.Proofs.YtifgncgiiojikaaGreatDoor
open Go Go.Eng Go.Rl
attribute [local irreducible] wpList Code.wp bodyPost Exit.then Exit.inBlock Calls

theorem aw1 : ofS 3 [⟨0, 1⟩, ⟨1, 2⟩] = some [2#64, 4#64, 0#64] := by decide +kernel
theorem aw2 : relOk 3 [2#64, 4#64, 0#64] = true := by decide +kernel
theorem aw3 : closedL 3 [2#64, 4#64, 0#64] = [6#64, 4#64, 0#64] := by decide +kernel
theorem aw4 : turnsL 3 [2#64, 4#64, 0#64] = false := by decide +kernel
theorem aw5 : lineL 3 [2#64, 4#64, 0#64] = [0, 1, 2] := by decide +kernel
theorem aw6 : has 3 [2#64, 4#64, 0#64] 0 2 = false := by decide +kernel
theorem aw7 : has 3 [6#64, 4#64, 0#64] 0 2 = true := by decide +kernel

end Go.Proofs.YtifgncgiiojikaaGreatDoor
end

section
/- Contracts in one form, whatever comes in; the law RelMakes, walked. -/
namespace Go.Eng
open Go Go.RowKit
theorem Mem.nilOwn {τ : Type} {bs : List Base} {H : List Ent} {w : World} (e sz : Nat) (enc : τ → List Value) (hw : Mem bs H w) : Mem bs (.own (.slice none 0 0) e sz enc [] :: H) w := by
  refine hw.new rfl rfl rfl (Nat.le_refl _) (fun _ _ => rfl) ⟨by simp, .inl ⟨rfl, rfl⟩⟩ (fun k hk => ?_) (fun k hk => ?_) <;> simp [Ent.fp, Value.ownBlock] at hk

/-- an answer without entries, as one of an empty slice -/
theorem Mk.nilled {τ : Type} {P : Program} {k : FuncId} {args : List Value} {w : World} {Ψ Ψ' : Nat → Value → List Ent → World → Prop} (e sz : Nat) (enc : τ → List Value) (h : Mk P k args w Ψ)
    (hi : ∀ n v es w', Ψ n v es w' → Ψ' n v es w' ∨ (es = [] ∧ Ψ' n v [.own (.slice none 0 0) e sz enc []] w')) : Mk P k args w Ψ' :=
  Calls.mono h fun x w' h' => by
    unfold MkR at h' ⊢
    obtain ⟨v, es, h1, h2, h3⟩ := h'
    rcases hi _ v es w' h2 with h4 | ⟨rfl, h4⟩
    · exact ⟨v, es, h1, h4, h3⟩
    · exact ⟨v, _, h1, h4, h3.nilOwn e sz enc⟩
end Go.Eng
namespace Go.Rl
open Go Go.Eng
/-- of a relation: its number of things, its rows, the error -/
def ofN (n : Int) (l : List Pair) : Int := if (ofS n l).isSome = true then n else 0
def ofR (n : Int) (l : List Pair) : List W := (ofS n l).getD []
def pairsS (n : Int) (rows : List W) : List Pair := if relOk n rows = true then pairsL n.toNat rows else []
def plusS (n : Int) (rows : List W) : List W := if relOk n rows = true then closedL n.toNat rows else []
end Go.Rl
namespace Go.Proofs.YtifgncgiiojikaaGreatDoor
open Go Go.Eng Go.Rl
attribute [local irreducible] wpList Code.wp bodyPost Exit.then Exit.inBlock Calls

def OfΨ (n : Int) (l : List Pair) : Nat → Value → List Ent → World → Prop := fun _ v es _ => ∃ sv, SV sv ∧ v = .tuple #[.agg #[.int .i64 (ofN n l), sv], .int .i64 (erOf (ofS n l).isSome)] ∧ es = [ownW sv (ofR n l)]
theorem sv_nil : SV (.slice none 0 0) := ⟨_, _, _, rfl⟩

theorem of_all (n : Int) (lv : Value) (l : List Pair) (w : World) (h : Sl All w encPair 2 lv l) : Mk Tryz.prog 63 [.int .i64 n, lv] w (OfΨ n l) :=
  (of_spec n lv l w h).nilled 113 1 encW fun _ v es _ hΨ => by
    unfold OfΨ ofN ofR
    cases hs : ofS n l with
    | none => rw [hs] at hΨ; obtain ⟨rfl, rfl⟩ := hΨ; exact .inr ⟨rfl, _, sv_nil, rfl, rfl⟩
    | some rows => rw [hs] at hΨ; obtain ⟨sv, hsv, rfl, rfl⟩ := hΨ; exact .inl ⟨sv, hsv, rfl, rfl⟩

def PairsΨ (n : Int) (rows : List W) : Nat → Value → List Ent → World → Prop := fun _ v es _ => ∃ pv, SV pv ∧ v = .tuple #[pv, .int .i64 (erOf (relOk n rows))] ∧ es = [ownP pv (pairsS n rows)]
theorem pairs_all (n : Int) (sv : Value) (rows : List W) (w : World) (h : Sl All w encW 1 sv rows) (hT : Tab w) : Mk Tryz.prog 61 [.agg #[.int .i64 n, sv]] w (PairsΨ n rows) :=
  (pairs_spec n sv rows w h hT).nilled 83 2 encPair fun _ v es _ hΨ => by
    unfold PairsΨ pairsS erOf
    by_cases hok : relOk n rows = true
    · simp only [if_pos hok] at hΨ ⊢; exact .inl hΨ
    · simp only [if_neg hok] at hΨ ⊢; obtain ⟨rfl, rfl⟩ := hΨ; exact .inr ⟨rfl, _, sv_nil, rfl, rfl⟩

theorem Tab.now {w w' : World} {bs : List Base} {H : List Ent} (h : Tab w) (hw : Mem bs H w') (hB : (w, All) ∈ bs) : Tab w' := hw.now h hB

end Go.Proofs.YtifgncgiiojikaaGreatDoor
end

section
/- The walks: Copy, Kept. -/
namespace Go.Proofs.YtifgncgiiojikaaGreatDoor
open Go Go.Eng Go.Rl
attribute [local irreducible] wpList Code.wp bodyPost Exit.then Exit.inBlock Calls

def marks : List W := [7701#64, 7702#64, 7703#64]

end Go.Proofs.YtifgncgiiojikaaGreatDoor
end
