import Derived.Test.YtifgncgiiojikaaGreatDoorG02
import Derived.Test.YtifgncgiiojikaaGreatDoorG10
set_option linter.unusedSimpArgs false
set_option linter.unusedVariables false
section
/- The walks: Check, May, bit, None, With, Of (both). -/
namespace Go.Proofs.YtifgncgiiojikaaGreatDoor
open Go Go.Eng Go.Rl
attribute [local irreducible] wpList Code.wp bodyPost Exit.then Exit.inBlock Calls

set_option maxHeartbeats 400000 in
theorem check_spec (n : Int) (sv : Value) (rows : List (BitVec 64)) (w : World) (h : Sl All w encW 1 sv rows) : Pur Tryz.prog 43 [.agg #[.int .i64 n, sv]] w fun _ v _ => v = .int .i64 (if relOk n rows = true then 0 else 10) := by
  refine enter_pur Tryz.func43 Tryz.ntmps43 rfl rfl ?_
  refine gO_ ?_
  refine wl_fx (fx_box (next := ?_)); intro b
  refine gO_ ?_
  refine wc_cond rfl (fun h1 => ?_) (fun h1 => ?_)
  · refine gO_ ?_
    refine pur_ret Tryz.results43 (.tmp rfl .nil) (.head _) fun w' hw => ?_
    have : relOk n rows = false := by
      simp only [Bool.or_eq_true, Bool.not_eq_true', dc_true, dc_false] at h1
      simp only [relOk, Bool.and_eq_false_iff, decide_eq_false_iff_not]
      omega
    rw [this]; rfl
  · simp only [Bool.or_eq_false_iff, Bool.not_eq_false', dc_true, dc_false] at h1
    obtain ⟨m, rfl⟩ : ∃ m : Nat, n = m := ⟨n.toNat, by omega⟩
    have hlen : rows.length = m := by omega
    refine gO_ ?_
    refine wc_loop (fun k : Nat => k ≤ m ∧ ∀ i, i < k → (m = 64 ∨ rows.getD i default >>> m = 0#64)) (fun k => [(22, true, .int .i64 k), (21, true, .int .i64 m), (1, true, .pointer (some ⟨b, 0, none⟩))]) (fun _ => Mem [(w, All)] [.box b [.int .i64 m, sv] 60]) (fun k => m - k) 0 ⟨by omega, fun i hi => by omega⟩ ⟨rfl, rfl, rfl, trivial⟩ (fun _ h => h) ?_
    rintro k ⟨hk, hall⟩
    refine gO_ ?_
    refine wc_cond_dec rfl (fun h2 => ?_) (fun h2 => ?_)
    · have hk2 : k < rows.length := by omega
      refine gO_ ?_
      refine wc_draw [0, 1, 2, 3, 4, 5, 6, 7, 8, 9, 10, 11, 12, 13, 14] mixed ?_
      refine kG_ ?_
      refine gO_ ?_
      have hm : (BitVec.ofInt 64 (m : Int)).toNat = m := by simp; omega
      refine wc_cond rfl (fun h3 => ?_) (fun h3 => ?_)
      · refine gO_ ?_
        refine pur_ret Tryz.results43 (.tmp rfl .nil) (.head _) fun w' hw => ?_
        have : relOk m rows = false := by
          simp only [Bool.and_eq_true, Bool.not_eq_true', dc_true, dc_false, hm] at h3
          simp only [relOk, Bool.and_eq_false_iff, Bool.or_eq_false_iff, decide_eq_false_iff_not]
          refine .inr ⟨by omega, ?_⟩
          rw [List.all_eq_false]
          exact ⟨_, List.mem_of_getElem? (getD_some hk2), by simpa using h3.2⟩
        rw [this]; rfl
      · refine gO_ ?_
        refine po_loop (k + 1) ⟨by omega, fun i hi => ?_⟩ (by omega) ⟨rfl, rfl, rfl, trivial⟩ (fun _ h => h)
        by_cases hik : i < k
        · exact hall i hik
        · obtain rfl : i = k := by omega
          simp only [Bool.and_eq_false_iff, Bool.not_eq_false', dc_true, dc_false, hm] at h3
          rcases h3 with h3 | h3
          · exact .inl (by omega)
          · exact .inr h3
    · refine gO_ ?_
      refine pur_ret Tryz.results43 (.tmp rfl .nil) (.head _) fun w' hw => ?_
      have : relOk m rows = true := by
        simp only [relOk, Bool.and_eq_true, Bool.or_eq_true, decide_eq_true_eq, List.all_eq_true]
        refine ⟨⟨⟨by omega, by omega⟩, by omega⟩, ?_⟩
        by_cases h64 : m = 64
        · exact .inl (by omega)
        · refine .inr fun r hr => ?_
          obtain ⟨i, hi, hir⟩ := List.getElem_of_mem hr
          have := hall i (by omega)
          rw [List.getD_eq_getElem?_getD, List.getElem?_eq_getElem hi, Option.getD_some, hir] at this
          simpa [h64] using this
      rw [this]; rfl


end Go.Proofs.YtifgncgiiojikaaGreatDoor
end

section
/- The walks: With, Of (both). -/
namespace Go.Proofs.YtifgncgiiojikaaGreatDoor
open Go Go.Eng Go.Rl
attribute [local irreducible] wpList Code.wp bodyPost Exit.then Exit.inBlock Calls

/-- a relation of the call's own -/
abbrev ownW (sv : Value) (rows : List W) : Ent := .own sv 113 1 encW rows

set_option maxHeartbeats 400000 in
theorem of_spec (n : Int) (lv : Value) (l : List Pair) (w : World) (h : Sl All w encPair 2 lv l) :
    Mk Tryz.prog 63 [.int .i64 n, lv] w fun _ v es _ =>
      match ofS n l with
      | some rows => ∃ sv, SV sv ∧ v = .tuple #[.agg #[.int .i64 n, sv], .int .i64 0] ∧ es = [ownW sv rows]
      | none => v = .tuple #[.agg #[.int .i64 0, .slice none 0 0], .int .i64 10] ∧ es = [] := by
  have hle := h.le
  refine enter_mk Tryz.func63 Tryz.ntmps63 rfl rfl ?_
  refine gO_ ?_
  refine wl_fx (fx_alloc (next := ?_)); intro br
  refine gO_ ?_
  refine wc_cond rfl (fun h1 => ?_) (fun h1 => ?_)
  · refine gO_ ?_
    refine wl_fx (fx_store_box (i := 0) (hi := rfl) (next := ?_))
    refine gO_ ?_
    refine mk_ret Tryz.results63 (.cellN inferInstance rfl (.head _) rfl (.tmp rfl .nil)) (.head _) [] [] rfl (by decide) fun w' hw => ?_
    simp only [Bool.or_eq_true, dc_true] at h1
    have : ofS n l = none := by unfold ofS; rw [if_neg (by omega)]
    rw [this]; exact ⟨rfl, rfl⟩
  · simp only [Bool.or_eq_false_iff, dc_false] at h1
    obtain ⟨m, rfl⟩ : ∃ m : Nat, n = m := ⟨n.toNat, by omega⟩
    refine gO_ ?_
    refine wl_fx (fx_make (next := ?_)); intro sv hv
    refine gO_ ?_
    refine wl_fx (fx_alloc (next := ?_)); intro b
    refine gO_ ?_
    refine wl_fx (fx_store_box (i := 0) (hi := rfl) (next := ?_))
    refine gO_ ?_
    refine wc_loop (fun s : Nat × List W => s.1 ≤ l.length ∧ s.2.length = m ∧ ofL m (List.replicate m 0#64) l = ofL m s.2 (l.drop s.1)) (fun s => [(22, true, .int .i64 s.1), (21, true, .int .i64 l.length), (20, true, lv), (6, true, .pointer (some ⟨b, 0, none⟩)), (4, true, .pointer (some ⟨br, 0, none⟩)), (0, true, .int .i64 m)])
      (fun s => Mem [(w, All)] [.box b [.int .i64 m, sv] 60, ownW sv s.2, .box br [.int .i64 0, .slice none 0 0] 60]) (fun s => l.length - s.1) (0, List.replicate m 0#64) ⟨by simp, by simp, rfl⟩ ⟨rfl, rfl, rfl, rfl, rfl, rfl, trivial⟩ (fun _ h => h) ?_
    rintro ⟨k, rows⟩ ⟨hk, hlen, hof⟩
    dsimp only at hk hlen hof ⊢
    refine gO_ ?_
    refine wc_cond_dec rfl (fun h2 => ?_) (fun h2 => ?_)
    · have hk2 : k < l.length := by omega
      have hdrop : l.drop k = l.getD k default :: l.drop (k + 1) := by
        rw [List.drop_eq_getElem_cons hk2, List.getD_eq_getElem?_getD, List.getElem?_eq_getElem hk2]; rfl
      refine gO_ ?_
      refine wl_fx (fx_alloc (next := ?_)); intro bp
      refine gO_ ?_
      refine wl_fx (fx_store_box (i := 0) (hi := rfl) (next := ?_))
      refine gO_ ?_
      refine wc_cond rfl (fun h3 => ?_) (fun h3 => ?_)
      · refine gO_ ?_
        refine wl_fx (fx_store_box (i := 3) (hi := rfl) (next := ?_))
        refine gO_ ?_
        refine mk_ret Tryz.results63 (.cellN inferInstance rfl (.tail _ (.tail _ (.tail _ (.head _)))) rfl (.tmp rfl .nil)) (.head _) [] [] rfl (by decide) fun w' hw => ?_
        simp only [Bool.or_eq_true, dc_true] at h3
        have : ofS m l = none := by
          unfold ofS; rw [if_pos (by omega), Int.toNat_natCast, hof, hdrop]
          unfold ofL; rw [if_neg (by omega)]
        rw [this]; exact ⟨rfl, rfl⟩
      · refine gO_ ?_
        simp only [Bool.or_eq_false_iff, dc_false] at h3
        obtain ⟨A, hA⟩ : ∃ A : Nat, (l.getD k default).A = A := ⟨(l.getD k default).A.toNat, by omega⟩
        obtain ⟨B, hB⟩ : ∃ B : Nat, (l.getD k default).B = B := ⟨(l.getD k default).B.toNat, by omega⟩
        rw [hA, hB]
        refine wc_draw [0, 1, 2, 3, 4, 5, 6, 7, 8, 9, 10, 11, 12] mixed ?_
        refine kG_ ?_
        refine kg_z (h := fx_store_own (k := 2) (hk := rfl) (next := ?_))
        refine gO_ ?_
        refine po_loop (k + 1, put rows A B) ⟨by simp; omega, by simp [put_length, hlen], ?_⟩ (by simp; omega) ⟨rfl, rfl, rfl, rfl, rfl, rfl, trivial⟩ (fun _ h => by have := h.tail; rw [hA, hB, Int.toNat_natCast, ofInt_toNat B (by omega)] at this; exact this)
        rw [hof, hdrop]
        conv => lhs; unfold ofL
        rw [if_pos (by omega), hA, hB]; rfl
    · refine gO_ ?_
      refine wl_fx (fx_store_box (i := 2) (hi := rfl) (next := ?_))
      refine gO_ ?_
      refine mk_ret Tryz.results63 (.cellN inferInstance rfl (.tail _ (.tail _ (.head _))) rfl (.tmp rfl .nil)) (.head _) [ownW sv rows] [1] rfl (by decide) fun w' hw => ?_
      have : ofS m l = some rows := by
        unfold ofS; rw [if_pos (by omega), Int.toNat_natCast, hof, List.drop_of_length_le (by omega)]; rfl
      rw [this]; exact ⟨sv, hv, rfl, rfl⟩
end Go.Proofs.YtifgncgiiojikaaGreatDoor
end

section
/- The walks: TrailingZeros64, each. -/
namespace Go.Proofs.YtifgncgiiojikaaGreatDoor
open Go Go.Eng Go.Rl
attribute [local irreducible] wpList Code.wp bodyPost Exit.then Exit.inBlock Calls

/-- the library's table, as it lies in a world -/
def Tab (w : World) : Prop := Sl All w encU8 1 (arrV 0 64) Lib.deBruijn64tab

theorem Tab.mono {w w' : World} (h : Tab w) (hb : RowKit.Below w.heap.size w w') : Tab w' :=
  Sl.mono h ⟨hb.os, hb.tape, hb.output, hb.size, fun k hk _ => hb.block k hk⟩ (fun _ _ h => h) (fun x _ => Enc.ne (enc := encU8) x)

set_option maxHeartbeats 400000 in
theorem tz_spec (r : W) (w : World) (hT : Tab w) : Pur Tryz.prog 96 [u64 r] w fun _ v _ => v = .int .i64 (if r = 0#64 then 64 else tz r) := by
  unfold Tab at hT
  refine enter_pur Tryz.func96 Tryz.ntmps96 rfl rfl ?_
  refine gO_ ?_
  refine wc_cond_dec rfl (fun h1 => ?_) (fun h1 => ?_)
  · refine gO_ ?_
    refine pur_ret Tryz.results96 (.tmp rfl .nil) (.head _) fun w' hw => ?_
    rw [if_pos h1]; rfl
  · obtain ⟨h2, h3⟩ := tz_table r h1
    have h4 := (tz_facts r h1).1
    refine gO_ ?_
    have h5 : Lib.deBruijn64tab.getD (((r &&& -r) * 285870213051353865#64) >>> (58#64).toNat).toNat default = tz r := h3
    rw [h5]
    refine gO_ ?_
    refine pur_ret Tryz.results96 (.tmp rfl .nil) (.head _) fun w' hw => ?_
    rw [if_neg h1]; rfl

/-- 'each': the closure, once for each bit, rising. -/
theorem each_spec (row : W) (kf : Nat) [FN Tryz.prog kf] (cap : List Value) (I : List Nat → List Ent → Prop) (e0 : List Ent) (w : World) (hw : Mem [] e0 w) (h0 : I [] e0)
    (hT : Sl (OffL e0) w encU8 1 (arrV 0 64) Lib.deBruijn64tab)
    (step : ∀ js j e w', I js e → j < 64 → row.getLsbD j = true → (∃ s, bitsOf row = (js ++ [j]) ++ s) → Mem [(w, OffL e0)] e w' → Mus Tryz.prog kf (.int .i64 (j : Nat) :: cap) e w' fun _ v e' _ => v = .tuple #[] ∧ I (js ++ [j]) e') :
    Mus Tryz.prog 81 [u64 row, .func (.func kf) #[] cap.toArray] e0 w fun _ v e' _ => v = .tuple #[] ∧ I (bitsOf row) e' := by
  refine enter_mus Tryz.func81 Tryz.ntmps81 rfl rfl hw ?_
  refine gO_ ?_
  refine wc_loop (fun s : W × List Nat × List Ent => bitsOf row = s.2.1 ++ bitsOf s.1 ∧ I s.2.1 s.2.2) (fun s => [(0, true, u64 s.1), (1, true, .func (.func kf) #[] cap.toArray)]) (fun s => Mem [(w, OffL e0)] s.2.2) (fun s => (bitsOf s.1).length) (row, [], e0) ⟨rfl, h0⟩ ⟨rfl, rfl, trivial⟩ (fun _ h => h) ?_
  rintro ⟨r, js, e⟩ ⟨hbits, hI⟩
  dsimp only at hbits hI ⊢
  refine gO_ ?_
  refine wc_cond rfl (fun h1 => ?_) (fun h1 => ?_)
  · simp only [Bool.not_eq_true', dc_false] at h1
    have hpre := bits_pre row js r hbits h1
    refine gO_ ?_
    refine wl_fx (fx_call (spec := fun w' hw => tz_spec r w' (hw.now hT (.head _))) (next := ?_))
    rintro v n w1 rfl hn
    rw [if_neg h1]
    refine gO_ ?_
    refine wl_fx (fx_call_musA (spec := fun w' hw => step js (tz r) e w' hI (tz_facts r h1).1 ?_ ⟨_, hpre⟩ hw.tailB) (next := ?_))
    · rw [← mem_bits, hpre]; simp
    · rintro v n e' w1 ⟨rfl, hI'⟩
      refine gO_ ?_
      refine po_loop (r &&& (r - 1#64), js ++ [tz r], e') ⟨hpre, hI'⟩ ?_ ⟨rfl, rfl, trivial⟩ (fun _ h => h.tailB)
      dsimp only
      rw [bits_step r h1]; simp
  · simp only [Bool.not_eq_false', dc_true] at h1
    subst h1
    refine gO_ ?_
    refine mus_endA Tryz.results81 .nil (.head _) fun w' hw => ⟨rfl, ?_⟩
    rw [hbits, bits_zero, List.append_nil]; exact hI
/-! Pairs -/
abbrev ownP (v : Value) (xs : List Pair) : Ent := .own v 83 2 encPair xs

/-- the closure of Pairs: one pair more -/
theorem pairs1_spec (i : Int) (j : Nat) (bo bi : Nat) (v : Value) (xs : List Pair) (w : World) (hl : xs.length < 4096) (hi : Bx (OffL [.box bo [v] 26, ownP v xs]) w bi [.int .i64 i])
    (hw : Mem [] [.box bo [v] 26, ownP v xs] w) :
    Mus Tryz.prog 82 [.int .i64 j, .pointer (some ⟨bo, 0, none⟩), .pointer (some ⟨bi, 0, none⟩)] [.box bo [v] 26, ownP v xs] w fun _ u es _ => u = .tuple #[] ∧ ∃ v', SV v' ∧ es = [.box bo [v'] 26, ownP v' (xs ++ [⟨i, j⟩])] := by
  refine enter_mus Tryz.func82 Tryz.ntmps82 rfl rfl hw ?_
  refine gO_ ?_
  refine wl_fx (fx_lit (next := ?_)); intro v1 hv1
  refine gO_ ?_
  refine wl_fx (fx_append_own (k := 2) (hk := rfl) (hlen := by simp; omega) (next := ?_)); intro v2 hv2
  refine gO_ ?_
  refine wl_fx (fx_store_box (i := 1) (hi := rfl) (next := ?_))
  refine gO_ ?_
  exact mus_end Tryz.results82 .nil (.head _) [_, _] [1, 2] rfl (by decide) fun w' hw => ⟨rfl, v2, hv2, rfl⟩

set_option maxHeartbeats 800000 in
theorem pairs_spec (n : Int) (sv : Value) (rows : List W) (w : World) (h : Sl All w encW 1 sv rows) (hT : Tab w) :
    Mk Tryz.prog 61 [.agg #[.int .i64 n, sv]] w fun _ v es _ =>
      if relOk n rows = true then ∃ pv, SV pv ∧ v = .tuple #[pv, .int .i64 0] ∧ es = [ownP pv (pairsL n.toNat rows)] else v = .tuple #[.slice none 0 0, .int .i64 10] ∧ es = [] := by
  refine enter_mk Tryz.func61 Tryz.ntmps61 rfl rfl ?_
  refine gO_ ?_
  refine wl_fx (fx_box (next := ?_)); intro ba
  refine gO_ ?_
  refine wl_fx (fx_call (spec := fun w' hw => check_spec n sv rows w' (hw.now h (.head _))) (next := ?_))
  rintro v n1 w1 rfl hn1
  by_cases hok : relOk n rows = true
  · simp only [if_pos hok]
    obtain ⟨m, rfl, hm64, hlen⟩ := relOk_nat hok
    refine gO_ ?_
    refine wc_cond rfl (fun h1 => by simp [dc_eq] at h1) (fun _ => ?_)
    refine gO_ ?_
    refine wl_fx (fx_alloc (next := ?_)); intro bo
    refine kp_nil 83 2 encPair ?_
    refine gO_ ?_
    refine wc_loop (fun s : Nat × Value × List Pair => s.1 ≤ m ∧ SV s.2.1 ∧ s.2.2 = pairsL s.1 rows) (fun s => [(14, true, .int .i64 s.1), (13, true, .int .i64 m), (5, true, .pointer (some ⟨bo, 0, none⟩)), (1, true, .pointer (some ⟨ba, 0, none⟩))])
      (fun s => Mem [(w, All)] [.box bo [s.2.1] 26, ownP s.2.1 s.2.2, .box ba [.int .i64 m, sv] 60]) (fun s => m - s.1) (0, .slice none 0 0, []) ⟨by simp, ⟨_, _, _, rfl⟩, rfl⟩ ⟨rfl, rfl, rfl, rfl, trivial⟩ (fun _ h => h.tailB.sel [1, 0, 2] rfl (by decide)) ?_
    rintro ⟨k, v, xs⟩ ⟨hk, hv, hxs⟩
    dsimp only at hk hv hxs ⊢
    refine gO_ ?_
    refine wc_cond_dec rfl (fun h2 => ?_) (fun h2 => ?_)
    · have hk2 : k < rows.length := by omega
      have hxl := pairsL_length k rows
      refine gO_ ?_
      refine wl_fx (fx_alloc (next := ?_)); intro bi
      refine gO_ ?_
      refine wl_fx (fx_store_box (i := 0) (hi := rfl) (next := ?_))
      refine gO_ ?_
      refine kp_pick [1, 2, 0, 3] (h := ?_)
      refine wl_fx (fx_call_mus (es := [.box bo [v] 26, ownP v xs]) (H := [.box bi [.int .i64 k] 3, .box ba [.int .i64 m, sv] 60]) (spec := fun w' hw' =>
        each_spec (rows.getD k default) 82 [.pointer (some ⟨bo, 0, none⟩), .pointer (some ⟨bi, 0, none⟩)] (fun js es => ∃ v', SV v' ∧ es = [.box bo [v'] 26, ownP v' (xs ++ pairsAt k js)]) _ w' hw'.app_l.nob ⟨v, hv, by simp [pairsAt]⟩
          (hw'.slOff hT (.head _) (fun e he => List.mem_append_left _ he)) ?_) (next := ?_))
      · rintro js j e w2 ⟨v', hv', rfl⟩ hj hb ⟨s, hs⟩ hm
        have hl := bitsOf_length (rows.getD k default)
        rw [hs] at hl
        simp only [List.length_append, List.length_singleton] at hl
        refine (pairs1_spec k j bo bi v' (xs ++ pairsAt k js) w2 (by simp only [List.length_append, pairsAt, List.length_map, hxs]; omega) (hm.bxOff (hw'.boxOff (.head _)) (.head _) (fun e he => he)) hm.nob).mono ?_
        rintro n u es w3 ⟨rfl, v2, hv2, rfl⟩
        exact ⟨rfl, v2, hv2, by simp [pairsAt]⟩
      · rintro u n es w2 ⟨rfl, v2, hv2, rfl⟩
        refine gO_ ?_
        refine po_loop (k + 1, v2, xs ++ pairsAt k (bitsOf (rows.getD k default))) ⟨by dsimp only; omega, hv2, by dsimp only; rw [pairsL_succ, hxs]⟩ (by dsimp only; omega) ⟨rfl, rfl, rfl, rfl, trivial⟩ (fun _ h => h.sel [0, 1, 3] rfl (by decide))
    · refine gO_ ?_
      refine mk_ret Tryz.results61 (.tmp rfl (.tmp rfl .nil)) (.head _) [ownP v xs] [1] rfl (by decide) fun w' hw => ?_
      rw [hxs, show k = m from by omega]
      exact ⟨v, hv, rfl, rfl⟩
  · simp only [if_neg hok]
    refine gO_ ?_
    refine wc_cond rfl (fun _ => ?_) (fun h1 => by simp [dc_eq] at h1)
    refine gO_ ?_
    refine mk_ret Tryz.results61 (.tmp rfl (.tmp rfl .nil)) (.tail _ (.head _)) [] [] rfl (by decide) fun w' hw => ?_
    exact ⟨rfl, rfl⟩
end Go.Proofs.YtifgncgiiojikaaGreatDoor
end
