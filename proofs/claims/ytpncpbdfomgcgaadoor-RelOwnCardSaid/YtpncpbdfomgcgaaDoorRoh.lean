/- The walks: Line of the reference; Line of the program in the common form. -/
import Derived.Test.YtpncpbdfomgcgaaDoorRog
import Derived.Test.YtpncpbdfomgcgaaDoorLin
namespace Go.Proofs.YtpncpbdfomgcgaaDoor
open Go Go.Eng Go.Rl
attribute [local irreducible] wpList Code.wp bodyPost Exit.then Exit.inBlock Calls

def lineS (n : Int) (rows : List W) : List Int := if relOk n rows = true then (if turnsL n.toNat rows = true then [] else ints (lN n.toNat (bt rows) n.toNat)) else []
def lineE (n : Int) (rows : List W) : Int := if relOk n rows = true then (if turnsL n.toNat rows = true then 12 else 0) else 10

theorem line_all (n : Int) (sv : Value) (rows : List W) (w : World) (h : Sl All w encW 1 sv rows) :
    Mk Tryd.prog 38 [.agg #[.int .i64 n, sv]] w (IntsΨ (lineS n rows) (lineE n rows)) :=
  (line_spec n sv rows w h).nilled 3 1 encI fun _ v es _ hΨ => by
    unfold IntsΨ lineS lineE
    by_cases hok : relOk n rows = true
    · simp only [if_pos hok] at hΨ ⊢
      obtain ⟨m, rfl, h64, _⟩ := relOk_nat hok
      by_cases ht : turnsL (m : Int).toNat rows = true
      · simp only [if_pos ht] at hΨ ⊢; obtain ⟨rfl, rfl⟩ := hΨ; exact .inr ⟨rfl, _, sv_nil, rfl, rfl⟩
      · simp only [if_neg ht] at hΨ ⊢
        rw [Int.toNat_natCast, lineL_lN h64] at hΨ
        exact .inl hΨ
    · simp only [if_neg hok] at hΨ ⊢; obtain ⟨rfl, rfl⟩ := hΨ; exact .inr ⟨rfl, _, sv_nil, rfl, rfl⟩

/-- which are done -/
def inL (m : Nat) (l : List Nat) : List Bool := (List.range m).map fun i => decide (i ∈ l)
theorem inL_length (m : Nat) (l : List Nat) : (inL m l).length = m := by simp [inL]
theorem inL_get (m : Nat) (l : List Nat) (i : Nat) (hi : i < m) : (inL m l).getD i default = decide (i ∈ l) := by
  unfold inL; rw [List.getD_eq_getElem?_getD, List.getElem?_map, List.getElem?_range hi]; rfl
theorem inL_set (m : Nat) (l : List Nat) (i : Nat) : (inL m l).set i true = inL m (l ++ [i]) := by
  apply List.ext_getElem (by simp [inL])
  intro j h1 h2
  rw [List.getElem_set]
  simp only [inL, List.getElem_map, List.getElem_range]
  by_cases hj : i = j
  · subst hj; simp
  · rw [if_neg hj]; simp [show ¬ j = i from fun h => hj h.symm]

set_option maxHeartbeats 3200000 in
theorem rline_all (n : Int) (sv : Value) (rows : List W) (w : World) (h : Sl All w encW 1 sv rows) :
    Mk Tryd.prog 40 [.agg #[.int .i64 n, sv]] w (IntsΨ (lineS n rows) (lineE n rows)) := by
  unfold lineS lineE
  refine enter_mk Tryd.func40 Tryd.ntmps40 rfl rfl ?_
  repeat (first | (show KP _ (wpList _ _ _ (⟨some _, _, _, _, _, none⟩ :: _)) _ _; refine wl_a (next := ?_)) | (show KP _ (wpList _ _ _ (⟨some _, _, _, _, _, some _⟩ :: _)) _ _; refine wl_ag (next := ?_)) | refine wl_nil ?_ | refine po_then ?_ | refine wc_seq ?_ | refine wc_region ?_ | refine wc_block ?_ | refine po_block ?_ | refine wc_ret ?_ | refine po_then_ret ?_ | refine po_block_ret ?_ | refine wc_exit ?_ | refine po_then_exit ?_ | refine po_block_exit ?_ | refine po_block_pass rfl ?_ | refine wc_skip ?_)
  refine wl_fx (fx_box (next := ?_)); intro ba
  repeat (first | (show KP _ (wpList _ _ _ (⟨some _, _, _, _, _, none⟩ :: _)) _ _; refine wl_a (next := ?_)) | (show KP _ (wpList _ _ _ (⟨some _, _, _, _, _, some _⟩ :: _)) _ _; refine wl_ag (next := ?_)) | refine wl_nil ?_ | refine po_then ?_ | refine wc_seq ?_ | refine wc_region ?_ | refine wc_block ?_ | refine po_block ?_ | refine wc_ret ?_ | refine po_then_ret ?_ | refine po_block_ret ?_ | refine wc_exit ?_ | refine po_then_exit ?_ | refine po_block_exit ?_ | refine po_block_pass rfl ?_ | refine wc_skip ?_)
  refine wl_fx (fx_call (spec := fun w' hw => may_spec n sv rows w' (hw.now h (.head _))) (next := ?_))
  rintro v n1 w1 rfl hn1
  repeat (first | (show KP _ (wpList _ _ _ (⟨some _, _, _, _, _, none⟩ :: _)) _ _; refine wl_a (next := ?_)) | (show KP _ (wpList _ _ _ (⟨some _, _, _, _, _, some _⟩ :: _)) _ _; refine wl_ag (next := ?_)) | refine wl_nil ?_ | refine po_then ?_ | refine wc_seq ?_ | refine wc_region ?_ | refine wc_block ?_ | refine po_block ?_ | refine wc_ret ?_ | refine po_then_ret ?_ | refine po_block_ret ?_ | refine wc_exit ?_ | refine po_then_exit ?_ | refine po_block_exit ?_ | refine po_block_pass rfl ?_ | refine wc_skip ?_)
  refine wc_cond rfl (fun h1 => ?_) (fun h1 => ?_)
  · simp only [Bool.not_eq_true'] at h1
    rw [h1]
    repeat (first | (show KP _ (wpList _ _ _ (⟨some _, _, _, _, _, none⟩ :: _)) _ _; refine wl_a (next := ?_)) | (show KP _ (wpList _ _ _ (⟨some _, _, _, _, _, some _⟩ :: _)) _ _; refine wl_ag (next := ?_)) | refine wl_nil ?_ | refine po_then ?_ | refine wc_seq ?_ | refine wc_region ?_ | refine wc_block ?_ | refine po_block ?_ | refine wc_ret ?_ | refine po_then_ret ?_ | refine po_block_ret ?_ | refine wc_exit ?_ | refine po_then_exit ?_ | refine po_block_exit ?_ | refine po_block_pass rfl ?_ | refine wc_skip ?_)
    refine kp_nil 3 1 encI ?_
    refine mk_ret Tryd.results40 (.tmp rfl (.tmp rfl .nil)) (.tail _ (.head _)) [_] [0] rfl (by decide) fun w' hw => ?_
    exact ⟨_, sv_nil, rfl, rfl⟩
  · simp only [Bool.not_eq_false'] at h1
    simp only [if_pos h1]
    obtain ⟨m, rfl, h64, hlen⟩ := relOk_nat h1
    rw [Int.toNat_natCast]
    let p := bt rows
    repeat (first | (show KP _ (wpList _ _ _ (⟨some _, _, _, _, _, none⟩ :: _)) _ _; refine wl_a (next := ?_)) | (show KP _ (wpList _ _ _ (⟨some _, _, _, _, _, some _⟩ :: _)) _ _; refine wl_ag (next := ?_)) | refine wl_nil ?_ | refine po_then ?_ | refine wc_seq ?_ | refine wc_region ?_ | refine wc_block ?_ | refine po_block ?_ | refine wc_ret ?_ | refine po_then_ret ?_ | refine po_block_ret ?_ | refine wc_exit ?_ | refine po_then_exit ?_ | refine po_block_exit ?_ | refine po_block_pass rfl ?_ | refine wc_skip ?_)
    refine wl_fx (fx_make (next := ?_))
    intro dv hdv
    repeat (first | (show KP _ (wpList _ _ _ (⟨some _, _, _, _, _, none⟩ :: _)) _ _; refine wl_a (next := ?_)) | (show KP _ (wpList _ _ _ (⟨some _, _, _, _, _, some _⟩ :: _)) _ _; refine wl_ag (next := ?_)) | refine wl_nil ?_ | refine po_then ?_ | refine wc_seq ?_ | refine wc_region ?_ | refine wc_block ?_ | refine po_block ?_ | refine wc_ret ?_ | refine po_then_ret ?_ | refine po_block_ret ?_ | refine wc_exit ?_ | refine po_then_exit ?_ | refine po_block_exit ?_ | refine po_block_pass rfl ?_ | refine wc_skip ?_)
    refine kp_nil 3 1 encI ?_
    repeat (first | (show KP _ (wpList _ _ _ (⟨some _, _, _, _, _, none⟩ :: _)) _ _; refine wl_a (next := ?_)) | (show KP _ (wpList _ _ _ (⟨some _, _, _, _, _, some _⟩ :: _)) _ _; refine wl_ag (next := ?_)) | refine wl_nil ?_ | refine po_then ?_ | refine wc_seq ?_ | refine wc_region ?_ | refine wc_block ?_ | refine po_block ?_ | refine wc_ret ?_ | refine po_then_ret ?_ | refine po_block_ret ?_ | refine wc_exit ?_ | refine po_then_exit ?_ | refine po_block_exit ?_ | refine po_block_pass rfl ?_ | refine wc_skip ?_)
    refine wc_loop (fun s : Value × List Nat => SV s.1 ∧ s.2.length ≤ m ∧ s.2 = lN m p s.2.length) (fun s => [(5, true, s.1), (4, true, dv), (1, true, .pointer (some ⟨ba, 0, none⟩))])
      (fun s => Mem [(w, All)] [ownI s.1 (ints s.2), .own dv 4 1 encB (inL m s.2), .box ba [.int .i64 m, sv] 27]) (fun s => m - s.2.length) (.slice none 0 0, []) ⟨sv_nil, Nat.zero_le _, rfl⟩ ⟨rfl, rfl, rfl, trivial⟩
      (fun _ h => by
        have e : List.replicate m false = inL m [] := by
          apply List.ext_getElem (by simp [inL])
          intro j h1 h2; simp [inL]
        dsimp only; rw [← e]; exact h.last rfl) ?_
    rintro ⟨ov, l⟩ ⟨hov, hlm, hl⟩
    dsimp only at hov hlm hl ⊢
    have hil : (ints l).length = l.length := by simp [ints]
    have hT : Topo m p l := by rw [hl]; exact lN_topo _
    repeat (first | (show KP _ (wpList _ _ _ (⟨some _, _, _, _, _, none⟩ :: _)) _ _; refine wl_a (next := ?_)) | (show KP _ (wpList _ _ _ (⟨some _, _, _, _, _, some _⟩ :: _)) _ _; refine wl_ag (next := ?_)) | refine wl_nil ?_ | refine po_then ?_ | refine wc_seq ?_ | refine wc_region ?_ | refine wc_block ?_ | refine po_block ?_ | refine wc_ret ?_ | refine po_then_ret ?_ | refine po_block_ret ?_ | refine wc_exit ?_ | refine po_then_exit ?_ | refine po_block_exit ?_ | refine po_block_pass rfl ?_ | refine wc_skip ?_)
    refine wc_cond_dec rfl (fun h2 => ?_) (fun h2 => ?_)
    · rw [hil] at h2
      have hlt : l.length < m := by omega
      repeat (first | (show KP _ (wpList _ _ _ (⟨some _, _, _, _, _, none⟩ :: _)) _ _; refine wl_a (next := ?_)) | (show KP _ (wpList _ _ _ (⟨some _, _, _, _, _, some _⟩ :: _)) _ _; refine wl_ag (next := ?_)) | refine wl_nil ?_ | refine po_then ?_ | refine wc_seq ?_ | refine wc_region ?_ | refine wc_block ?_ | refine po_block ?_ | refine wc_ret ?_ | refine po_then_ret ?_ | refine po_block_ret ?_ | refine wc_exit ?_ | refine po_then_exit ?_ | refine po_block_exit ?_ | refine po_block_pass rfl ?_ | refine wc_skip ?_)
      refine wc_loop (fun s : Nat × Int => s.1 ≤ m ∧ (s.2 = -1 → ∀ q, q < s.1 → ¬ (q ∉ l ∧ ∀ z, z < m → p z q = true → z ∈ l)) ∧ (s.2 ≠ -1 → ∃ i, s.2 = ((i : Nat) : Int) ∧ nextN m p l = some i)) (fun s => [(7, true, .int .i64 s.1), (6, true, .int .i64 s.2), (5, true, ov), (4, true, dv), (1, true, .pointer (some ⟨ba, 0, none⟩))])
        (fun s => Mem [(w, All)] [ownI ov (ints l), .own dv 4 1 encB (inL m l), .box ba [.int .i64 m, sv] 27]) (fun s => m - s.1) (0, -1) ⟨Nat.zero_le _, fun _ q hq => by dsimp only at hq; omega, fun h3 => absurd rfl h3⟩ ⟨rfl, rfl, rfl, rfl, rfl, trivial⟩ (fun _ h => h.last rfl) ?_
      rintro ⟨j, nx⟩ ⟨hj, hno, hsome⟩
      dsimp only at hj hno hsome ⊢
      repeat (first | (show KP _ (wpList _ _ _ (⟨some _, _, _, _, _, none⟩ :: _)) _ _; refine wl_a (next := ?_)) | (show KP _ (wpList _ _ _ (⟨some _, _, _, _, _, some _⟩ :: _)) _ _; refine wl_ag (next := ?_)) | refine wl_nil ?_ | refine po_then ?_ | refine wc_seq ?_ | refine wc_region ?_ | refine wc_block ?_ | refine po_block ?_ | refine wc_ret ?_ | refine po_then_ret ?_ | refine po_block_ret ?_ | refine wc_exit ?_ | refine po_then_exit ?_ | refine po_block_exit ?_ | refine po_block_pass rfl ?_ | refine wc_skip ?_)
      refine wc_cond rfl (fun h3 => ?_) (fun h3 => ?_)
      · simp only [dc_eq, Bool.and_eq_true, decide_eq_true_eq] at h3
        have hnx : nx = -1 := by
          apply Classical.byContradiction
          intro hc
          obtain ⟨i, hi, _⟩ := hsome hc
          omega
        subst hnx
        have hjm : j < m := by omega
        have hjl : j < (inL m l).length := by rw [inL_length]; exact hjm
        repeat (first | (show KP _ (wpList _ _ _ (⟨some _, _, _, _, _, none⟩ :: _)) _ _; refine wl_a (next := ?_)) | (show KP _ (wpList _ _ _ (⟨some _, _, _, _, _, some _⟩ :: _)) _ _; refine wl_ag (next := ?_)) | refine wl_nil ?_ | refine po_then ?_ | refine wc_seq ?_ | refine wc_region ?_ | refine wc_block ?_ | refine po_block ?_ | refine wc_ret ?_ | refine po_then_ret ?_ | refine po_block_ret ?_ | refine wc_exit ?_ | refine po_then_exit ?_ | refine po_block_exit ?_ | refine po_block_pass rfl ?_ | refine wc_skip ?_)
        rw [inL_get m l j hjm]
        refine wc_loop (fun s : Nat × Bool => s.1 ≤ m ∧ s.2 = (decide (j ∉ l) && (List.range s.1).all fun q => decide (q ∈ l) || !p q j)) (fun s => [(9, true, .int .i64 s.1), (8, true, .bool s.2), (7, true, .int .i64 j), (6, true, .int .i64 (-1)), (5, true, ov), (4, true, dv), (1, true, .pointer (some ⟨ba, 0, none⟩))])
          (fun s => Mem [(w, All)] [ownI ov (ints l), .own dv 4 1 encB (inL m l), .box ba [.int .i64 m, sv] 27]) (fun s => m - s.1) (0, !decide (j ∈ l)) ⟨Nat.zero_le _, by simp⟩ ⟨rfl, rfl, rfl, rfl, rfl, rfl, rfl, trivial⟩ (fun _ h => h.last rfl) ?_
        rintro ⟨i, fr⟩ ⟨hi, hfr⟩
        dsimp only at hi hfr ⊢
        repeat (first | (show KP _ (wpList _ _ _ (⟨some _, _, _, _, _, none⟩ :: _)) _ _; refine wl_a (next := ?_)) | (show KP _ (wpList _ _ _ (⟨some _, _, _, _, _, some _⟩ :: _)) _ _; refine wl_ag (next := ?_)) | refine wl_nil ?_ | refine po_then ?_ | refine wc_seq ?_ | refine wc_region ?_ | refine wc_block ?_ | refine po_block ?_ | refine wc_ret ?_ | refine po_then_ret ?_ | refine po_block_ret ?_ | refine wc_exit ?_ | refine po_then_exit ?_ | refine po_block_exit ?_ | refine po_block_pass rfl ?_ | refine wc_skip ?_)
        refine wc_cond_dec rfl (fun h4 => ?_) (fun h4 => ?_)
        · have him : i < m := by omega
          have hilx : i < (inL m l).length := by rw [inL_length]; exact him
          have hir : i < rows.length := by omega
          repeat (first | (show KP _ (wpList _ _ _ (⟨some _, _, _, _, _, none⟩ :: _)) _ _; refine wl_a (next := ?_)) | (show KP _ (wpList _ _ _ (⟨some _, _, _, _, _, some _⟩ :: _)) _ _; refine wl_ag (next := ?_)) | refine wl_nil ?_ | refine po_then ?_ | refine wc_seq ?_ | refine wc_region ?_ | refine wc_block ?_ | refine po_block ?_ | refine wc_ret ?_ | refine po_then_ret ?_ | refine po_block_ret ?_ | refine wc_exit ?_ | refine po_then_exit ?_ | refine po_block_exit ?_ | refine po_block_pass rfl ?_ | refine wc_skip ?_)
          refine wl_gx (h := gx_call (spec := fun _ w' _ => bit_spec _ j w' (by omega))) (next := ?_)
          repeat (first | (show KP _ (wpList _ _ _ (⟨some _, _, _, _, _, none⟩ :: _)) _ _; refine wl_a (next := ?_)) | (show KP _ (wpList _ _ _ (⟨some _, _, _, _, _, some _⟩ :: _)) _ _; refine wl_ag (next := ?_)) | refine wl_nil ?_ | refine po_then ?_ | refine wc_seq ?_ | refine wc_region ?_ | refine wc_block ?_ | refine po_block ?_ | refine wc_ret ?_ | refine po_then_ret ?_ | refine po_block_ret ?_ | refine wc_exit ?_ | refine po_then_exit ?_ | refine po_block_exit ?_ | refine po_block_pass rfl ?_ | refine wc_skip ?_)
          rw [inL_get m l i him]
          refine po_loop (i + 1, fr && (decide (i ∈ l) || !(rows.getD i default).getLsbD j)) ⟨by dsimp only; omega, ?_⟩ (by dsimp only; omega) ⟨rfl, rfl, rfl, rfl, rfl, rfl, rfl, trivial⟩ (fun _ h => h.last rfl)
          dsimp only
          rw [hfr, List.range_succ, List.all_append, Bool.and_assoc]
          congr 2
          simp; rfl
        · obtain rfl : i = m := by omega
          have hfr' : fr = true ↔ (j ∉ l ∧ ∀ z, z < i → p z j = true → z ∈ l) := by
            rw [hfr, Bool.and_eq_true, decide_eq_true_eq, List.all_eq_true]
            refine and_congr Iff.rfl ⟨fun h5 z hz hp => ?_, fun h5 z hz => ?_⟩
            · have := h5 z (List.mem_range.2 hz)
              rw [hp] at this; simpa using this
            · rw [Bool.or_eq_true, decide_eq_true_eq, Bool.not_eq_true']
              by_cases hp : p z j = true
              · exact .inl (h5 z (List.mem_range.1 hz) hp)
              · exact .inr (by simpa using hp)
          repeat (first | (show KP _ (wpList _ _ _ (⟨some _, _, _, _, _, none⟩ :: _)) _ _; refine wl_a (next := ?_)) | (show KP _ (wpList _ _ _ (⟨some _, _, _, _, _, some _⟩ :: _)) _ _; refine wl_ag (next := ?_)) | refine wl_nil ?_ | refine po_then ?_ | refine wc_seq ?_ | refine wc_region ?_ | refine wc_block ?_ | refine po_block ?_ | refine wc_ret ?_ | refine po_then_ret ?_ | refine po_block_ret ?_ | refine wc_exit ?_ | refine po_then_exit ?_ | refine po_block_exit ?_ | refine po_block_pass rfl ?_ | refine wc_skip ?_)
          refine wc_cond rfl (fun h5 => ?_) (fun h5 => ?_)
          · have hf := hfr'.1 h5
            have hnx : nextN i p l = some j := by
              unfold nextN
              rw [List.find?_range_eq_some]
              refine ⟨by rw [← hfr]; exact h5, by simpa using hjm, fun q hq => ?_⟩
              have := hno rfl q hq
              rw [Bool.not_eq_true', Bool.eq_false_iff]
              intro hc
              rw [Bool.and_eq_true, decide_eq_true_eq, List.all_eq_true] at hc
              refine this ⟨hc.1, fun z hz hp => ?_⟩
              have h6 := hc.2 z (List.mem_range.2 hz)
              rw [hp] at h6; simpa using h6
            repeat (first | (show KP _ (wpList _ _ _ (⟨some _, _, _, _, _, none⟩ :: _)) _ _; refine wl_a (next := ?_)) | (show KP _ (wpList _ _ _ (⟨some _, _, _, _, _, some _⟩ :: _)) _ _; refine wl_ag (next := ?_)) | refine wl_nil ?_ | refine po_then ?_ | refine wc_seq ?_ | refine wc_region ?_ | refine wc_block ?_ | refine po_block ?_ | refine wc_ret ?_ | refine po_then_ret ?_ | refine po_block_ret ?_ | refine wc_exit ?_ | refine po_then_exit ?_ | refine po_block_exit ?_ | refine po_block_pass rfl ?_ | refine wc_skip ?_)
            exact po_loop (j + 1, (j : Int)) ⟨by dsimp only; omega, fun h6 => by dsimp only at h6; omega, fun _ => ⟨j, rfl, hnx⟩⟩ (by dsimp only; omega) ⟨rfl, rfl, rfl, rfl, rfl, trivial⟩ (fun _ h => h.last rfl)
          · repeat (first | (show KP _ (wpList _ _ _ (⟨some _, _, _, _, _, none⟩ :: _)) _ _; refine wl_a (next := ?_)) | (show KP _ (wpList _ _ _ (⟨some _, _, _, _, _, some _⟩ :: _)) _ _; refine wl_ag (next := ?_)) | refine wl_nil ?_ | refine po_then ?_ | refine wc_seq ?_ | refine wc_region ?_ | refine wc_block ?_ | refine po_block ?_ | refine wc_ret ?_ | refine po_then_ret ?_ | refine po_block_ret ?_ | refine wc_exit ?_ | refine po_then_exit ?_ | refine po_block_exit ?_ | refine po_block_pass rfl ?_ | refine wc_skip ?_)
            refine po_loop (j + 1, -1) ⟨by dsimp only; omega, fun _ q hq => ?_, fun h6 => absurd rfl h6⟩ (by dsimp only; omega) ⟨rfl, rfl, rfl, rfl, rfl, trivial⟩ (fun _ h => h.last rfl)
            dsimp only at hq
            by_cases hqj : q = j
            · subst hqj; intro hc; rw [hfr'.2 hc] at h5; cases h5
            · exact hno rfl q (by omega)
      · repeat (first | (show KP _ (wpList _ _ _ (⟨some _, _, _, _, _, none⟩ :: _)) _ _; refine wl_a (next := ?_)) | (show KP _ (wpList _ _ _ (⟨some _, _, _, _, _, some _⟩ :: _)) _ _; refine wl_ag (next := ?_)) | refine wl_nil ?_ | refine po_then ?_ | refine wc_seq ?_ | refine wc_region ?_ | refine wc_block ?_ | refine po_block ?_ | refine wc_ret ?_ | refine po_then_ret ?_ | refine po_block_ret ?_ | refine wc_exit ?_ | refine po_then_exit ?_ | refine po_block_exit ?_ | refine po_block_pass rfl ?_ | refine wc_skip ?_)
        by_cases hnx : nx = -1
        · subst hnx
          have hjm : j = m := by
            simp only [dc_eq, Bool.and_eq_false_iff, decide_eq_false_iff_not] at h3
            omega
          subst hjm
          have hn0 : nextN j p l = none := by
            unfold nextN
            rw [List.find?_eq_none]
            intro q hq
            have := hno rfl q (List.mem_range.1 hq)
            intro hc
            rw [Bool.and_eq_true, decide_eq_true_eq, List.all_eq_true] at hc
            refine this ⟨hc.1, fun z hz hp => ?_⟩
            have h6 := hc.2 z (List.mem_range.2 hz)
            rw [hp] at h6; simpa using h6
          have ht := (turnsL_iff h1).2 (Go.Rl.stuck h1 hlt hn0)
          refine wc_cond rfl (fun _ => ?_) (fun h5 => by simp [dc_eq] at h5)
          repeat (first | (show KP _ (wpList _ _ _ (⟨some _, _, _, _, _, none⟩ :: _)) _ _; refine wl_a (next := ?_)) | (show KP _ (wpList _ _ _ (⟨some _, _, _, _, _, some _⟩ :: _)) _ _; refine wl_ag (next := ?_)) | refine wl_nil ?_ | refine po_then ?_ | refine wc_seq ?_ | refine wc_region ?_ | refine wc_block ?_ | refine po_block ?_ | refine wc_ret ?_ | refine po_then_ret ?_ | refine po_block_ret ?_ | refine wc_exit ?_ | refine po_then_exit ?_ | refine po_block_exit ?_ | refine po_block_pass rfl ?_ | refine wc_skip ?_)
          refine kp_nil 3 1 encI ?_
          refine mk_ret Tryd.results40 (.tmp rfl (.tmp rfl .nil)) (.head _) [_] [0] rfl (by decide) fun w' hw => ?_
          rw [ht]; exact ⟨_, sv_nil, rfl, rfl⟩
        · obtain ⟨i, rfl, hi⟩ := hsome hnx
          have him := (nextN_some hi).1
          have hilx : i < (inL m l).length := by rw [inL_length]; exact him
          refine wc_cond rfl (fun h5 => by simp only [dc_eq, decide_eq_true_eq] at h5; omega) (fun _ => ?_)
          repeat (first | (show KP _ (wpList _ _ _ (⟨some _, _, _, _, _, none⟩ :: _)) _ _; refine wl_a (next := ?_)) | (show KP _ (wpList _ _ _ (⟨some _, _, _, _, _, some _⟩ :: _)) _ _; refine wl_ag (next := ?_)) | refine wl_nil ?_ | refine po_then ?_ | refine wc_seq ?_ | refine wc_region ?_ | refine wc_block ?_ | refine po_block ?_ | refine wc_ret ?_ | refine po_then_ret ?_ | refine po_block_ret ?_ | refine wc_exit ?_ | refine po_then_exit ?_ | refine po_block_exit ?_ | refine po_block_pass rfl ?_ | refine wc_skip ?_)
          refine wl_fx (fx_store_own (k := 1) (hk := rfl) (next := ?_))
          repeat (first | (show KP _ (wpList _ _ _ (⟨some _, _, _, _, _, none⟩ :: _)) _ _; refine wl_a (next := ?_)) | (show KP _ (wpList _ _ _ (⟨some _, _, _, _, _, some _⟩ :: _)) _ _; refine wl_ag (next := ?_)) | refine wl_nil ?_ | refine po_then ?_ | refine wc_seq ?_ | refine wc_region ?_ | refine wc_block ?_ | refine po_block ?_ | refine wc_ret ?_ | refine po_then_ret ?_ | refine po_block_ret ?_ | refine wc_exit ?_ | refine po_then_exit ?_ | refine po_block_exit ?_ | refine po_block_pass rfl ?_ | refine wc_skip ?_)
          refine wl_fx (fx_lit (next := ?_))
          intro v68 hv68
          repeat (first | (show KP _ (wpList _ _ _ (⟨some _, _, _, _, _, none⟩ :: _)) _ _; refine wl_a (next := ?_)) | (show KP _ (wpList _ _ _ (⟨some _, _, _, _, _, some _⟩ :: _)) _ _; refine wl_ag (next := ?_)) | refine wl_nil ?_ | refine po_then ?_ | refine wc_seq ?_ | refine wc_region ?_ | refine wc_block ?_ | refine po_block ?_ | refine wc_ret ?_ | refine po_then_ret ?_ | refine po_block_ret ?_ | refine wc_exit ?_ | refine po_then_exit ?_ | refine po_block_exit ?_ | refine po_block_pass rfl ?_ | refine wc_skip ?_)
          refine wl_fx (fx_append_own (k := 1) (hk := rfl) (hlen := by rw [hil]; simp; omega) (next := ?_))
          intro v69 hv69
          repeat (first | (show KP _ (wpList _ _ _ (⟨some _, _, _, _, _, none⟩ :: _)) _ _; refine wl_a (next := ?_)) | (show KP _ (wpList _ _ _ (⟨some _, _, _, _, _, some _⟩ :: _)) _ _; refine wl_ag (next := ?_)) | refine wl_nil ?_ | refine po_then ?_ | refine wc_seq ?_ | refine wc_region ?_ | refine wc_block ?_ | refine po_block ?_ | refine wc_ret ?_ | refine po_then_ret ?_ | refine po_block_ret ?_ | refine wc_exit ?_ | refine po_then_exit ?_ | refine po_block_exit ?_ | refine po_block_pass rfl ?_ | refine wc_skip ?_)
          refine po_loop (v69, l ++ [i]) ⟨hv69, by simp; omega, ?_⟩ (by simp; omega) ⟨rfl, rfl, rfl, trivial⟩ (fun _ h => ?_)
          · dsimp only
            rw [List.length_append, List.length_singleton]
            show l ++ [i] = (match nextN m p (lN m p l.length) with | some i => lN m p l.length ++ [i] | none => lN m p l.length)
            rw [← hl, hi]
          · dsimp only
            rw [ints_snoc, ← inL_set]
            exact (h.last rfl).sel [1, 2, 3] rfl (by decide)
    · rw [hil] at h2
      have hle : l.length = m := by omega
      have hnt : turnsL m rows = false := by
        rw [Bool.eq_false_iff]
        intro ht
        obtain ⟨i, _, hi⟩ := (turnsL_iff h1).1 ht
        exact hT.acyc (bt_lt h1) hle i hi
      repeat (first | (show KP _ (wpList _ _ _ (⟨some _, _, _, _, _, none⟩ :: _)) _ _; refine wl_a (next := ?_)) | (show KP _ (wpList _ _ _ (⟨some _, _, _, _, _, some _⟩ :: _)) _ _; refine wl_ag (next := ?_)) | refine wl_nil ?_ | refine po_then ?_ | refine wc_seq ?_ | refine wc_region ?_ | refine wc_block ?_ | refine po_block ?_ | refine wc_ret ?_ | refine po_then_ret ?_ | refine po_block_ret ?_ | refine wc_exit ?_ | refine po_then_exit ?_ | refine po_block_exit ?_ | refine po_block_pass rfl ?_ | refine wc_skip ?_)
      refine mk_ret Tryd.results40 (.tmp rfl (.tmp rfl .nil)) (.head _) [ownI ov (ints l)] [0] rfl (by decide) fun w' hw => ?_
      rw [hnt]
      refine ⟨ov, hov, rfl, ?_⟩
      rw [hle] at hl
      rw [hl]; rfl
end Go.Proofs.YtpncpbdfomgcgaaDoor
