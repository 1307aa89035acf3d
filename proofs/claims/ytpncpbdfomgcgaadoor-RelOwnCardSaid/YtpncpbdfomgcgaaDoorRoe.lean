/- The walk of the reference's far. -/
import Derived.Test.YtpncpbdfomgcgaaDoorRod
namespace Go.Proofs.YtpncpbdfomgcgaaDoor
open Go Go.Eng Go.Rl
attribute [local irreducible] wpList Code.wp bodyPost Exit.then Exit.inBlock Calls

/-- within a thing's search -/
def lw (p : Nat → Nat → Bool) (m s k q : Nat) (b : Bool) (x : Nat) : Nat := if x = q then (if b = true then k + 1 else 0) else lv p m s k q x

set_option maxHeartbeats 1600000 in
theorem far_spec (m s : Nat) (sv : Value) (rows : List W) (w : World) (h : Sl All w encW 1 sv rows) (ok : relOk m rows = true) (hs : s < m) :
    Mk Tryd.prog 65 [.agg #[.int .i64 m, sv], .int .i64 s] w fun _ v es _ => ∃ pv, SV pv ∧ v = pv ∧ es = [ownI pv (tab m (dl (bt rows) m s m))] := by
  obtain ⟨m', hm', h64, hlen⟩ := relOk_nat ok
  obtain rfl : m = m' := by omega
  refine enter_mk Tryd.func65 Tryd.ntmps65 rfl rfl ?_
  repeat (first | (show KP _ (wpList _ _ _ (⟨some _, _, _, _, _, none⟩ :: _)) _ _; refine wl_a (next := ?_)) | (show KP _ (wpList _ _ _ (⟨some _, _, _, _, _, some _⟩ :: _)) _ _; refine wl_ag (next := ?_)) | refine wl_nil ?_ | refine po_then ?_ | refine wc_seq ?_ | refine wc_region ?_ | refine wc_block ?_ | refine po_block ?_ | refine wc_ret ?_ | refine po_then_ret ?_ | refine po_block_ret ?_ | refine wc_exit ?_ | refine po_then_exit ?_ | refine po_block_exit ?_ | refine po_block_pass rfl ?_ | refine wc_skip ?_)
  refine wl_fx (fx_box (next := ?_)); intro ba
  repeat (first | (show KP _ (wpList _ _ _ (⟨some _, _, _, _, _, none⟩ :: _)) _ _; refine wl_a (next := ?_)) | (show KP _ (wpList _ _ _ (⟨some _, _, _, _, _, some _⟩ :: _)) _ _; refine wl_ag (next := ?_)) | refine wl_nil ?_ | refine po_then ?_ | refine wc_seq ?_ | refine wc_region ?_ | refine wc_block ?_ | refine po_block ?_ | refine wc_ret ?_ | refine po_then_ret ?_ | refine po_block_ret ?_ | refine wc_exit ?_ | refine po_then_exit ?_ | refine po_block_exit ?_ | refine po_block_pass rfl ?_ | refine wc_skip ?_)
  refine wl_fx (fx_make (next := ?_))
  intro ov hov
  repeat (first | (show KP _ (wpList _ _ _ (⟨some _, _, _, _, _, none⟩ :: _)) _ _; refine wl_a (next := ?_)) | (show KP _ (wpList _ _ _ (⟨some _, _, _, _, _, some _⟩ :: _)) _ _; refine wl_ag (next := ?_)) | refine wl_nil ?_ | refine po_then ?_ | refine wc_seq ?_ | refine wc_region ?_ | refine wc_block ?_ | refine po_block ?_ | refine wc_ret ?_ | refine po_then_ret ?_ | refine po_block_ret ?_ | refine wc_exit ?_ | refine po_then_exit ?_ | refine po_block_exit ?_ | refine po_block_pass rfl ?_ | refine wc_skip ?_)
  refine wc_loop (fun t : Nat => t ≤ m) (fun t => [(6, true, .int .i64 ((t : Int) + 1)), (5, true, ov), (2, true, .pointer (some ⟨ba, 0, none⟩)), (1, true, .int .i64 s)])
    (fun t => Mem [(w, All)] [ownI ov (tab m (dl (bt rows) m s t)), .box ba [.int .i64 m, sv] 27]) (fun t => m - t) 0 (Nat.zero_le _) ⟨rfl, rfl, rfl, rfl, trivial⟩ (fun _ h => by rw [← tab_zero]; exact h.last rfl) ?_
  rintro k hk
  repeat (first | (show KP _ (wpList _ _ _ (⟨some _, _, _, _, _, none⟩ :: _)) _ _; refine wl_a (next := ?_)) | (show KP _ (wpList _ _ _ (⟨some _, _, _, _, _, some _⟩ :: _)) _ _; refine wl_ag (next := ?_)) | refine wl_nil ?_ | refine po_then ?_ | refine wc_seq ?_ | refine wc_region ?_ | refine wc_block ?_ | refine po_block ?_ | refine wc_ret ?_ | refine po_then_ret ?_ | refine po_block_ret ?_ | refine wc_exit ?_ | refine po_then_exit ?_ | refine po_block_exit ?_ | refine po_block_pass rfl ?_ | refine wc_skip ?_)
  refine wc_cond_dec rfl (fun h1 => ?_) (fun h1 => ?_)
  · rw [← lv_start (p := bt rows) (m := m) (s := s) k]
    repeat (first | (show KP _ (wpList _ _ _ (⟨some _, _, _, _, _, none⟩ :: _)) _ _; refine wl_a (next := ?_)) | (show KP _ (wpList _ _ _ (⟨some _, _, _, _, _, some _⟩ :: _)) _ _; refine wl_ag (next := ?_)) | refine wl_nil ?_ | refine po_then ?_ | refine wc_seq ?_ | refine wc_region ?_ | refine wc_block ?_ | refine po_block ?_ | refine wc_ret ?_ | refine po_then_ret ?_ | refine po_block_ret ?_ | refine wc_exit ?_ | refine po_then_exit ?_ | refine po_block_exit ?_ | refine po_block_pass rfl ?_ | refine wc_skip ?_)
    refine wc_loop (fun t : Nat => s ≤ t ∧ t ≤ m) (fun t => [(7, true, .int .i64 t), (6, true, .int .i64 ((k : Int) + 1)), (5, true, ov), (2, true, .pointer (some ⟨ba, 0, none⟩)), (1, true, .int .i64 s)])
      (fun t => Mem [(w, All)] [ownI ov (tab m (lv (bt rows) m s k t)), .box ba [.int .i64 m, sv] 27]) (fun t => m - t) s ⟨Nat.le_refl _, by omega⟩ ⟨rfl, rfl, rfl, rfl, rfl, trivial⟩ (fun _ h => h.last rfl) ?_
    rintro q ⟨hsq, hq⟩
    repeat (first | (show KP _ (wpList _ _ _ (⟨some _, _, _, _, _, none⟩ :: _)) _ _; refine wl_a (next := ?_)) | (show KP _ (wpList _ _ _ (⟨some _, _, _, _, _, some _⟩ :: _)) _ _; refine wl_ag (next := ?_)) | refine wl_nil ?_ | refine po_then ?_ | refine wc_seq ?_ | refine wc_region ?_ | refine wc_block ?_ | refine po_block ?_ | refine wc_ret ?_ | refine po_then_ret ?_ | refine po_block_ret ?_ | refine wc_exit ?_ | refine po_then_exit ?_ | refine po_block_exit ?_ | refine po_block_pass rfl ?_ | refine wc_skip ?_)
    refine wc_cond_dec rfl (fun h2 => ?_) (fun h2 => ?_)
    · have hqm : q < m := by omega
      have hql : q < (tab m (lv (bt rows) m s k q)).length := by rw [tab_length]; omega
      have hqr : q < rows.length := by omega
      have hget : (tab m (lv (bt rows) m s k q)).getD q default = (dl (bt rows) m s k q : Int) := by rw [tab_get _ _ _ hqm, lv_at]
      repeat (first | (show KP _ (wpList _ _ _ (⟨some _, _, _, _, _, none⟩ :: _)) _ _; refine wl_a (next := ?_)) | (show KP _ (wpList _ _ _ (⟨some _, _, _, _, _, some _⟩ :: _)) _ _; refine wl_ag (next := ?_)) | refine wl_nil ?_ | refine po_then ?_ | refine wc_seq ?_ | refine wc_region ?_ | refine wc_block ?_ | refine po_block ?_ | refine wc_ret ?_ | refine po_then_ret ?_ | refine po_block_ret ?_ | refine wc_exit ?_ | refine po_then_exit ?_ | refine po_block_exit ?_ | refine po_block_pass rfl ?_ | refine wc_skip ?_)
      refine wc_cond_dec rfl (fun h3 => ?_) (fun h3 => ?_)
      · rw [hget] at h3
        repeat (first | (show KP _ (wpList _ _ _ (⟨some _, _, _, _, _, none⟩ :: _)) _ _; refine wl_a (next := ?_)) | (show KP _ (wpList _ _ _ (⟨some _, _, _, _, _, some _⟩ :: _)) _ _; refine wl_ag (next := ?_)) | refine wl_nil ?_ | refine po_then ?_ | refine wc_seq ?_ | refine wc_region ?_ | refine wc_block ?_ | refine po_block ?_ | refine wc_ret ?_ | refine po_then_ret ?_ | refine po_block_ret ?_ | refine wc_exit ?_ | refine po_then_exit ?_ | refine po_block_exit ?_ | refine po_block_pass rfl ?_ | refine wc_skip ?_)
        refine po_loop (q + 1) ⟨by omega, by omega⟩ (by omega) ⟨rfl, rfl, rfl, rfl, rfl, trivial⟩ (fun _ h => ?_)
        rw [lv_skip k q (dl_keep1 _ _ (by omega))]; exact h.last rfl
      · rw [hget] at h3
        have h0 : dl (bt rows) m s k q = 0 := by omega
        have hw0 : lw (bt rows) m s k q false = lv (bt rows) m s k q := funext fun x => by
          unfold lw
          by_cases hx : x = q
          · subst hx; rw [if_pos rfl, lv_at, h0]; rfl
          · rw [if_neg hx]
        repeat (first | (show KP _ (wpList _ _ _ (⟨some _, _, _, _, _, none⟩ :: _)) _ _; refine wl_a (next := ?_)) | (show KP _ (wpList _ _ _ (⟨some _, _, _, _, _, some _⟩ :: _)) _ _; refine wl_ag (next := ?_)) | refine wl_nil ?_ | refine po_then ?_ | refine wc_seq ?_ | refine wc_region ?_ | refine wc_block ?_ | refine po_block ?_ | refine wc_ret ?_ | refine po_then_ret ?_ | refine po_block_ret ?_ | refine wc_exit ?_ | refine po_then_exit ?_ | refine po_block_exit ?_ | refine po_block_pass rfl ?_ | refine wc_skip ?_)
        refine wl_gx (h := gx_call (spec := fun _ w' _ => bit_spec _ s w' (by omega))) (next := ?_)
        repeat (first | (show KP _ (wpList _ _ _ (⟨some _, _, _, _, _, none⟩ :: _)) _ _; refine wl_a (next := ?_)) | (show KP _ (wpList _ _ _ (⟨some _, _, _, _, _, some _⟩ :: _)) _ _; refine wl_ag (next := ?_)) | refine wl_nil ?_ | refine po_then ?_ | refine wc_seq ?_ | refine wc_region ?_ | refine wc_block ?_ | refine po_block ?_ | refine wc_ret ?_ | refine po_then_ret ?_ | refine po_block_ret ?_ | refine wc_exit ?_ | refine po_then_exit ?_ | refine po_block_exit ?_ | refine po_block_pass rfl ?_ | refine wc_skip ?_)
        refine wc_cutA (fun b : Bool => b = (decide (k = 0) && bt rows q s)) (fun b => [(7, true, .int .i64 q), (6, true, .int .i64 ((k : Int) + 1)), (5, true, ov), (2, true, .pointer (some ⟨ba, 0, none⟩)), (1, true, .int .i64 s)])
          (fun b => Mem [(w, All)] [ownI ov (tab m (lw (bt rows) m s k q b)), .box ba [.int .i64 m, sv] 27]) ?_ ?_
        · refine wc_cond rfl (fun h4 => ?_) (fun h4 => ?_)
          · simp only [dc_eq, Bool.and_eq_true, decide_eq_true_eq] at h4
            obtain rfl : k = 0 := by omega
            repeat (first | (show KP _ (wpList _ _ _ (⟨some _, _, _, _, _, none⟩ :: _)) _ _; refine wl_a (next := ?_)) | (show KP _ (wpList _ _ _ (⟨some _, _, _, _, _, some _⟩ :: _)) _ _; refine wl_ag (next := ?_)) | refine wl_nil ?_ | refine po_then ?_ | refine wc_seq ?_ | refine wc_region ?_ | refine wc_block ?_ | refine po_block ?_ | refine wc_ret ?_ | refine po_then_ret ?_ | refine po_block_ret ?_ | refine wc_exit ?_ | refine po_then_exit ?_ | refine po_block_exit ?_ | refine po_block_pass rfl ?_ | refine wc_skip ?_)
            refine wl_fx (fx_store_own (k := 0) (hk := rfl) (next := ?_))
            repeat (first | (show KP _ (wpList _ _ _ (⟨some _, _, _, _, _, none⟩ :: _)) _ _; refine wl_a (next := ?_)) | (show KP _ (wpList _ _ _ (⟨some _, _, _, _, _, some _⟩ :: _)) _ _; refine wl_ag (next := ?_)) | refine wl_nil ?_ | refine po_then ?_ | refine wc_seq ?_ | refine wc_region ?_ | refine wc_block ?_ | refine po_block ?_ | refine wc_ret ?_ | refine po_then_ret ?_ | refine po_block_ret ?_ | refine wc_exit ?_ | refine po_then_exit ?_ | refine po_block_exit ?_ | refine po_block_pass rfl ?_ | refine wc_skip ?_)
            refine po_cut true (by have h5 : bt rows q s = true := h4.2; rw [h5]; rfl) ⟨rfl, rfl, rfl, rfl, rfl, trivial⟩ (fun _ h => ?_)
            have e := tab_set m (lv (bt rows) m s 0 q) q 1 hqm
            unfold lw
            simp only [if_true]
            rw [← e]; exact h.last rfl
          · repeat (first | (show KP _ (wpList _ _ _ (⟨some _, _, _, _, _, none⟩ :: _)) _ _; refine wl_a (next := ?_)) | (show KP _ (wpList _ _ _ (⟨some _, _, _, _, _, some _⟩ :: _)) _ _; refine wl_ag (next := ?_)) | refine wl_nil ?_ | refine po_then ?_ | refine wc_seq ?_ | refine wc_region ?_ | refine wc_block ?_ | refine po_block ?_ | refine wc_ret ?_ | refine po_then_ret ?_ | refine po_block_ret ?_ | refine wc_exit ?_ | refine po_then_exit ?_ | refine po_block_exit ?_ | refine po_block_pass rfl ?_ | refine wc_skip ?_)
            refine po_cut false ?_ ⟨rfl, rfl, rfl, rfl, rfl, trivial⟩ (fun _ h => ?_)
            · have h5 : (decide ((k : Int) + 1 = 1) && bt rows q s) = false := by rw [← h4, dc_eq]; rfl
              rw [← h5]; congr 1; exact decide_eq_decide.2 (by omega)
            · rw [hw0]; exact h.last rfl
        rintro b hb
        repeat (first | (show KP _ (wpList _ _ _ (⟨some _, _, _, _, _, none⟩ :: _)) _ _; refine wl_a (next := ?_)) | (show KP _ (wpList _ _ _ (⟨some _, _, _, _, _, some _⟩ :: _)) _ _; refine wl_ag (next := ?_)) | refine wl_nil ?_ | refine po_then ?_ | refine wc_seq ?_ | refine wc_region ?_ | refine wc_block ?_ | refine po_block ?_ | refine wc_ret ?_ | refine po_then_ret ?_ | refine po_block_ret ?_ | refine wc_exit ?_ | refine po_then_exit ?_ | refine po_block_exit ?_ | refine po_block_pass rfl ?_ | refine wc_skip ?_)
        refine wc_loop (fun t : Nat × Bool => s + 1 ≤ t.1 ∧ t.1 ≤ m ∧ (t.2 = true ↔ (k = 0 ∧ bt rows q s = true) ∨ (k ≠ 0 ∧ ∃ j, j < t.1 ∧ s < j ∧ bt rows q j = true ∧ dl (bt rows) m s k j = k))) (fun t => [(8, true, .int .i64 t.1), (7, true, .int .i64 q), (6, true, .int .i64 ((k : Int) + 1)), (5, true, ov), (2, true, .pointer (some ⟨ba, 0, none⟩)), (1, true, .int .i64 s)])
          (fun t => Mem [(w, All)] [ownI ov (tab m (lw (bt rows) m s k q t.2)), .box ba [.int .i64 m, sv] 27]) (fun t => m - t.1) (s + 1, b) ⟨Nat.le_refl _, by dsimp only; omega, by
            dsimp only
            rw [hb, Bool.and_eq_true, decide_eq_true_eq]
            constructor
            · exact fun h5 => .inl h5
            · rintro (h5 | ⟨h5, j, h6, h7, _⟩)
              · exact h5
              · omega⟩ ⟨rfl, rfl, rfl, rfl, rfl, rfl, trivial⟩ (fun _ h => h.last rfl) ?_
        rintro ⟨j, c⟩ ⟨hsj, hj, hc⟩
        dsimp only at hsj hj hc ⊢
        have hwl : q < (tab m (lw (bt rows) m s k q c)).length := by rw [tab_length]; omega
        have hwq : (tab m (lw (bt rows) m s k q c)).getD q default = ((if c = true then k + 1 else 0 : Nat) : Int) := by rw [tab_get _ _ _ hqm]; simp [lw]
        repeat (first | (show KP _ (wpList _ _ _ (⟨some _, _, _, _, _, none⟩ :: _)) _ _; refine wl_a (next := ?_)) | (show KP _ (wpList _ _ _ (⟨some _, _, _, _, _, some _⟩ :: _)) _ _; refine wl_ag (next := ?_)) | refine wl_nil ?_ | refine po_then ?_ | refine wc_seq ?_ | refine wc_region ?_ | refine wc_block ?_ | refine po_block ?_ | refine wc_ret ?_ | refine po_then_ret ?_ | refine po_block_ret ?_ | refine wc_exit ?_ | refine po_then_exit ?_ | refine po_block_exit ?_ | refine po_block_pass rfl ?_ | refine wc_skip ?_)
        refine wc_cond rfl (fun h5 => ?_) (fun h5 => ?_)
        · rw [hwq] at h5
          simp only [dc_eq, Bool.and_eq_true, decide_eq_true_eq] at h5
          obtain ⟨⟨h5, h6⟩, h7⟩ := h5
          have hcf : c = false := by
            cases c
            · rfl
            · simp at h7; omega
          subst hcf
          have hjl : j < (tab m (lw (bt rows) m s k q false)).length := by rw [tab_length]; omega
          have hjg : (tab m (lw (bt rows) m s k q false)).getD j default = ((lv (bt rows) m s k q j : Nat) : Int) := by rw [hw0, tab_get _ _ _ (by omega)]
          repeat (first | (show KP _ (wpList _ _ _ (⟨some _, _, _, _, _, none⟩ :: _)) _ _; refine wl_a (next := ?_)) | (show KP _ (wpList _ _ _ (⟨some _, _, _, _, _, some _⟩ :: _)) _ _; refine wl_ag (next := ?_)) | refine wl_nil ?_ | refine po_then ?_ | refine wc_seq ?_ | refine wc_region ?_ | refine wc_block ?_ | refine po_block ?_ | refine wc_ret ?_ | refine po_then_ret ?_ | refine po_block_ret ?_ | refine wc_exit ?_ | refine po_then_exit ?_ | refine po_block_exit ?_ | refine po_block_pass rfl ?_ | refine wc_skip ?_)
          refine wl_fx (fx_call (spec := fun w' _ => bit_spec _ j w' (by omega)) (next := ?_))
          rintro v n2 w2 rfl hn2
          repeat (first | (show KP _ (wpList _ _ _ (⟨some _, _, _, _, _, none⟩ :: _)) _ _; refine wl_a (next := ?_)) | (show KP _ (wpList _ _ _ (⟨some _, _, _, _, _, some _⟩ :: _)) _ _; refine wl_ag (next := ?_)) | refine wl_nil ?_ | refine po_then ?_ | refine wc_seq ?_ | refine wc_region ?_ | refine wc_block ?_ | refine po_block ?_ | refine wc_ret ?_ | refine po_then_ret ?_ | refine po_block_ret ?_ | refine wc_exit ?_ | refine po_then_exit ?_ | refine po_block_exit ?_ | refine po_block_pass rfl ?_ | refine wc_skip ?_)
          refine wc_cond rfl (fun h8 => ?_) (fun h8 => ?_)
          · rw [hjg] at h8
            simp only [dc_eq, Bool.and_eq_true, decide_eq_true_eq] at h8
            have h9 := (lv_eq (p := bt rows) (m := m) (s := s) k q j (by omega)).1 (by omega)
            repeat (first | (show KP _ (wpList _ _ _ (⟨some _, _, _, _, _, none⟩ :: _)) _ _; refine wl_a (next := ?_)) | (show KP _ (wpList _ _ _ (⟨some _, _, _, _, _, some _⟩ :: _)) _ _; refine wl_ag (next := ?_)) | refine wl_nil ?_ | refine po_then ?_ | refine wc_seq ?_ | refine wc_region ?_ | refine wc_block ?_ | refine po_block ?_ | refine wc_ret ?_ | refine po_then_ret ?_ | refine po_block_ret ?_ | refine wc_exit ?_ | refine po_then_exit ?_ | refine po_block_exit ?_ | refine po_block_pass rfl ?_ | refine wc_skip ?_)
            refine wl_fx (fx_store_own (k := 0) (hk := rfl) (next := ?_))
            repeat (first | (show KP _ (wpList _ _ _ (⟨some _, _, _, _, _, none⟩ :: _)) _ _; refine wl_a (next := ?_)) | (show KP _ (wpList _ _ _ (⟨some _, _, _, _, _, some _⟩ :: _)) _ _; refine wl_ag (next := ?_)) | refine wl_nil ?_ | refine po_then ?_ | refine wc_seq ?_ | refine wc_region ?_ | refine wc_block ?_ | refine po_block ?_ | refine wc_ret ?_ | refine po_then_ret ?_ | refine po_block_ret ?_ | refine wc_exit ?_ | refine po_then_exit ?_ | refine po_block_exit ?_ | refine po_block_pass rfl ?_ | refine wc_skip ?_)
            refine po_loop (j + 1, true) ⟨by dsimp only; omega, by dsimp only; omega, ?_⟩ (by dsimp only; omega) ⟨rfl, rfl, rfl, rfl, rfl, rfl, trivial⟩ (fun _ h => ?_)
            · exact ⟨fun _ => .inr ⟨by omega, j, by dsimp only; omega, by omega, h8.1, h9⟩, fun _ => rfl⟩
            · have e := tab_set m (lw (bt rows) m s k q false) q (k + 1) hqm
              have e2 : (fun x => if x = q then k + 1 else lw (bt rows) m s k q false x) = lw (bt rows) m s k q true := funext fun x => by unfold lw; by_cases hx : x = q <;> simp [hx]
              dsimp only
              rw [← e2, ← e]; exact h.last rfl
          · rw [hjg] at h8
            repeat (first | (show KP _ (wpList _ _ _ (⟨some _, _, _, _, _, none⟩ :: _)) _ _; refine wl_a (next := ?_)) | (show KP _ (wpList _ _ _ (⟨some _, _, _, _, _, some _⟩ :: _)) _ _; refine wl_ag (next := ?_)) | refine wl_nil ?_ | refine po_then ?_ | refine wc_seq ?_ | refine wc_region ?_ | refine wc_block ?_ | refine po_block ?_ | refine wc_ret ?_ | refine po_then_ret ?_ | refine po_block_ret ?_ | refine wc_exit ?_ | refine po_then_exit ?_ | refine po_block_exit ?_ | refine po_block_pass rfl ?_ | refine wc_skip ?_)
            refine po_loop (j + 1, false) ⟨by dsimp only; omega, by dsimp only; omega, ?_⟩ (by dsimp only; omega) ⟨rfl, rfl, rfl, rfl, rfl, rfl, trivial⟩ (fun _ h => h.last rfl)
            dsimp only
            rw [hc]
            constructor
            · rintro (h9 | ⟨h9, j', h10, h11⟩)
              · exact .inl h9
              · exact .inr ⟨h9, j', by omega, h11⟩
            · rintro (h9 | ⟨h9, j', h10, h11, h12, h13⟩)
              · exact .inl h9
              · refine .inr ⟨h9, j', ?_, h11, h12, h13⟩
                by_cases hjj : j' = j
                · subst hjj
                  have h14 := (lv_eq (p := bt rows) (m := m) (s := s) k q j' h9).2 h13
                  rw [h14] at h8
                  have h15 : (rows.getD q default).getLsbD j' = true := h12
                  rw [h15] at h8
                  simp [dc_eq] at h8
                · omega
        · have hlast : lw (bt rows) m s k q c = lv (bt rows) m s k (q + 1) := by
            have hst : c = true ↔ dl (bt rows) m s (k + 1) q = k + 1 := by
              rw [hc, dl_new]
              by_cases hk0 : k = 0
              · subst hk0
                simp [stepB, hsq, hqm, dl]
              · rw [stepB_iff _ _ _ hk0]
                constructor
                · rintro (⟨h6, _⟩ | ⟨_, j', h7, h8, h9, h10⟩)
                  · exact absurd h6 hk0
                  · exact ⟨h0, hsq, hqm, j', by omega, h8, h9, h10⟩
                · rintro ⟨_, _, _, j', h7, h8, h9, h10⟩
                  by_cases hct : c = true
                  · exact hc.1 hct
                  · refine .inr ⟨hk0, j', ?_, h8, h9, h10⟩
                    rw [hwq, if_neg hct] at h5
                    simp only [dc_eq, Bool.and_eq_false_iff, decide_eq_false_iff_not] at h5
                    rcases h5 with (h5 | h5) | h5
                    · omega
                    · omega
                    · exact absurd rfl h5
            by_cases hn : dl (bt rows) m s (k + 1) q = k + 1
            · rw [lv_set k q hn, hst.2 hn]
              funext x
              unfold lw
              by_cases hx : x = q <;> simp [hx]
            · have hcf : c = false := by
                cases c
                · rfl
                · exact absurd (hst.1 rfl) hn
              rw [hcf, hw0, lv_skip k q]
              have hle := dl_le (p := bt rows) (m := m) (s := s) (k + 1) q
              by_cases h6 : dl (bt rows) m s (k + 1) q = 0
              · rw [h6, h0]
              · have h7 := dl_at (p := bt rows) (m := m) (s := s) (k + 1) q _ rfl h6
                have h8 : dl (bt rows) m s k q ≠ 0 := by
                  obtain ⟨z, hz⟩ : ∃ z, k = dl (bt rows) m s (k + 1) q + z := ⟨k - dl (bt rows) m s (k + 1) q, by omega⟩
                  have h9 := dl_keep (p := bt rows) (m := m) (s := s) _ z q (by rw [h7]; exact h6)
                  rw [← hz, h7] at h9
                  omega
                exact absurd h0 h8
          repeat (first | (show KP _ (wpList _ _ _ (⟨some _, _, _, _, _, none⟩ :: _)) _ _; refine wl_a (next := ?_)) | (show KP _ (wpList _ _ _ (⟨some _, _, _, _, _, some _⟩ :: _)) _ _; refine wl_ag (next := ?_)) | refine wl_nil ?_ | refine po_then ?_ | refine wc_seq ?_ | refine wc_region ?_ | refine wc_block ?_ | refine po_block ?_ | refine wc_ret ?_ | refine po_then_ret ?_ | refine po_block_ret ?_ | refine wc_exit ?_ | refine po_then_exit ?_ | refine po_block_exit ?_ | refine po_block_pass rfl ?_ | refine wc_skip ?_)
          rw [hlast]
          exact po_loop (q + 1) ⟨by omega, by omega⟩ (by omega) ⟨rfl, rfl, rfl, rfl, rfl, trivial⟩ (fun _ h => h.last rfl)
    · obtain rfl : q = m := by omega
      rw [lv_end k q (Nat.le_refl _)]
      repeat (first | (show KP _ (wpList _ _ _ (⟨some _, _, _, _, _, none⟩ :: _)) _ _; refine wl_a (next := ?_)) | (show KP _ (wpList _ _ _ (⟨some _, _, _, _, _, some _⟩ :: _)) _ _; refine wl_ag (next := ?_)) | refine wl_nil ?_ | refine po_then ?_ | refine wc_seq ?_ | refine wc_region ?_ | refine wc_block ?_ | refine po_block ?_ | refine wc_ret ?_ | refine po_then_ret ?_ | refine po_block_ret ?_ | refine wc_exit ?_ | refine po_then_exit ?_ | refine po_block_exit ?_ | refine po_block_pass rfl ?_ | refine wc_skip ?_)
      exact po_loop (k + 1) (by omega) (by omega) ⟨rfl, rfl, rfl, rfl, trivial⟩ (fun _ h => h.last rfl)
  · obtain rfl : k = m := by omega
    repeat (first | (show KP _ (wpList _ _ _ (⟨some _, _, _, _, _, none⟩ :: _)) _ _; refine wl_a (next := ?_)) | (show KP _ (wpList _ _ _ (⟨some _, _, _, _, _, some _⟩ :: _)) _ _; refine wl_ag (next := ?_)) | refine wl_nil ?_ | refine po_then ?_ | refine wc_seq ?_ | refine wc_region ?_ | refine wc_block ?_ | refine po_block ?_ | refine wc_ret ?_ | refine po_then_ret ?_ | refine po_block_ret ?_ | refine wc_exit ?_ | refine po_then_exit ?_ | refine po_block_exit ?_ | refine po_block_pass rfl ?_ | refine wc_skip ?_)
    exact mk_ret Tryd.results65 (.tmp rfl .nil) (.head _) [ownI ov _] [0] rfl (by decide) fun w' hw => ⟨ov, hov, rfl, rfl⟩
end Go.Proofs.YtpncpbdfomgcgaaDoor
