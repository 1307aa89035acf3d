/- The walks: away, far. -/
import Derived.Test.YtpncpbdfomgcgaaDoorRnd
import Derived.Test.YtpncpbdfomgcgaaDoorRelP
import Derived.Test.YtpncpbdfomgcgaaDoorEx
namespace Go.Rl
open Go.Eng
theorem and_ne (x y : W) : ¬ (x &&& y = 0#64) ↔ ∃ j, x.getLsbD j = true ∧ y.getLsbD j = true := by
  constructor
  · intro h
    apply Classical.byContradiction
    intro hn
    apply h
    refine BitVec.eq_of_getLsbD_eq fun j _ => ?_
    rw [BitVec.getLsbD_and, BitVec.getLsbD_zero]
    cases hx : x.getLsbD j
    · rfl
    · cases hy : y.getLsbD j
      · rfl
      · exact absurd ⟨j, hx, hy⟩ hn
  · rintro ⟨j, h1, h2⟩ h
    have := congrArg (fun z => z.getLsbD j) h
    simp [h1, h2] at this
theorem one_bit (s j : Nat) (hs : s < 64) : (1#64 <<< s).getLsbD j = decide (j = s) := by
  rw [BitVec.getLsbD_shiftLeft, BitVec.getLsbD_one]
  by_cases h : j = s
  · subst h; simp [hs]
  · simp [h]; omega
theorem zero_iff (x : W) : x = 0#64 ↔ ∀ j, x.getLsbD j = false := by
  constructor
  · rintro rfl j; exact BitVec.getLsbD_zero
  · intro h; exact BitVec.eq_of_getLsbD_eq fun j _ => by rw [h, BitVec.getLsbD_zero]
end Go.Rl
namespace Go.Proofs.YtpncpbdfomgcgaaDoor
open Go Go.Eng Go.Rl
attribute [local irreducible] wpList Code.wp bodyPost Exit.then Exit.inBlock Calls

set_option maxHeartbeats 1600000 in
theorem away_spec (m s : Nat) (sv : Value) (rows : List W) (w : World) (h : Sl All w encW 1 sv rows) (ok : relOk m rows = true) (hs : s < m) :
    Mk Tryd.prog 64 [.agg #[.int .i64 m, sv], .int .i64 s] w fun _ v es _ => ∃ pv, SV pv ∧ v = pv ∧ es = [ownI pv (tab m (dl (bt rows) m s m))] := by
  obtain ⟨m', hm', h64, hlen⟩ := relOk_nat ok
  obtain rfl : m = m' := by omega
  refine enter_mk Tryd.func64 Tryd.ntmps64 rfl rfl ?_
  repeat (first | (show KP _ (wpList _ _ _ (⟨some _, _, _, _, _, none⟩ :: _)) _ _; refine wl_a (next := ?_)) | (show KP _ (wpList _ _ _ (⟨some _, _, _, _, _, some _⟩ :: _)) _ _; refine wl_ag (next := ?_)) | refine wl_nil ?_ | refine po_then ?_ | refine wc_seq ?_ | refine wc_region ?_ | refine wc_block ?_ | refine po_block ?_ | refine wc_ret ?_ | refine po_then_ret ?_ | refine po_block_ret ?_ | refine wc_exit ?_ | refine po_then_exit ?_ | refine po_block_exit ?_ | refine po_block_pass rfl ?_ | refine wc_skip ?_)
  refine wl_fx (fx_box (next := ?_)); intro ba
  repeat (first | (show KP _ (wpList _ _ _ (⟨some _, _, _, _, _, none⟩ :: _)) _ _; refine wl_a (next := ?_)) | (show KP _ (wpList _ _ _ (⟨some _, _, _, _, _, some _⟩ :: _)) _ _; refine wl_ag (next := ?_)) | refine wl_nil ?_ | refine po_then ?_ | refine wc_seq ?_ | refine wc_region ?_ | refine wc_block ?_ | refine po_block ?_ | refine wc_ret ?_ | refine po_then_ret ?_ | refine po_block_ret ?_ | refine wc_exit ?_ | refine po_then_exit ?_ | refine po_block_exit ?_ | refine po_block_pass rfl ?_ | refine wc_skip ?_)
  refine wl_fx (fx_make (next := ?_))
  intro ov hov
  repeat (first | (show KP _ (wpList _ _ _ (⟨some _, _, _, _, _, none⟩ :: _)) _ _; refine wl_a (next := ?_)) | (show KP _ (wpList _ _ _ (⟨some _, _, _, _, _, some _⟩ :: _)) _ _; refine wl_ag (next := ?_)) | refine wl_nil ?_ | refine po_then ?_ | refine wc_seq ?_ | refine wc_region ?_ | refine wc_block ?_ | refine po_block ?_ | refine wc_ret ?_ | refine po_then_ret ?_ | refine po_block_ret ?_ | refine wc_exit ?_ | refine po_then_exit ?_ | refine po_block_exit ?_ | refine po_block_pass rfl ?_ | refine wc_skip ?_)
  rw [ofInt_toNat s (by omega)]
  refine wc_loop (fun t : Nat × W => t.1 ≤ m ∧ ∀ j, t.2.getLsbD j = true ↔ (if t.1 = 0 then j = s else dl (bt rows) m s t.1 j = t.1)) (fun t => [(7, true, .int .i64 ((t.1 : Int) + 1)), (6, true, u64 t.2), (5, true, ov), (2, true, .pointer (some ⟨ba, 0, none⟩)), (1, true, .int .i64 s)])
    (fun t => Mem [(w, All)] [ownI ov (tab m (dl (bt rows) m s t.1)), .box ba [.int .i64 m, sv] 27]) (fun t => m - t.1) (0, 1#64 <<< s) ⟨Nat.zero_le _, fun j => by rw [one_bit s j (by omega)]; simp⟩ ⟨rfl, rfl, rfl, rfl, rfl, trivial⟩ (fun _ h => by dsimp only; rw [← tab_zero]; exact h.last rfl) ?_
  rintro ⟨k, rch⟩ ⟨hk, hr⟩
  dsimp only at hk hr ⊢
  repeat (first | (show KP _ (wpList _ _ _ (⟨some _, _, _, _, _, none⟩ :: _)) _ _; refine wl_a (next := ?_)) | (show KP _ (wpList _ _ _ (⟨some _, _, _, _, _, some _⟩ :: _)) _ _; refine wl_ag (next := ?_)) | refine wl_nil ?_ | refine po_then ?_ | refine wc_seq ?_ | refine wc_region ?_ | refine wc_block ?_ | refine po_block ?_ | refine wc_ret ?_ | refine po_then_ret ?_ | refine po_block_ret ?_ | refine wc_exit ?_ | refine po_then_exit ?_ | refine po_block_exit ?_ | refine po_block_pass rfl ?_ | refine wc_skip ?_)
  refine wc_cond_dec rfl (fun h1 => ?_) (fun h1 => ?_)
  · rw [← lv_start (p := bt rows) (m := m) (s := s) k]
    repeat (first | (show KP _ (wpList _ _ _ (⟨some _, _, _, _, _, none⟩ :: _)) _ _; refine wl_a (next := ?_)) | (show KP _ (wpList _ _ _ (⟨some _, _, _, _, _, some _⟩ :: _)) _ _; refine wl_ag (next := ?_)) | refine wl_nil ?_ | refine po_then ?_ | refine wc_seq ?_ | refine wc_region ?_ | refine wc_block ?_ | refine po_block ?_ | refine wc_ret ?_ | refine po_then_ret ?_ | refine po_block_ret ?_ | refine wc_exit ?_ | refine po_then_exit ?_ | refine po_block_exit ?_ | refine po_block_pass rfl ?_ | refine wc_skip ?_)
    refine wc_loop (fun t : Nat × W => s ≤ t.1 ∧ t.1 ≤ m ∧ ∀ j, t.2.getLsbD j = true ↔ (j < t.1 ∧ dl (bt rows) m s (k + 1) j = k + 1)) (fun t => [(9, true, .int .i64 t.1), (8, true, u64 t.2), (7, true, .int .i64 ((k : Int) + 1)), (6, true, u64 rch), (5, true, ov), (2, true, .pointer (some ⟨ba, 0, none⟩)), (1, true, .int .i64 s)])
      (fun t => Mem [(w, All)] [ownI ov (tab m (lv (bt rows) m s k t.1)), .box ba [.int .i64 m, sv] 27]) (fun t => m - t.1) (s, 0#64) ⟨Nat.le_refl _, by dsimp only; omega, fun j => by
        simp only [BitVec.getLsbD_zero, Bool.false_eq_true, false_iff]
        rintro ⟨h2, h3⟩; rw [dl_new] at h3; omega⟩ ⟨rfl, rfl, rfl, rfl, rfl, rfl, rfl, trivial⟩ (fun _ h => h.last rfl) ?_
    rintro ⟨q, more⟩ ⟨hsq, hq, hm⟩
    dsimp only at hsq hq hm ⊢
    repeat (first | (show KP _ (wpList _ _ _ (⟨some _, _, _, _, _, none⟩ :: _)) _ _; refine wl_a (next := ?_)) | (show KP _ (wpList _ _ _ (⟨some _, _, _, _, _, some _⟩ :: _)) _ _; refine wl_ag (next := ?_)) | refine wl_nil ?_ | refine po_then ?_ | refine wc_seq ?_ | refine wc_region ?_ | refine wc_block ?_ | refine po_block ?_ | refine wc_ret ?_ | refine po_then_ret ?_ | refine po_block_ret ?_ | refine wc_exit ?_ | refine po_then_exit ?_ | refine po_block_exit ?_ | refine po_block_pass rfl ?_ | refine wc_skip ?_)
    refine wc_cond_dec rfl (fun h2 => ?_) (fun h2 => ?_)
    · have hqm : q < m := by omega
      have hql : q < (tab m (lv (bt rows) m s k q)).length := by rw [tab_length]; omega
      have hqr : q < rows.length := by omega
      have hget : (tab m (lv (bt rows) m s k q)).getD q default = (dl (bt rows) m s k q : Int) := by rw [tab_get _ _ _ hqm, lv_at]
      have hnew : (dl (bt rows) m s k q = 0 ∧ ¬ (rows.getD q default &&& rch = 0#64)) ↔ dl (bt rows) m s (k + 1) q = k + 1 := by
        rw [dl_new, and_ne]
        constructor
        · rintro ⟨h3, j, h4, h5⟩
          exact ⟨h3, hsq, hqm, (dl_reach k q hsq hqm h3).1 ⟨j, h4, (hr j).1 h5⟩⟩
        · rintro ⟨h3, _, _, h4⟩
          obtain ⟨j, h5, h6⟩ := (dl_reach k q hsq hqm h3).2 h4
          exact ⟨h3, j, h5, (hr j).2 h6⟩
      repeat (first | (show KP _ (wpList _ _ _ (⟨some _, _, _, _, _, none⟩ :: _)) _ _; refine wl_a (next := ?_)) | (show KP _ (wpList _ _ _ (⟨some _, _, _, _, _, some _⟩ :: _)) _ _; refine wl_ag (next := ?_)) | refine wl_nil ?_ | refine po_then ?_ | refine wc_seq ?_ | refine wc_region ?_ | refine wc_block ?_ | refine po_block ?_ | refine wc_ret ?_ | refine po_then_ret ?_ | refine po_block_ret ?_ | refine wc_exit ?_ | refine po_then_exit ?_ | refine po_block_exit ?_ | refine po_block_pass rfl ?_ | refine wc_skip ?_)
      refine wc_cond rfl (fun h3 => ?_) (fun h3 => ?_)
      · rw [hget] at h3
        simp only [dc_eq, Bool.and_eq_true, decide_eq_true_eq, Bool.not_eq_true', decide_eq_false_iff_not] at h3
        have hn := hnew.1 ⟨by omega, h3.2⟩
        repeat (first | (show KP _ (wpList _ _ _ (⟨some _, _, _, _, _, none⟩ :: _)) _ _; refine wl_a (next := ?_)) | (show KP _ (wpList _ _ _ (⟨some _, _, _, _, _, some _⟩ :: _)) _ _; refine wl_ag (next := ?_)) | refine wl_nil ?_ | refine po_then ?_ | refine wc_seq ?_ | refine wc_region ?_ | refine wc_block ?_ | refine po_block ?_ | refine wc_ret ?_ | refine po_then_ret ?_ | refine po_block_ret ?_ | refine wc_exit ?_ | refine po_then_exit ?_ | refine po_block_exit ?_ | refine po_block_pass rfl ?_ | refine wc_skip ?_)
        refine wl_fx (fx_store_own (k := 0) (hk := rfl) (next := ?_))
        repeat (first | (show KP _ (wpList _ _ _ (⟨some _, _, _, _, _, none⟩ :: _)) _ _; refine wl_a (next := ?_)) | (show KP _ (wpList _ _ _ (⟨some _, _, _, _, _, some _⟩ :: _)) _ _; refine wl_ag (next := ?_)) | refine wl_nil ?_ | refine po_then ?_ | refine wc_seq ?_ | refine wc_region ?_ | refine wc_block ?_ | refine po_block ?_ | refine wc_ret ?_ | refine po_then_ret ?_ | refine po_block_ret ?_ | refine wc_exit ?_ | refine po_then_exit ?_ | refine po_block_exit ?_ | refine po_block_pass rfl ?_ | refine wc_skip ?_)
        rw [ofInt_toNat q (by omega)]
        refine po_loop (q + 1, more ||| 1#64 <<< q) ⟨by dsimp only; omega, by dsimp only; omega, fun j => ?_⟩ (by dsimp only; omega) ⟨rfl, rfl, rfl, rfl, rfl, rfl, rfl, trivial⟩ (fun _ h => ?_)
        · dsimp only
          rw [BitVec.getLsbD_or, one_bit q j (by omega), Bool.or_eq_true, hm, decide_eq_true_eq]
          constructor
          · rintro (⟨h4, h5⟩ | rfl)
            · exact ⟨by omega, h5⟩
            · exact ⟨by omega, hn⟩
          · rintro ⟨h4, h5⟩
            by_cases hjq : j = q
            · exact .inr hjq
            · exact .inl ⟨by omega, h5⟩
        · dsimp only
          rw [lv_set k q hn]
          have e := tab_set m (lv (bt rows) m s k q) q (k + 1) hqm
          rw [← e]; exact h.last rfl
      · have hn : dl (bt rows) m s (k + 1) q = dl (bt rows) m s k q := by
          by_cases h0 : dl (bt rows) m s k q ≠ 0
          · exact dl_keep1 _ _ h0
          · have h0 : dl (bt rows) m s k q = 0 := by omega
            have : ¬ dl (bt rows) m s (k + 1) q = k + 1 := fun hc => by
              have h4 := (hnew.2 hc).2
              rw [hget, h0] at h3
              simp [dc_eq] at h3
              exact h4 h3
            rw [dl_succ, if_neg (by omega)] at this ⊢
            split at this
            · exact absurd rfl this
            · rename_i hc; rw [if_neg hc, h0]
        repeat (first | (show KP _ (wpList _ _ _ (⟨some _, _, _, _, _, none⟩ :: _)) _ _; refine wl_a (next := ?_)) | (show KP _ (wpList _ _ _ (⟨some _, _, _, _, _, some _⟩ :: _)) _ _; refine wl_ag (next := ?_)) | refine wl_nil ?_ | refine po_then ?_ | refine wc_seq ?_ | refine wc_region ?_ | refine wc_block ?_ | refine po_block ?_ | refine wc_ret ?_ | refine po_then_ret ?_ | refine po_block_ret ?_ | refine wc_exit ?_ | refine po_then_exit ?_ | refine po_block_exit ?_ | refine po_block_pass rfl ?_ | refine wc_skip ?_)
        refine po_loop (q + 1, more) ⟨by dsimp only; omega, by dsimp only; omega, fun j => ?_⟩ (by dsimp only; omega) ⟨rfl, rfl, rfl, rfl, rfl, rfl, rfl, trivial⟩ (fun _ h => ?_)
        · dsimp only
          rw [hm]
          constructor
          · rintro ⟨h4, h5⟩; exact ⟨by omega, h5⟩
          · rintro ⟨h4, h5⟩
            refine ⟨?_, h5⟩
            by_cases hjq : j = q
            · subst hjq; have := dl_le (p := bt rows) (m := m) (s := s) k j; omega
            · omega
        · dsimp only
          rw [lv_skip k q hn]; exact h.last rfl
    · obtain rfl : q = m := by omega
      rw [lv_end k q (Nat.le_refl _)]
      repeat (first | (show KP _ (wpList _ _ _ (⟨some _, _, _, _, _, none⟩ :: _)) _ _; refine wl_a (next := ?_)) | (show KP _ (wpList _ _ _ (⟨some _, _, _, _, _, some _⟩ :: _)) _ _; refine wl_ag (next := ?_)) | refine wl_nil ?_ | refine po_then ?_ | refine wc_seq ?_ | refine wc_region ?_ | refine wc_block ?_ | refine po_block ?_ | refine wc_ret ?_ | refine po_then_ret ?_ | refine po_block_ret ?_ | refine wc_exit ?_ | refine po_then_exit ?_ | refine po_block_exit ?_ | refine po_block_pass rfl ?_ | refine wc_skip ?_)
      refine wc_cond_dec rfl (fun h4 => ?_) (fun h4 => ?_)
      · repeat (first | (show KP _ (wpList _ _ _ (⟨some _, _, _, _, _, none⟩ :: _)) _ _; refine wl_a (next := ?_)) | (show KP _ (wpList _ _ _ (⟨some _, _, _, _, _, some _⟩ :: _)) _ _; refine wl_ag (next := ?_)) | refine wl_nil ?_ | refine po_then ?_ | refine wc_seq ?_ | refine wc_region ?_ | refine wc_block ?_ | refine po_block ?_ | refine wc_ret ?_ | refine po_then_ret ?_ | refine po_block_ret ?_ | refine wc_exit ?_ | refine po_then_exit ?_ | refine po_block_exit ?_ | refine po_block_pass rfl ?_ | refine wc_skip ?_)
        refine mk_ret Tryd.results64 (.tmp rfl .nil) (.head _) [ownI ov _] [0] rfl (by decide) fun w' hw => ?_
        refine ⟨ov, hov, rfl, ?_⟩
        have hstop := dl_stop (p := bt rows) (m := q) (s := s) (k + 1) (by omega) (fun i hi => by
          have h5 := dl_in (p := bt rows) (m := q) (s := s) (k + 1) i (by omega)
          have := (hm i).2 ⟨h5.2, hi⟩
          rw [h4] at this; simp at this) (q - (k + 1))
        rw [show dl (bt rows) q s q = dl (bt rows) q s (k + 1) from funext fun i => by rw [← hstop i, show k + 1 + (q - (k + 1)) = q from by omega]]
      · repeat (first | (show KP _ (wpList _ _ _ (⟨some _, _, _, _, _, none⟩ :: _)) _ _; refine wl_a (next := ?_)) | (show KP _ (wpList _ _ _ (⟨some _, _, _, _, _, some _⟩ :: _)) _ _; refine wl_ag (next := ?_)) | refine wl_nil ?_ | refine po_then ?_ | refine wc_seq ?_ | refine wc_region ?_ | refine wc_block ?_ | refine po_block ?_ | refine wc_ret ?_ | refine po_then_ret ?_ | refine po_block_ret ?_ | refine wc_exit ?_ | refine po_then_exit ?_ | refine po_block_exit ?_ | refine po_block_pass rfl ?_ | refine wc_skip ?_)
        refine po_loop (k + 1, more) ⟨by dsimp only; omega, fun j => ?_⟩ (by dsimp only; omega) ⟨rfl, rfl, rfl, rfl, rfl, trivial⟩ (fun _ h => h.last rfl)
        dsimp only
        rw [hm, if_neg (by omega)]
        exact ⟨fun h5 => h5.2, fun h5 => ⟨(dl_in (p := bt rows) (m := q) (s := s) (k + 1) j (by omega)).2, h5⟩⟩
  · obtain rfl : k = m := by omega
    repeat (first | (show KP _ (wpList _ _ _ (⟨some _, _, _, _, _, none⟩ :: _)) _ _; refine wl_a (next := ?_)) | (show KP _ (wpList _ _ _ (⟨some _, _, _, _, _, some _⟩ :: _)) _ _; refine wl_ag (next := ?_)) | refine wl_nil ?_ | refine po_then ?_ | refine wc_seq ?_ | refine wc_region ?_ | refine wc_block ?_ | refine po_block ?_ | refine wc_ret ?_ | refine po_then_ret ?_ | refine po_block_ret ?_ | refine wc_exit ?_ | refine po_then_exit ?_ | refine po_block_exit ?_ | refine po_block_pass rfl ?_ | refine wc_skip ?_)
    exact mk_ret Tryd.results64 (.tmp rfl .nil) (.head _) [ownI ov _] [0] rfl (by decide) fun w' hw => ⟨ov, hov, rfl, rfl⟩
end Go.Proofs.YtpncpbdfomgcgaaDoor
