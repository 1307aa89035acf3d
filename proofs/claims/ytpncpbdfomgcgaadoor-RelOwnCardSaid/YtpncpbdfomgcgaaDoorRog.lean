/- The walk of the reference's Round. -/
import Derived.Test.YtpncpbdfomgcgaaDoorRof
namespace Go.Rl
def bestR : Option (Nat × Nat) → Int | none => -1 | some (f, _) => f
end Go.Rl
namespace Go.Proofs.YtpncpbdfomgcgaaDoor
open Go Go.Eng Go.Rl
attribute [local irreducible] wpList Code.wp bodyPost Exit.then Exit.inBlock Calls

set_option maxHeartbeats 3200000 in
theorem rround_all (n : Int) (sv : Value) (rows : List W) (w : World) (h : Sl All w encW 1 sv rows) :
    Mk Tryd.prog 41 [.agg #[.int .i64 n, sv]] w (IntsΨ (roundS n rows) (roundE n rows)) := by
  unfold roundS roundE
  refine enter_mk Tryd.func41 Tryd.ntmps41 rfl rfl ?_
  repeat (first | (show KP _ (wpList _ _ _ (⟨some _, _, _, _, _, none⟩ :: _)) _ _; refine wl_a (next := ?_)) | (show KP _ (wpList _ _ _ (⟨some _, _, _, _, _, some _⟩ :: _)) _ _; refine wl_ag (next := ?_)) | refine wl_nil ?_ | refine po_then ?_ | refine wc_seq ?_ | refine wc_region ?_ | refine wc_block ?_ | refine po_block ?_ | refine wc_ret ?_ | refine po_then_ret ?_ | refine po_block_ret ?_ | refine wc_exit ?_ | refine po_then_exit ?_ | refine po_block_exit ?_ | refine po_block_pass rfl ?_ | refine wc_skip ?_)
  refine wl_fx (fx_box (next := ?_)); intro ba
  repeat (first | (show KP _ (wpList _ _ _ (⟨some _, _, _, _, _, none⟩ :: _)) _ _; refine wl_a (next := ?_)) | (show KP _ (wpList _ _ _ (⟨some _, _, _, _, _, some _⟩ :: _)) _ _; refine wl_ag (next := ?_)) | refine wl_nil ?_ | refine po_then ?_ | refine wc_seq ?_ | refine wc_region ?_ | refine wc_block ?_ | refine po_block ?_ | refine wc_ret ?_ | refine po_then_ret ?_ | refine po_block_ret ?_ | refine wc_exit ?_ | refine po_then_exit ?_ | refine po_block_exit ?_ | refine po_block_pass rfl ?_ | refine wc_skip ?_)
  refine wl_fx (fx_call (spec := fun w' hw => may_spec n sv rows w' (hw.now h (.head _))) (next := ?_))
  rintro v n1 w1 rfl hn1
  repeat (first | (show KP _ (wpList _ _ _ (⟨some _, _, _, _, _, none⟩ :: _)) _ _; refine wl_a (next := ?_)) | (show KP _ (wpList _ _ _ (⟨some _, _, _, _, _, some _⟩ :: _)) _ _; refine wl_ag (next := ?_)) | refine wl_nil ?_ | refine po_then ?_ | refine wc_seq ?_ | refine wc_region ?_ | refine wc_block ?_ | refine po_block ?_ | refine wc_ret ?_ | refine po_then_ret ?_ | refine po_block_ret ?_ | refine wc_exit ?_ | refine po_then_exit ?_ | refine po_block_exit ?_ | refine po_block_pass rfl ?_ | refine wc_skip ?_)
  refine wc_cond rfl (fun h1 => ?_) (fun h1 => ?_)
  · simp only [Bool.not_eq_true'] at h1
    rw [h1]
    repeat (first | (show KP _ (wpList _ _ _ (⟨some _, _, _, _, _, none⟩ :: _)) _ _; refine wl_a (next := ?_)) | (show KP _ (wpList _ _ _ (⟨some _, _, _, _, _, some _⟩ :: _)) _ _; refine wl_ag (next := ?_)) | refine wl_nil ?_ | refine po_then ?_ | refine wc_seq ?_ | refine wc_region ?_ | refine wc_block ?_ | refine po_block ?_ | refine wc_ret ?_ | refine po_then_ret ?_ | refine po_block_ret ?_ | refine wc_exit ?_ | refine po_then_exit ?_ | refine po_block_exit ?_ | refine po_block_pass rfl ?_ | refine wc_skip ?_)
    refine kp_nil 3 1 encI ?_
    refine mk_ret Tryd.results41 (.tmp rfl (.tmp rfl .nil)) (.tail _ (.head _)) [_] [0] rfl (by decide) fun w' hw => ?_
    exact ⟨_, sv_nil, rfl, rfl⟩
  · simp only [Bool.not_eq_false'] at h1
    simp only [if_pos h1]
    obtain ⟨m, rfl, hm64, hlen⟩ := relOk_nat h1
    rw [Int.toNat_natCast]
    let p := bt rows
    repeat (first | (show KP _ (wpList _ _ _ (⟨some _, _, _, _, _, none⟩ :: _)) _ _; refine wl_a (next := ?_)) | (show KP _ (wpList _ _ _ (⟨some _, _, _, _, _, some _⟩ :: _)) _ _; refine wl_ag (next := ?_)) | refine wl_nil ?_ | refine po_then ?_ | refine wc_seq ?_ | refine wc_region ?_ | refine wc_block ?_ | refine po_block ?_ | refine wc_ret ?_ | refine po_then_ret ?_ | refine po_block_ret ?_ | refine wc_exit ?_ | refine po_then_exit ?_ | refine po_block_exit ?_ | refine po_block_pass rfl ?_ | refine wc_skip ?_)
    refine wc_loop (fun s : Nat × Nat × Int => s.1 ≤ m ∧ s.2.1 = bestP (findR p m s.1) ∧ s.2.2 = bestR (findR p m s.1)) (fun s => [(6, true, .int .i64 s.1), (5, true, .int .i64 s.2.1), (4, true, .int .i64 s.2.2), (1, true, .pointer (some ⟨ba, 0, none⟩))])
      (fun s => Mem [(w, All)] [.box ba [.int .i64 m, sv] 27]) (fun s => m - s.1) (0, 0, -1) ⟨Nat.zero_le _, rfl, rfl⟩ ⟨rfl, rfl, rfl, rfl, trivial⟩ (fun _ h => h.last rfl) ?_
    rintro ⟨q, le, be⟩ ⟨hq, hle, hbe⟩
    dsimp only at hq hle hbe ⊢
    repeat (first | (show KP _ (wpList _ _ _ (⟨some _, _, _, _, _, none⟩ :: _)) _ _; refine wl_a (next := ?_)) | (show KP _ (wpList _ _ _ (⟨some _, _, _, _, _, some _⟩ :: _)) _ _; refine wl_ag (next := ?_)) | refine wl_nil ?_ | refine po_then ?_ | refine wc_seq ?_ | refine wc_region ?_ | refine wc_block ?_ | refine po_block ?_ | refine wc_ret ?_ | refine po_then_ret ?_ | refine po_block_ret ?_ | refine wc_exit ?_ | refine po_then_exit ?_ | refine po_block_exit ?_ | refine po_block_pass rfl ?_ | refine wc_skip ?_)
    refine wc_cond_dec rfl (fun h2 => ?_) (fun h2 => ?_)
    · have hqm : q < m := by omega
      repeat (first | (show KP _ (wpList _ _ _ (⟨some _, _, _, _, _, none⟩ :: _)) _ _; refine wl_a (next := ?_)) | (show KP _ (wpList _ _ _ (⟨some _, _, _, _, _, some _⟩ :: _)) _ _; refine wl_ag (next := ?_)) | refine wl_nil ?_ | refine po_then ?_ | refine wc_seq ?_ | refine wc_region ?_ | refine wc_block ?_ | refine po_block ?_ | refine wc_ret ?_ | refine po_then_ret ?_ | refine po_block_ret ?_ | refine wc_exit ?_ | refine po_then_exit ?_ | refine po_block_exit ?_ | refine po_block_pass rfl ?_ | refine wc_skip ?_)
      refine wl_fx (fx_call_mk (spec := fun w' hw => far_spec m q sv rows w' (hw.now h (.head _)) h1 hqm) (next := ?_))
      rintro fv n2 es w2 ⟨_, hpv, rfl, rfl⟩
      have hql : q < (tab m (dl (bt rows) m q m)).length := by rw [tab_length]; exact hqm
      have hget : (tab m (dl (bt rows) m q m)).getD q default = ((dd p m q : Nat) : Int) := tab_get _ _ _ hqm
      have hst := best_step p m q
      have hneg : be < 0 ↔ bestP (findR p m q) = 0 := by
        rw [hbe]
        cases hc : findR p m q with
        | none => simp [bestR, bestP]
        | some fl =>
          have := findR_some p m q fl.1 fl.2 hc
          simp only [bestR, bestP]; omega
      repeat (first | (show KP _ (wpList _ _ _ (⟨some _, _, _, _, _, none⟩ :: _)) _ _; refine wl_a (next := ?_)) | (show KP _ (wpList _ _ _ (⟨some _, _, _, _, _, some _⟩ :: _)) _ _; refine wl_ag (next := ?_)) | refine wl_nil ?_ | refine po_then ?_ | refine wc_seq ?_ | refine wc_region ?_ | refine wc_block ?_ | refine po_block ?_ | refine wc_ret ?_ | refine po_then_ret ?_ | refine po_block_ret ?_ | refine wc_exit ?_ | refine po_then_exit ?_ | refine po_block_exit ?_ | refine po_block_pass rfl ?_ | refine wc_skip ?_)
      rw [hget]
      refine wc_cond rfl (fun h3 => ?_) (fun h3 => ?_)
      · simp only [dc_eq, Bool.and_eq_true, Bool.or_eq_true, decide_eq_true_eq] at h3
        have hn := hst.1 (by rw [← hneg]; omega)
        repeat (first | (show KP _ (wpList _ _ _ (⟨some _, _, _, _, _, none⟩ :: _)) _ _; refine wl_a (next := ?_)) | (show KP _ (wpList _ _ _ (⟨some _, _, _, _, _, some _⟩ :: _)) _ _; refine wl_ag (next := ?_)) | refine wl_nil ?_ | refine po_then ?_ | refine wc_seq ?_ | refine wc_region ?_ | refine wc_block ?_ | refine po_block ?_ | refine wc_ret ?_ | refine po_then_ret ?_ | refine po_block_ret ?_ | refine wc_exit ?_ | refine po_then_exit ?_ | refine po_block_exit ?_ | refine po_block_pass rfl ?_ | refine wc_skip ?_)
        refine wc_draw [0, 1, 2, 3, 4, 5, 6] mixed ?_
        repeat (first | refine kg_a (next := ?_) | refine kg_ag (next := ?_) | refine kg_end (h := ?_))
        repeat (first | (show KP _ (wpList _ _ _ (⟨some _, _, _, _, _, none⟩ :: _)) _ _; refine wl_a (next := ?_)) | (show KP _ (wpList _ _ _ (⟨some _, _, _, _, _, some _⟩ :: _)) _ _; refine wl_ag (next := ?_)) | refine wl_nil ?_ | refine po_then ?_ | refine wc_seq ?_ | refine wc_region ?_ | refine wc_block ?_ | refine po_block ?_ | refine wc_ret ?_ | refine po_then_ret ?_ | refine po_block_ret ?_ | refine wc_exit ?_ | refine po_then_exit ?_ | refine po_block_exit ?_ | refine po_block_pass rfl ?_ | refine wc_skip ?_)
        rw [hget]
        exact po_loop (q + 1, dd p m q, (q : Int)) ⟨by dsimp only; omega, by dsimp only; rw [hn]; rfl, by dsimp only; rw [hn]; rfl⟩ (by dsimp only; omega) ⟨rfl, rfl, rfl, rfl, trivial⟩ (fun _ h => (h.last rfl).sel [1] rfl (by decide))
      · have hn := hst.2 (fun hc => by
          rw [← hneg] at hc
          simp only [dc_eq, Bool.and_eq_false_iff, Bool.or_eq_false_iff, decide_eq_false_iff_not] at h3
          omega)
        repeat (first | (show KP _ (wpList _ _ _ (⟨some _, _, _, _, _, none⟩ :: _)) _ _; refine wl_a (next := ?_)) | (show KP _ (wpList _ _ _ (⟨some _, _, _, _, _, some _⟩ :: _)) _ _; refine wl_ag (next := ?_)) | refine wl_nil ?_ | refine po_then ?_ | refine wc_seq ?_ | refine wc_region ?_ | refine wc_block ?_ | refine po_block ?_ | refine wc_ret ?_ | refine po_then_ret ?_ | refine po_block_ret ?_ | refine wc_exit ?_ | refine po_then_exit ?_ | refine po_block_exit ?_ | refine po_block_pass rfl ?_ | refine wc_skip ?_)
        exact po_loop (q + 1, le, be) ⟨by dsimp only; omega, by dsimp only; rw [hn, hle], by dsimp only; rw [hn, hbe]⟩ (by dsimp only; omega) ⟨rfl, rfl, rfl, rfl, trivial⟩ (fun _ h => (h.last rfl).sel [1] rfl (by decide))
    · obtain rfl : q = m := by omega
      repeat (first | (show KP _ (wpList _ _ _ (⟨some _, _, _, _, _, none⟩ :: _)) _ _; refine wl_a (next := ?_)) | (show KP _ (wpList _ _ _ (⟨some _, _, _, _, _, some _⟩ :: _)) _ _; refine wl_ag (next := ?_)) | refine wl_nil ?_ | refine po_then ?_ | refine wc_seq ?_ | refine wc_region ?_ | refine wc_block ?_ | refine po_block ?_ | refine wc_ret ?_ | refine po_then_ret ?_ | refine po_block_ret ?_ | refine wc_exit ?_ | refine po_then_exit ?_ | refine po_block_exit ?_ | refine po_block_pass rfl ?_ | refine wc_skip ?_)
      refine wc_cond_dec rfl (fun h4 => ?_) (fun h4 => ?_)
      · have hno : findR p q q = none := by
          cases hc : findR p q q with
          | none => rfl
          | some fl => rw [hc] at hbe; simp only [bestR] at hbe; omega
        repeat (first | (show KP _ (wpList _ _ _ (⟨some _, _, _, _, _, none⟩ :: _)) _ _; refine wl_a (next := ?_)) | (show KP _ (wpList _ _ _ (⟨some _, _, _, _, _, some _⟩ :: _)) _ _; refine wl_ag (next := ?_)) | refine wl_nil ?_ | refine po_then ?_ | refine wc_seq ?_ | refine wc_region ?_ | refine wc_block ?_ | refine po_block ?_ | refine wc_ret ?_ | refine po_then_ret ?_ | refine po_block_ret ?_ | refine wc_exit ?_ | refine po_then_exit ?_ | refine po_block_exit ?_ | refine po_block_pass rfl ?_ | refine wc_skip ?_)
        refine kp_nil 3 1 encI ?_
        refine mk_ret Tryd.results41 (.tmp rfl (.tmp rfl .nil)) (.head _) [_] [0] rfl (by decide) fun w' hw => ?_
        rw [if_pos hno]
        refine ⟨_, sv_nil, rfl, ?_⟩
        unfold roundL; rw [hno]; rfl
      · obtain ⟨fr, l, hR⟩ : ∃ f l, findR p q q = some (f, l) := by
          cases hc : findR p q q with
          | none => rw [hc] at hbe; exact absurd (show be < 0 by rw [hbe]; decide) h4
          | some fl => exact ⟨fl.1, fl.2, rfl⟩
        obtain ⟨hfm, hl0, hdd⟩ := findR_some p q q fr l hR
        have hlm : l ≤ q := by rw [← hdd]; exact dl_le q fr
        rw [hR] at hle hbe
        simp only [bestR, bestP] at hle hbe
        subst hle hbe
        repeat (first | (show KP _ (wpList _ _ _ (⟨some _, _, _, _, _, none⟩ :: _)) _ _; refine wl_a (next := ?_)) | (show KP _ (wpList _ _ _ (⟨some _, _, _, _, _, some _⟩ :: _)) _ _; refine wl_ag (next := ?_)) | refine wl_nil ?_ | refine po_then ?_ | refine wc_seq ?_ | refine wc_region ?_ | refine wc_block ?_ | refine po_block ?_ | refine wc_ret ?_ | refine po_then_ret ?_ | refine po_block_ret ?_ | refine wc_exit ?_ | refine po_then_exit ?_ | refine po_block_exit ?_ | refine po_block_pass rfl ?_ | refine wc_skip ?_)
        refine wl_fx (fx_call_mk (spec := fun w' hw => far_spec q fr sv rows w' (hw.now h (.head _)) h1 hfm) (next := ?_))
        rintro fv n3 es w3 ⟨_, hfv, rfl, rfl⟩
        repeat (first | (show KP _ (wpList _ _ _ (⟨some _, _, _, _, _, none⟩ :: _)) _ _; refine wl_a (next := ?_)) | (show KP _ (wpList _ _ _ (⟨some _, _, _, _, _, some _⟩ :: _)) _ _; refine wl_ag (next := ?_)) | refine wl_nil ?_ | refine po_then ?_ | refine wc_seq ?_ | refine wc_region ?_ | refine wc_block ?_ | refine po_block ?_ | refine wc_ret ?_ | refine po_then_ret ?_ | refine po_block_ret ?_ | refine wc_exit ?_ | refine po_then_exit ?_ | refine po_block_exit ?_ | refine po_block_pass rfl ?_ | refine wc_skip ?_)
        refine wl_fx (fx_lit (next := ?_))
        intro v50 hv50
        repeat (first | (show KP _ (wpList _ _ _ (⟨some _, _, _, _, _, none⟩ :: _)) _ _; refine wl_a (next := ?_)) | (show KP _ (wpList _ _ _ (⟨some _, _, _, _, _, some _⟩ :: _)) _ _; refine wl_ag (next := ?_)) | refine wl_nil ?_ | refine po_then ?_ | refine wc_seq ?_ | refine wc_region ?_ | refine wc_block ?_ | refine po_block ?_ | refine wc_ret ?_ | refine po_then_ret ?_ | refine po_block_ret ?_ | refine wc_exit ?_ | refine po_then_exit ?_ | refine po_block_exit ?_ | refine po_block_pass rfl ?_ | refine wc_skip ?_)
        refine wc_loop (fun s : Nat × Nat × Value × List Int => SV s.2.2.1 ∧ dl p q fr q s.2.1 = s.1 + 1 ∧ s.2.1 < q ∧ s.2.2.2.length + s.1 = le ∧ s.2.2.2 ++ ints (pathR p q fr s.1 s.2.1) = ints (roundL p q)) (fun s => [(11, true, .int .i64 s.1), (10, true, .int .i64 s.2.1), (9, true, s.2.2.1), (8, true, fv), (4, true, .int .i64 fr), (1, true, .pointer (some ⟨ba, 0, none⟩))])
          (fun s => Mem [(w, All)] [ownI s.2.2.1 s.2.2.2, ownI fv (tab q (dl (bt rows) q fr q)), .box ba [.int .i64 q, sv] 27]) (fun s => s.1) (le - 1, fr, v50, [(fr : Int)])
          ⟨hv50, by dsimp only; show dl p q fr q fr = _; unfold dd at hdd; omega, hfm, by simp; omega, by simp only [roundL, hR]; rfl⟩ ⟨by show _ = some (true, Value.int .i64 ((le - 1 : Nat) : Int)); rw [show ((le - 1 : Nat) : Int) = (le : Int) - 1 from by omega]; rfl, rfl, rfl, rfl, rfl, rfl, trivial⟩ (fun _ h => h.last rfl) ?_
        rintro ⟨lf, a, ov, xs⟩ ⟨hov, hda, ham, hxl, hxs⟩
        dsimp only at hov hda ham hxl hxs ⊢
        repeat (first | (show KP _ (wpList _ _ _ (⟨some _, _, _, _, _, none⟩ :: _)) _ _; refine wl_a (next := ?_)) | (show KP _ (wpList _ _ _ (⟨some _, _, _, _, _, some _⟩ :: _)) _ _; refine wl_ag (next := ?_)) | refine wl_nil ?_ | refine po_then ?_ | refine wc_seq ?_ | refine wc_region ?_ | refine wc_block ?_ | refine po_block ?_ | refine wc_ret ?_ | refine po_then_ret ?_ | refine po_block_ret ?_ | refine wc_exit ?_ | refine po_then_exit ?_ | refine po_block_exit ?_ | refine po_block_pass rfl ?_ | refine wc_skip ?_)
        refine wc_cond_dec rfl (fun h5 => ?_) (fun h5 => ?_)
        · obtain ⟨lf, rfl⟩ : ∃ z, lf = z + 1 := ⟨lf - 1, by omega⟩
          obtain ⟨nj, hnx, hfn, hnm, hpn, hdn⟩ := nxt_some p q fr a (lf + 1) (by omega) hda
          have har : a < rows.length := by omega
          repeat (first | (show KP _ (wpList _ _ _ (⟨some _, _, _, _, _, none⟩ :: _)) _ _; refine wl_a (next := ?_)) | (show KP _ (wpList _ _ _ (⟨some _, _, _, _, _, some _⟩ :: _)) _ _; refine wl_ag (next := ?_)) | refine wl_nil ?_ | refine po_then ?_ | refine wc_seq ?_ | refine wc_region ?_ | refine wc_block ?_ | refine po_block ?_ | refine wc_ret ?_ | refine po_then_ret ?_ | refine po_block_ret ?_ | refine wc_exit ?_ | refine po_then_exit ?_ | refine po_block_exit ?_ | refine po_block_pass rfl ?_ | refine wc_skip ?_)
          refine wc_loop (fun s : Nat × Int => fr < s.1 ∧ s.1 ≤ nj + 1 ∧ (∀ z, fr < z → z < s.1 → (p a z = true ∧ dl p q fr q z = lf + 1) → s.2 = (nj : Int)) ∧ (s.2 = -1 ∨ s.2 = (nj : Int)) ∧ (s.2 = -1 → s.1 ≤ nj)) (fun s => [(13, true, .int .i64 s.1), (12, true, .int .i64 s.2), (11, true, .int .i64 ((lf + 1 : Nat) : Int)), (10, true, .int .i64 a), (9, true, ov), (8, true, fv), (4, true, .int .i64 fr), (1, true, .pointer (some ⟨ba, 0, none⟩))])
            (fun s => Mem [(w, All)] [ownI ov xs, ownI fv (tab q (dl (bt rows) q fr q)), .box ba [.int .i64 q, sv] 27]) (fun s => q - s.1) (fr + 1, -1) ⟨by dsimp only; omega, by dsimp only; omega, fun z h6 h7 => by dsimp only at h7; omega, .inl rfl, fun _ => by dsimp only; omega⟩ ⟨rfl, rfl, rfl, rfl, rfl, rfl, rfl, rfl, trivial⟩ (fun _ h => h.last rfl) ?_
          rintro ⟨j, nx⟩ ⟨hfj, hjn, hall, hnx2, hnx3⟩
          dsimp only at hfj hjn hall hnx2 hnx3 ⊢
          repeat (first | (show KP _ (wpList _ _ _ (⟨some _, _, _, _, _, none⟩ :: _)) _ _; refine wl_a (next := ?_)) | (show KP _ (wpList _ _ _ (⟨some _, _, _, _, _, some _⟩ :: _)) _ _; refine wl_ag (next := ?_)) | refine wl_nil ?_ | refine po_then ?_ | refine wc_seq ?_ | refine wc_region ?_ | refine wc_block ?_ | refine po_block ?_ | refine wc_ret ?_ | refine po_then_ret ?_ | refine po_block_ret ?_ | refine wc_exit ?_ | refine po_then_exit ?_ | refine po_block_exit ?_ | refine po_block_pass rfl ?_ | refine wc_skip ?_)
          refine wc_cond rfl (fun h6 => ?_) (fun h6 => ?_)
          · simp only [dc_eq, Bool.and_eq_true, decide_eq_true_eq] at h6
            obtain rfl : nx = -1 := by omega
            have hjm : j < q := by omega
            have hjl : j < (tab q (dl (bt rows) q fr q)).length := by rw [tab_length]; exact hjm
            have hjg : (tab q (dl (bt rows) q fr q)).getD j default = ((dl p q fr q j : Nat) : Int) := tab_get _ _ _ hjm
            repeat (first | (show KP _ (wpList _ _ _ (⟨some _, _, _, _, _, none⟩ :: _)) _ _; refine wl_a (next := ?_)) | (show KP _ (wpList _ _ _ (⟨some _, _, _, _, _, some _⟩ :: _)) _ _; refine wl_ag (next := ?_)) | refine wl_nil ?_ | refine po_then ?_ | refine wc_seq ?_ | refine wc_region ?_ | refine wc_block ?_ | refine po_block ?_ | refine wc_ret ?_ | refine po_then_ret ?_ | refine po_block_ret ?_ | refine wc_exit ?_ | refine po_then_exit ?_ | refine po_block_exit ?_ | refine po_block_pass rfl ?_ | refine wc_skip ?_)
            refine wl_fx (fx_call (spec := fun w' _ => bit_spec _ j w' (by omega)) (next := ?_))
            rintro v n4 w4 rfl hn4
            repeat (first | (show KP _ (wpList _ _ _ (⟨some _, _, _, _, _, none⟩ :: _)) _ _; refine wl_a (next := ?_)) | (show KP _ (wpList _ _ _ (⟨some _, _, _, _, _, some _⟩ :: _)) _ _; refine wl_ag (next := ?_)) | refine wl_nil ?_ | refine po_then ?_ | refine wc_seq ?_ | refine wc_region ?_ | refine wc_block ?_ | refine po_block ?_ | refine wc_ret ?_ | refine po_then_ret ?_ | refine po_block_ret ?_ | refine wc_exit ?_ | refine po_then_exit ?_ | refine po_block_exit ?_ | refine po_block_pass rfl ?_ | refine wc_skip ?_)
            refine wc_cond rfl (fun h7 => ?_) (fun h7 => ?_)
            · rw [hjg] at h7
              simp only [dc_eq, Bool.and_eq_true, decide_eq_true_eq] at h7
              have hd : dl p q fr q j = lf + 1 := by omega
              have hx := nxt_first p q fr a (lf + 1) j hfj hjm h7.1 hd (fun z h8 h9 h10 => by have := hall z h8 h9 h10; omega)
              obtain rfl : j = nj := by rw [hx] at hnx; exact Option.some.inj hnx
              repeat (first | (show KP _ (wpList _ _ _ (⟨some _, _, _, _, _, none⟩ :: _)) _ _; refine wl_a (next := ?_)) | (show KP _ (wpList _ _ _ (⟨some _, _, _, _, _, some _⟩ :: _)) _ _; refine wl_ag (next := ?_)) | refine wl_nil ?_ | refine po_then ?_ | refine wc_seq ?_ | refine wc_region ?_ | refine wc_block ?_ | refine po_block ?_ | refine wc_ret ?_ | refine po_then_ret ?_ | refine po_block_ret ?_ | refine wc_exit ?_ | refine po_then_exit ?_ | refine po_block_exit ?_ | refine po_block_pass rfl ?_ | refine wc_skip ?_)
              exact po_loop (j + 1, (j : Int)) ⟨by dsimp only; omega, by dsimp only; omega, fun z _ _ _ => rfl, .inr rfl, fun h8 => by dsimp only at h8; omega⟩ (by dsimp only; omega) ⟨rfl, rfl, rfl, rfl, rfl, rfl, rfl, rfl, trivial⟩ (fun _ h => h.last rfl)
            · rw [hjg] at h7
              simp only [dc_eq, Bool.and_eq_false_iff, decide_eq_false_iff_not] at h7
              have hno : ¬ (p a j = true ∧ dl p q fr q j = lf + 1) := by
                rintro ⟨h8, h9⟩
                rcases h7 with h7 | h7
                · have h8' : (rows.getD a default).getLsbD j = true := h8
                  rw [h7] at h8'; cases h8'
                · omega
              have hjj : j ≠ nj := fun e => hno (by subst e; exact ⟨hpn, hdn⟩)
              have := hnx3 rfl
              repeat (first | (show KP _ (wpList _ _ _ (⟨some _, _, _, _, _, none⟩ :: _)) _ _; refine wl_a (next := ?_)) | (show KP _ (wpList _ _ _ (⟨some _, _, _, _, _, some _⟩ :: _)) _ _; refine wl_ag (next := ?_)) | refine wl_nil ?_ | refine po_then ?_ | refine wc_seq ?_ | refine wc_region ?_ | refine wc_block ?_ | refine po_block ?_ | refine wc_ret ?_ | refine po_then_ret ?_ | refine po_block_ret ?_ | refine wc_exit ?_ | refine po_then_exit ?_ | refine po_block_exit ?_ | refine po_block_pass rfl ?_ | refine wc_skip ?_)
              refine po_loop (j + 1, (-1 : Int)) ⟨by dsimp only; omega, by dsimp only; omega, fun z h8 h9 h10 => ?_, .inl rfl, fun _ => by dsimp only; omega⟩ (by dsimp only; omega) ⟨rfl, rfl, rfl, rfl, rfl, rfl, rfl, rfl, trivial⟩ (fun _ h => h.last rfl)
              dsimp only at h9
              by_cases hzj : z = j
              · subst hzj; exact absurd h10 hno
              · exact hall z h8 (by omega) h10
          · have hx : nx = (nj : Int) := by
              rcases hnx2 with h7 | h7
              · have := hnx3 h7
                simp only [dc_eq, Bool.and_eq_false_iff, decide_eq_false_iff_not] at h6
                omega
              · exact h7
            subst hx
            repeat (first | (show KP _ (wpList _ _ _ (⟨some _, _, _, _, _, none⟩ :: _)) _ _; refine wl_a (next := ?_)) | (show KP _ (wpList _ _ _ (⟨some _, _, _, _, _, some _⟩ :: _)) _ _; refine wl_ag (next := ?_)) | refine wl_nil ?_ | refine po_then ?_ | refine wc_seq ?_ | refine wc_region ?_ | refine wc_block ?_ | refine po_block ?_ | refine wc_ret ?_ | refine po_then_ret ?_ | refine po_block_ret ?_ | refine wc_exit ?_ | refine po_then_exit ?_ | refine po_block_exit ?_ | refine po_block_pass rfl ?_ | refine wc_skip ?_)
            refine wl_fx (fx_lit (next := ?_))
            intro v87 hv87
            repeat (first | (show KP _ (wpList _ _ _ (⟨some _, _, _, _, _, none⟩ :: _)) _ _; refine wl_a (next := ?_)) | (show KP _ (wpList _ _ _ (⟨some _, _, _, _, _, some _⟩ :: _)) _ _; refine wl_ag (next := ?_)) | refine wl_nil ?_ | refine po_then ?_ | refine wc_seq ?_ | refine wc_region ?_ | refine wc_block ?_ | refine po_block ?_ | refine wc_ret ?_ | refine po_then_ret ?_ | refine po_block_ret ?_ | refine wc_exit ?_ | refine po_then_exit ?_ | refine po_block_exit ?_ | refine po_block_pass rfl ?_ | refine wc_skip ?_)
            refine wl_fx (fx_append_own (k := 1) (hk := rfl) (hlen := by simp; omega) (next := ?_))
            intro v88 hv88
            repeat (first | (show KP _ (wpList _ _ _ (⟨some _, _, _, _, _, none⟩ :: _)) _ _; refine wl_a (next := ?_)) | (show KP _ (wpList _ _ _ (⟨some _, _, _, _, _, some _⟩ :: _)) _ _; refine wl_ag (next := ?_)) | refine wl_nil ?_ | refine po_then ?_ | refine wc_seq ?_ | refine wc_region ?_ | refine wc_block ?_ | refine po_block ?_ | refine wc_ret ?_ | refine po_then_ret ?_ | refine po_block_ret ?_ | refine wc_exit ?_ | refine po_then_exit ?_ | refine po_block_exit ?_ | refine po_block_pass rfl ?_ | refine wc_skip ?_)
            refine po_loop (lf, nj, v88, xs ++ [(nj : Int)]) ⟨hv88, hdn, hnm, by simp; omega, ?_⟩ (by dsimp only; omega) ⟨by show _ = some (true, Value.int .i64 (lf : Int)); rw [show (lf : Int) = ((lf + 1 : Nat) : Int) - 1 from by omega]; rfl, rfl, rfl, rfl, rfl, rfl, trivial⟩ (fun _ h => (h.last rfl).sel [1, 2, 3] rfl (by decide))
            rw [← hxs]
            simp only [pathR, hnx, ints, Option.getD_some, List.map_cons, List.append_assoc, List.singleton_append]
        · repeat (first | (show KP _ (wpList _ _ _ (⟨some _, _, _, _, _, none⟩ :: _)) _ _; refine wl_a (next := ?_)) | (show KP _ (wpList _ _ _ (⟨some _, _, _, _, _, some _⟩ :: _)) _ _; refine wl_ag (next := ?_)) | refine wl_nil ?_ | refine po_then ?_ | refine wc_seq ?_ | refine wc_region ?_ | refine wc_block ?_ | refine po_block ?_ | refine wc_ret ?_ | refine po_then_ret ?_ | refine po_block_ret ?_ | refine wc_exit ?_ | refine po_then_exit ?_ | refine po_block_exit ?_ | refine po_block_pass rfl ?_ | refine wc_skip ?_)
          refine mk_ret Tryd.results41 (.tmp rfl (.tmp rfl .nil)) (.head _) [ownI ov xs] [0] rfl (by decide) fun w' hw => ?_
          rw [if_neg (by rw [hR]; simp)]
          obtain rfl : lf = 0 := by omega
          refine ⟨ov, hov, rfl, ?_⟩
          rw [← hxs]; simp [pathR, ints]
end Go.Proofs.YtpncpbdfomgcgaaDoor
