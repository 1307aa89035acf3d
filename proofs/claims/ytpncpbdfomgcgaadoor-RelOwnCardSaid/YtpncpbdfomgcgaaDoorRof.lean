/- The walks: Round (both). -/
import Derived.Test.YtpncpbdfomgcgaaDoorRoe
import Derived.Test.YtpncpbdfomgcgaaDoorRelI
namespace Go.Rl
open Go.Eng
def bestP : Option (Nat × Nat) → Nat | none => 0 | some (_, l) => l
def fromP : Option (Nat × Nat) → Nat | none => 0 | some (f, _) => f
theorem best_step (p : Nat → Nat → Bool) (m q : Nat) : (0 < dd p m q ∧ (bestP (findR p m q) = 0 ∨ dd p m q < bestP (findR p m q)) → findR p m (q + 1) = some (q, dd p m q)) ∧ (¬ (0 < dd p m q ∧ (bestP (findR p m q) = 0 ∨ dd p m q < bestP (findR p m q))) → findR p m (q + 1) = findR p m q) := by
  rw [findR_succ]
  unfold fstep
  by_cases h0 : dd p m q = 0
  · rw [if_pos h0]
    exact ⟨fun h => by omega, fun _ => rfl⟩
  · rw [if_neg h0]
    cases hc : findR p m q with
    | none => exact ⟨fun _ => rfl, fun h => absurd ⟨by omega, .inl rfl⟩ h⟩
    | some fl =>
      obtain ⟨f, l⟩ := fl
      have := findR_some p m q f l hc
      simp only [bestP]
      by_cases h1 : dd p m q < l
      · rw [if_pos h1]
        exact ⟨fun _ => rfl, fun h => absurd ⟨by omega, .inr h1⟩ h⟩
      · rw [if_neg h1]
        exact ⟨fun h => by omega, fun _ => rfl⟩
theorem best_zero (p : Nat → Nat → Bool) (m : Nat) : bestP (findR p m m) = 0 ↔ findR p m m = none := by
  cases hc : findR p m m with
  | none => simp [bestP]
  | some fl =>
    obtain ⟨f, l⟩ := fl
    have := findR_some p m m f l hc
    simp [bestP]; omega
theorem nxt_first (p : Nat → Nat → Bool) (m f a lf j : Nat) (hf : f < j) (hj : j < m) (hp : p a j = true) (hd : dl p m f m j = lf) (hl : ∀ q, f < q → q < j → ¬ (p a q = true ∧ dl p m f m q = lf)) : nxt p m f a lf = some j := by
  unfold nxt
  rw [List.find?_range_eq_some]
  refine ⟨by simp [hf, hp, hd], by simpa using hj, fun q hq => ?_⟩
  by_cases hfq : f < q
  · have := hl q hfq hq
    simp only [Bool.not_eq_true', Bool.and_eq_false_iff, decide_eq_false_iff_not]
    by_cases h1 : p a q = true
    · exact .inr fun h2 => this ⟨h1, h2⟩
    · exact .inl (.inr (by simpa using h1))
  · simp [hfq]
theorem pathR_length (p : Nat → Nat → Bool) (m f lf a : Nat) : (pathR p m f lf a).length = lf := by
  induction lf generalizing a with
  | zero => rfl
  | succ lf ih => simp [pathR, ih]
end Go.Rl
namespace Go.Proofs.YtpncpbdfomgcgaaDoor
open Go Go.Eng Go.Rl
attribute [local irreducible] wpList Code.wp bodyPost Exit.then Exit.inBlock Calls

def roundS (n : Int) (rows : List W) : List Int := if relOk n rows = true then ints (roundL (bt rows) n.toNat) else []
def roundE (n : Int) (rows : List W) : Int := if relOk n rows = true then (if findR (bt rows) n.toNat n.toNat = none then 4 else 0) else 10
def IntsΨ (xs : List Int) (e : Int) : Nat → Value → List Ent → World → Prop := fun _ v es _ => ∃ pv, SV pv ∧ v = .tuple #[pv, .int .i64 e] ∧ es = [ownI pv xs]

set_option maxHeartbeats 3200000 in
theorem round_all (n : Int) (sv : Value) (rows : List W) (w : World) (h : Sl All w encW 1 sv rows) :
    Mk Tryd.prog 39 [.agg #[.int .i64 n, sv]] w (IntsΨ (roundS n rows) (roundE n rows)) := by
  unfold roundS roundE
  refine enter_mk Tryd.func39 Tryd.ntmps39 rfl rfl ?_
  repeat (first | (show KP _ (wpList _ _ _ (⟨some _, _, _, _, _, none⟩ :: _)) _ _; refine wl_a (next := ?_)) | (show KP _ (wpList _ _ _ (⟨some _, _, _, _, _, some _⟩ :: _)) _ _; refine wl_ag (next := ?_)) | refine wl_nil ?_ | refine po_then ?_ | refine wc_seq ?_ | refine wc_region ?_ | refine wc_block ?_ | refine po_block ?_ | refine wc_ret ?_ | refine po_then_ret ?_ | refine po_block_ret ?_ | refine wc_exit ?_ | refine po_then_exit ?_ | refine po_block_exit ?_ | refine po_block_pass rfl ?_ | refine wc_skip ?_)
  refine wl_fx (fx_box (next := ?_)); intro ba
  repeat (first | (show KP _ (wpList _ _ _ (⟨some _, _, _, _, _, none⟩ :: _)) _ _; refine wl_a (next := ?_)) | (show KP _ (wpList _ _ _ (⟨some _, _, _, _, _, some _⟩ :: _)) _ _; refine wl_ag (next := ?_)) | refine wl_nil ?_ | refine po_then ?_ | refine wc_seq ?_ | refine wc_region ?_ | refine wc_block ?_ | refine po_block ?_ | refine wc_ret ?_ | refine po_then_ret ?_ | refine po_block_ret ?_ | refine wc_exit ?_ | refine po_then_exit ?_ | refine po_block_exit ?_ | refine po_block_pass rfl ?_ | refine wc_skip ?_)
  refine wl_fx (fx_call (spec := fun w' hw => check_spec n sv rows w' (hw.now h (.head _))) (next := ?_))
  rintro v n1 w1 rfl hn1
  by_cases hok : relOk n rows = true
  · simp only [if_pos hok]
    obtain ⟨m, rfl, hm64, hlen⟩ := relOk_nat hok
    rw [Int.toNat_natCast]
    let p := bt rows
    repeat (first | (show KP _ (wpList _ _ _ (⟨some _, _, _, _, _, none⟩ :: _)) _ _; refine wl_a (next := ?_)) | (show KP _ (wpList _ _ _ (⟨some _, _, _, _, _, some _⟩ :: _)) _ _; refine wl_ag (next := ?_)) | refine wl_nil ?_ | refine po_then ?_ | refine wc_seq ?_ | refine wc_region ?_ | refine wc_block ?_ | refine po_block ?_ | refine wc_ret ?_ | refine po_then_ret ?_ | refine po_block_ret ?_ | refine wc_exit ?_ | refine po_then_exit ?_ | refine po_block_exit ?_ | refine po_block_pass rfl ?_ | refine wc_skip ?_)
    refine wc_cond rfl (fun h1 => by simp [dc_eq] at h1) (fun _ => ?_)
    repeat (first | (show KP _ (wpList _ _ _ (⟨some _, _, _, _, _, none⟩ :: _)) _ _; refine wl_a (next := ?_)) | (show KP _ (wpList _ _ _ (⟨some _, _, _, _, _, some _⟩ :: _)) _ _; refine wl_ag (next := ?_)) | refine wl_nil ?_ | refine po_then ?_ | refine wc_seq ?_ | refine wc_region ?_ | refine wc_block ?_ | refine po_block ?_ | refine wc_ret ?_ | refine po_then_ret ?_ | refine po_block_ret ?_ | refine wc_exit ?_ | refine po_then_exit ?_ | refine po_block_exit ?_ | refine po_block_pass rfl ?_ | refine wc_skip ?_)
    refine wc_loop (fun s : Nat × Nat × Nat => s.1 ≤ m ∧ s.2.1 = fromP (findR p m s.1) ∧ s.2.2 = bestP (findR p m s.1)) (fun s => [(21, true, .int .i64 s.1), (20, true, .int .i64 m), (6, true, .int .i64 s.2.1), (5, true, .int .i64 s.2.2), (1, true, .pointer (some ⟨ba, 0, none⟩))])
      (fun s => Mem [(w, All)] [.box ba [.int .i64 m, sv] 27]) (fun s => m - s.1) (0, 0, 0) ⟨Nat.zero_le _, rfl, rfl⟩ ⟨rfl, rfl, rfl, rfl, rfl, trivial⟩ (fun _ h => h.last rfl) ?_
    rintro ⟨q, fr, be⟩ ⟨hq, hfr, hbe⟩
    dsimp only at hq hfr hbe ⊢
    repeat (first | (show KP _ (wpList _ _ _ (⟨some _, _, _, _, _, none⟩ :: _)) _ _; refine wl_a (next := ?_)) | (show KP _ (wpList _ _ _ (⟨some _, _, _, _, _, some _⟩ :: _)) _ _; refine wl_ag (next := ?_)) | refine wl_nil ?_ | refine po_then ?_ | refine wc_seq ?_ | refine wc_region ?_ | refine wc_block ?_ | refine po_block ?_ | refine wc_ret ?_ | refine po_then_ret ?_ | refine po_block_ret ?_ | refine wc_exit ?_ | refine po_then_exit ?_ | refine po_block_exit ?_ | refine po_block_pass rfl ?_ | refine wc_skip ?_)
    refine wc_cond_dec rfl (fun h2 => ?_) (fun h2 => ?_)
    · have hqm : q < m := by omega
      repeat (first | (show KP _ (wpList _ _ _ (⟨some _, _, _, _, _, none⟩ :: _)) _ _; refine wl_a (next := ?_)) | (show KP _ (wpList _ _ _ (⟨some _, _, _, _, _, some _⟩ :: _)) _ _; refine wl_ag (next := ?_)) | refine wl_nil ?_ | refine po_then ?_ | refine wc_seq ?_ | refine wc_region ?_ | refine wc_block ?_ | refine po_block ?_ | refine wc_ret ?_ | refine po_then_ret ?_ | refine po_block_ret ?_ | refine wc_exit ?_ | refine po_then_exit ?_ | refine po_block_exit ?_ | refine po_block_pass rfl ?_ | refine wc_skip ?_)
      refine wl_fx (fx_call_mk (spec := fun w' hw => away_spec m q sv rows w' (hw.now h (.head _)) hok hqm) (next := ?_))
      rintro v n2 es w2 ⟨pv, hpv, rfl, rfl⟩
      have hql : q < (tab m (dl (bt rows) m q m)).length := by rw [tab_length]; exact hqm
      have hget : (tab m (dl (bt rows) m q m)).getD q default = ((dd p m q : Nat) : Int) := tab_get _ _ _ hqm
      have hst := best_step p m q
      repeat (first | (show KP _ (wpList _ _ _ (⟨some _, _, _, _, _, none⟩ :: _)) _ _; refine wl_a (next := ?_)) | (show KP _ (wpList _ _ _ (⟨some _, _, _, _, _, some _⟩ :: _)) _ _; refine wl_ag (next := ?_)) | refine wl_nil ?_ | refine po_then ?_ | refine wc_seq ?_ | refine wc_region ?_ | refine wc_block ?_ | refine po_block ?_ | refine wc_ret ?_ | refine po_then_ret ?_ | refine po_block_ret ?_ | refine wc_exit ?_ | refine po_then_exit ?_ | refine po_block_exit ?_ | refine po_block_pass rfl ?_ | refine wc_skip ?_)
      rw [hget]
      refine wc_cond rfl (fun h3 => ?_) (fun h3 => ?_)
      · simp only [dc_eq, Bool.and_eq_true, Bool.or_eq_true, decide_eq_true_eq] at h3
        have hn := hst.1 (by rw [← hbe]; omega)
        repeat (first | (show KP _ (wpList _ _ _ (⟨some _, _, _, _, _, none⟩ :: _)) _ _; refine wl_a (next := ?_)) | (show KP _ (wpList _ _ _ (⟨some _, _, _, _, _, some _⟩ :: _)) _ _; refine wl_ag (next := ?_)) | refine wl_nil ?_ | refine po_then ?_ | refine wc_seq ?_ | refine wc_region ?_ | refine wc_block ?_ | refine po_block ?_ | refine wc_ret ?_ | refine po_then_ret ?_ | refine po_block_ret ?_ | refine wc_exit ?_ | refine po_then_exit ?_ | refine po_block_exit ?_ | refine po_block_pass rfl ?_ | refine wc_skip ?_)
        exact po_loop (q + 1, q, dd p m q) ⟨by dsimp only; omega, by dsimp only; rw [hn]; rfl, by dsimp only; rw [hn]; rfl⟩ (by dsimp only; omega) ⟨rfl, rfl, rfl, rfl, rfl, trivial⟩ (fun _ h => (h.last rfl).sel [1] rfl (by decide))
      · have hn := hst.2 (fun hc => by
          rw [← hbe] at hc
          simp only [dc_eq, Bool.and_eq_false_iff, Bool.or_eq_false_iff, decide_eq_false_iff_not] at h3
          omega)
        repeat (first | (show KP _ (wpList _ _ _ (⟨some _, _, _, _, _, none⟩ :: _)) _ _; refine wl_a (next := ?_)) | (show KP _ (wpList _ _ _ (⟨some _, _, _, _, _, some _⟩ :: _)) _ _; refine wl_ag (next := ?_)) | refine wl_nil ?_ | refine po_then ?_ | refine wc_seq ?_ | refine wc_region ?_ | refine wc_block ?_ | refine po_block ?_ | refine wc_ret ?_ | refine po_then_ret ?_ | refine po_block_ret ?_ | refine wc_exit ?_ | refine po_then_exit ?_ | refine po_block_exit ?_ | refine po_block_pass rfl ?_ | refine wc_skip ?_)
        exact po_loop (q + 1, fr, be) ⟨by dsimp only; omega, by dsimp only; rw [hn, hfr], by dsimp only; rw [hn, hbe]⟩ (by dsimp only; omega) ⟨rfl, rfl, rfl, rfl, rfl, trivial⟩ (fun _ h => (h.last rfl).sel [1] rfl (by decide))
    · obtain rfl : q = m := by omega
      repeat (first | (show KP _ (wpList _ _ _ (⟨some _, _, _, _, _, none⟩ :: _)) _ _; refine wl_a (next := ?_)) | (show KP _ (wpList _ _ _ (⟨some _, _, _, _, _, some _⟩ :: _)) _ _; refine wl_ag (next := ?_)) | refine wl_nil ?_ | refine po_then ?_ | refine wc_seq ?_ | refine wc_region ?_ | refine wc_block ?_ | refine po_block ?_ | refine wc_ret ?_ | refine po_then_ret ?_ | refine po_block_ret ?_ | refine wc_exit ?_ | refine po_then_exit ?_ | refine po_block_exit ?_ | refine po_block_pass rfl ?_ | refine wc_skip ?_)
      refine wc_cond_dec rfl (fun h4 => ?_) (fun h4 => ?_)
      · have hno := (best_zero p q).1 (by rw [← hbe]; omega)
        repeat (first | (show KP _ (wpList _ _ _ (⟨some _, _, _, _, _, none⟩ :: _)) _ _; refine wl_a (next := ?_)) | (show KP _ (wpList _ _ _ (⟨some _, _, _, _, _, some _⟩ :: _)) _ _; refine wl_ag (next := ?_)) | refine wl_nil ?_ | refine po_then ?_ | refine wc_seq ?_ | refine wc_region ?_ | refine wc_block ?_ | refine po_block ?_ | refine wc_ret ?_ | refine po_then_ret ?_ | refine po_block_ret ?_ | refine wc_exit ?_ | refine po_then_exit ?_ | refine po_block_exit ?_ | refine po_block_pass rfl ?_ | refine wc_skip ?_)
        refine kp_nil 3 1 encI ?_
        refine mk_ret Tryd.results39 (.tmp rfl (.tmp rfl .nil)) (.head _) [_] [0] rfl (by decide) fun w' hw => ?_
        rw [if_pos hno]
        refine ⟨_, sv_nil, rfl, ?_⟩
        unfold roundL; rw [hno]; rfl
      · obtain ⟨f, l, hR⟩ : ∃ f l, findR p q q = some (f, l) := by
          cases hc : findR p q q with
          | none => rw [hc] at hbe; exact absurd (show (be : Int) = 0 by rw [hbe]; rfl) h4
          | some fl => exact ⟨fl.1, fl.2, rfl⟩
        obtain ⟨hfm, hl0, hdd⟩ := findR_some p q q f l hR
        have hlm : l ≤ q := by rw [← hdd]; exact dl_le q f
        rw [hR] at hfr hbe
        simp only [fromP, bestP] at hfr hbe
        subst hfr hbe
        repeat (first | (show KP _ (wpList _ _ _ (⟨some _, _, _, _, _, none⟩ :: _)) _ _; refine wl_a (next := ?_)) | (show KP _ (wpList _ _ _ (⟨some _, _, _, _, _, some _⟩ :: _)) _ _; refine wl_ag (next := ?_)) | refine wl_nil ?_ | refine po_then ?_ | refine wc_seq ?_ | refine wc_region ?_ | refine wc_block ?_ | refine po_block ?_ | refine wc_ret ?_ | refine po_then_ret ?_ | refine po_block_ret ?_ | refine wc_exit ?_ | refine po_then_exit ?_ | refine po_block_exit ?_ | refine po_block_pass rfl ?_ | refine wc_skip ?_)
        refine wl_fx (fx_call_mk (spec := fun w' hw => away_spec q fr sv rows w' (hw.now h (.head _)) hok hfm) (next := ?_))
        rintro fv n3 es w3 ⟨_, hfv, rfl, rfl⟩
        repeat (first | (show KP _ (wpList _ _ _ (⟨some _, _, _, _, _, none⟩ :: _)) _ _; refine wl_a (next := ?_)) | (show KP _ (wpList _ _ _ (⟨some _, _, _, _, _, some _⟩ :: _)) _ _; refine wl_ag (next := ?_)) | refine wl_nil ?_ | refine po_then ?_ | refine wc_seq ?_ | refine wc_region ?_ | refine wc_block ?_ | refine po_block ?_ | refine wc_ret ?_ | refine po_then_ret ?_ | refine po_block_ret ?_ | refine wc_exit ?_ | refine po_then_exit ?_ | refine po_block_exit ?_ | refine po_block_pass rfl ?_ | refine wc_skip ?_)
        refine wl_fx (fx_lit (next := ?_))
        intro v50 hv50
        repeat (first | (show KP _ (wpList _ _ _ (⟨some _, _, _, _, _, none⟩ :: _)) _ _; refine wl_a (next := ?_)) | (show KP _ (wpList _ _ _ (⟨some _, _, _, _, _, some _⟩ :: _)) _ _; refine wl_ag (next := ?_)) | refine wl_nil ?_ | refine po_then ?_ | refine wc_seq ?_ | refine wc_region ?_ | refine wc_block ?_ | refine po_block ?_ | refine wc_ret ?_ | refine po_then_ret ?_ | refine po_block_ret ?_ | refine wc_exit ?_ | refine po_then_exit ?_ | refine po_block_exit ?_ | refine po_block_pass rfl ?_ | refine wc_skip ?_)
        refine wc_loop (fun s : Nat × Nat × Value × List Int => SV s.2.2.1 ∧ dl p q fr q s.2.1 = s.1 + 1 ∧ s.2.1 < q ∧ s.2.2.2.length + s.1 = be ∧ s.2.2.2 ++ ints (pathR p q fr s.1 s.2.1) = ints (roundL p q)) (fun s => [(12, true, .int .i64 s.1), (11, true, .int .i64 s.2.1), (10, true, s.2.2.1), (9, true, fv), (6, true, .int .i64 fr), (1, true, .pointer (some ⟨ba, 0, none⟩))])
          (fun s => Mem [(w, All)] [ownI s.2.2.1 s.2.2.2, ownI fv (tab q (dl (bt rows) q fr q)), .box ba [.int .i64 q, sv] 27]) (fun s => s.1) (be - 1, fr, v50, [(fr : Int)])
          ⟨hv50, by dsimp only; show dl p q fr q fr = _; unfold dd at hdd; omega, hfm, by simp; omega, by simp only [roundL, hR]; rfl⟩ ⟨by show _ = some (true, Value.int .i64 ((be - 1 : Nat) : Int)); rw [show ((be - 1 : Nat) : Int) = (be : Int) - 1 from by omega]; rfl, rfl, rfl, rfl, rfl, rfl, trivial⟩ (fun _ h => h.last rfl) ?_
        rintro ⟨lf, a, ov, xs⟩ ⟨hov, hda, ham, hxl, hxs⟩
        dsimp only at hov hda ham hxl hxs ⊢
        repeat (first | (show KP _ (wpList _ _ _ (⟨some _, _, _, _, _, none⟩ :: _)) _ _; refine wl_a (next := ?_)) | (show KP _ (wpList _ _ _ (⟨some _, _, _, _, _, some _⟩ :: _)) _ _; refine wl_ag (next := ?_)) | refine wl_nil ?_ | refine po_then ?_ | refine wc_seq ?_ | refine wc_region ?_ | refine wc_block ?_ | refine po_block ?_ | refine wc_ret ?_ | refine po_then_ret ?_ | refine po_block_ret ?_ | refine wc_exit ?_ | refine po_then_exit ?_ | refine po_block_exit ?_ | refine po_block_pass rfl ?_ | refine wc_skip ?_)
        refine wc_cond_dec rfl (fun h5 => ?_) (fun h5 => ?_)
        · obtain ⟨lf, rfl⟩ : ∃ z, lf = z + 1 := ⟨lf - 1, by omega⟩
          obtain ⟨nj, hnx, hfn, hnm, hpn, hdn⟩ := nxt_some p q fr a (lf + 1) (by omega) hda
          have har : a < rows.length := by omega
          repeat (first | (show KP _ (wpList _ _ _ (⟨some _, _, _, _, _, none⟩ :: _)) _ _; refine wl_a (next := ?_)) | (show KP _ (wpList _ _ _ (⟨some _, _, _, _, _, some _⟩ :: _)) _ _; refine wl_ag (next := ?_)) | refine wl_nil ?_ | refine po_then ?_ | refine wc_seq ?_ | refine wc_region ?_ | refine wc_block ?_ | refine po_block ?_ | refine wc_ret ?_ | refine po_then_ret ?_ | refine po_block_ret ?_ | refine wc_exit ?_ | refine po_then_exit ?_ | refine po_block_exit ?_ | refine po_block_pass rfl ?_ | refine wc_skip ?_)
          refine wc_loop (fun s : Nat => fr < s ∧ s ≤ nj ∧ ∀ z, fr < z → z < s → ¬ (p a z = true ∧ dl p q fr q z = lf + 1)) (fun s => [(13, true, .int .i64 s), (12, true, .int .i64 ((lf + 1 : Nat) : Int)), (11, true, .int .i64 a), (10, true, ov), (9, true, fv), (6, true, .int .i64 fr), (1, true, .pointer (some ⟨ba, 0, none⟩))])
            (fun s => Mem [(w, All)] [ownI ov xs, ownI fv (tab q (dl (bt rows) q fr q)), .box ba [.int .i64 q, sv] 27]) (fun s => q - s) (fr + 1) ⟨by omega, by omega, fun z h6 h7 => by omega⟩ ⟨rfl, rfl, rfl, rfl, rfl, rfl, rfl, trivial⟩ (fun _ h => h.last rfl) ?_
          rintro j ⟨hfj, hjn, hall⟩
          have hjm : j < q := by omega
          have hjl : j < (tab q (dl (bt rows) q fr q)).length := by rw [tab_length]; exact hjm
          have hjg : (tab q (dl (bt rows) q fr q)).getD j default = ((dl p q fr q j : Nat) : Int) := tab_get _ _ _ hjm
          repeat (first | (show KP _ (wpList _ _ _ (⟨some _, _, _, _, _, none⟩ :: _)) _ _; refine wl_a (next := ?_)) | (show KP _ (wpList _ _ _ (⟨some _, _, _, _, _, some _⟩ :: _)) _ _; refine wl_ag (next := ?_)) | refine wl_nil ?_ | refine po_then ?_ | refine wc_seq ?_ | refine wc_region ?_ | refine wc_block ?_ | refine po_block ?_ | refine wc_ret ?_ | refine po_then_ret ?_ | refine po_block_ret ?_ | refine wc_exit ?_ | refine po_then_exit ?_ | refine po_block_exit ?_ | refine po_block_pass rfl ?_ | refine wc_skip ?_)
          refine wc_cond_dec rfl (fun h6 => ?_) (fun h6 => absurd (by omega) h6)
          repeat (first | (show KP _ (wpList _ _ _ (⟨some _, _, _, _, _, none⟩ :: _)) _ _; refine wl_a (next := ?_)) | (show KP _ (wpList _ _ _ (⟨some _, _, _, _, _, some _⟩ :: _)) _ _; refine wl_ag (next := ?_)) | refine wl_nil ?_ | refine po_then ?_ | refine wc_seq ?_ | refine wc_region ?_ | refine wc_block ?_ | refine po_block ?_ | refine wc_ret ?_ | refine po_then_ret ?_ | refine po_block_ret ?_ | refine wc_exit ?_ | refine po_then_exit ?_ | refine po_block_exit ?_ | refine po_block_pass rfl ?_ | refine wc_skip ?_)
          refine wc_cond rfl (fun h7 => ?_) (fun h7 => ?_)
          · rw [dc_eq, bit_eq _ j (by omega), hjg] at h7
            simp only [dc_eq, Bool.and_eq_true, decide_eq_true_eq] at h7
            have hd : dl p q fr q j = lf + 1 := by omega
            have hx := nxt_first p q fr a (lf + 1) j hfj hjm h7.1 hd hall
            repeat (first | (show KP _ (wpList _ _ _ (⟨some _, _, _, _, _, none⟩ :: _)) _ _; refine wl_a (next := ?_)) | (show KP _ (wpList _ _ _ (⟨some _, _, _, _, _, some _⟩ :: _)) _ _; refine wl_ag (next := ?_)) | refine wl_nil ?_ | refine po_then ?_ | refine wc_seq ?_ | refine wc_region ?_ | refine wc_block ?_ | refine po_block ?_ | refine wc_ret ?_ | refine po_then_ret ?_ | refine po_block_ret ?_ | refine wc_exit ?_ | refine po_then_exit ?_ | refine po_block_exit ?_ | refine po_block_pass rfl ?_ | refine wc_skip ?_)
            refine wl_fx (fx_lit (next := ?_))
            intro v87 hv87
            repeat (first | (show KP _ (wpList _ _ _ (⟨some _, _, _, _, _, none⟩ :: _)) _ _; refine wl_a (next := ?_)) | (show KP _ (wpList _ _ _ (⟨some _, _, _, _, _, some _⟩ :: _)) _ _; refine wl_ag (next := ?_)) | refine wl_nil ?_ | refine po_then ?_ | refine wc_seq ?_ | refine wc_region ?_ | refine wc_block ?_ | refine po_block ?_ | refine wc_ret ?_ | refine po_then_ret ?_ | refine po_block_ret ?_ | refine wc_exit ?_ | refine po_then_exit ?_ | refine po_block_exit ?_ | refine po_block_pass rfl ?_ | refine wc_skip ?_)
            refine wl_fx (fx_append_own (k := 1) (hk := rfl) (hlen := by simp; omega) (next := ?_))
            intro v88 hv88
            repeat (first | (show KP _ (wpList _ _ _ (⟨some _, _, _, _, _, none⟩ :: _)) _ _; refine wl_a (next := ?_)) | (show KP _ (wpList _ _ _ (⟨some _, _, _, _, _, some _⟩ :: _)) _ _; refine wl_ag (next := ?_)) | refine wl_nil ?_ | refine po_then ?_ | refine wc_seq ?_ | refine wc_region ?_ | refine wc_block ?_ | refine po_block ?_ | refine wc_ret ?_ | refine po_then_ret ?_ | refine po_block_ret ?_ | refine wc_exit ?_ | refine po_then_exit ?_ | refine po_block_exit ?_ | refine po_block_pass rfl ?_ | refine wc_skip ?_)
            refine po_loop (lf, j, v88, xs ++ [(j : Int)]) ⟨hv88, hd, hjm, by simp; omega, ?_⟩ (by dsimp only; omega) ⟨by show _ = some (true, Value.int .i64 (lf : Int)); rw [show (lf : Int) = ((lf + 1 : Nat) : Int) - 1 from by omega]; rfl, rfl, rfl, rfl, rfl, rfl, trivial⟩ (fun _ h => (h.last rfl).sel [1, 2, 3] rfl (by decide))
            rw [← hxs]
            simp only [pathR, hx, ints, Option.getD_some, List.map_cons, List.append_assoc, List.singleton_append]
          · rw [dc_eq, bit_eq _ j (by omega), hjg] at h7
            simp only [dc_eq, Bool.and_eq_false_iff, decide_eq_false_iff_not] at h7
            have hno : ¬ (p a j = true ∧ dl p q fr q j = lf + 1) := by
              rintro ⟨h8, h9⟩
              rcases h7 with h7 | h7
              · have h8' : (rows.getD a default).getLsbD j = true := h8
                rw [h7] at h8'; cases h8'
              · omega
            repeat (first | (show KP _ (wpList _ _ _ (⟨some _, _, _, _, _, none⟩ :: _)) _ _; refine wl_a (next := ?_)) | (show KP _ (wpList _ _ _ (⟨some _, _, _, _, _, some _⟩ :: _)) _ _; refine wl_ag (next := ?_)) | refine wl_nil ?_ | refine po_then ?_ | refine wc_seq ?_ | refine wc_region ?_ | refine wc_block ?_ | refine po_block ?_ | refine wc_ret ?_ | refine po_then_ret ?_ | refine po_block_ret ?_ | refine wc_exit ?_ | refine po_then_exit ?_ | refine po_block_exit ?_ | refine po_block_pass rfl ?_ | refine wc_skip ?_)
            refine po_loop (j + 1) ⟨by omega, ?_, fun z h8 h9 => ?_⟩ (by omega) ⟨rfl, rfl, rfl, rfl, rfl, rfl, rfl, trivial⟩ (fun _ h => h.last rfl)
            · by_cases hjj : j = nj
              · subst hjj; exact absurd ⟨hpn, hdn⟩ hno
              · omega
            · by_cases hzj : z = j
              · subst hzj; exact hno
              · exact hall z h8 (by omega)
        · repeat (first | (show KP _ (wpList _ _ _ (⟨some _, _, _, _, _, none⟩ :: _)) _ _; refine wl_a (next := ?_)) | (show KP _ (wpList _ _ _ (⟨some _, _, _, _, _, some _⟩ :: _)) _ _; refine wl_ag (next := ?_)) | refine wl_nil ?_ | refine po_then ?_ | refine wc_seq ?_ | refine wc_region ?_ | refine wc_block ?_ | refine po_block ?_ | refine wc_ret ?_ | refine po_then_ret ?_ | refine po_block_ret ?_ | refine wc_exit ?_ | refine po_then_exit ?_ | refine po_block_exit ?_ | refine po_block_pass rfl ?_ | refine wc_skip ?_)
          refine mk_ret Tryd.results39 (.tmp rfl (.tmp rfl .nil)) (.head _) [ownI ov xs] [0] rfl (by decide) fun w' hw => ?_
          rw [if_neg (by rw [hR]; simp)]
          obtain rfl : lf = 0 := by omega
          refine ⟨ov, hov, rfl, ?_⟩
          rw [← hxs]; simp [pathR, ints]
  · simp only [if_neg hok]
    repeat (first | (show KP _ (wpList _ _ _ (⟨some _, _, _, _, _, none⟩ :: _)) _ _; refine wl_a (next := ?_)) | (show KP _ (wpList _ _ _ (⟨some _, _, _, _, _, some _⟩ :: _)) _ _; refine wl_ag (next := ?_)) | refine wl_nil ?_ | refine po_then ?_ | refine wc_seq ?_ | refine wc_region ?_ | refine wc_block ?_ | refine po_block ?_ | refine wc_ret ?_ | refine po_then_ret ?_ | refine po_block_ret ?_ | refine wc_exit ?_ | refine po_then_exit ?_ | refine po_block_exit ?_ | refine po_block_pass rfl ?_ | refine wc_skip ?_)
    refine wc_cond rfl (fun _ => ?_) (fun h1 => by simp [dc_eq] at h1)
    repeat (first | (show KP _ (wpList _ _ _ (⟨some _, _, _, _, _, none⟩ :: _)) _ _; refine wl_a (next := ?_)) | (show KP _ (wpList _ _ _ (⟨some _, _, _, _, _, some _⟩ :: _)) _ _; refine wl_ag (next := ?_)) | refine wl_nil ?_ | refine po_then ?_ | refine wc_seq ?_ | refine wc_region ?_ | refine wc_block ?_ | refine po_block ?_ | refine wc_ret ?_ | refine po_then_ret ?_ | refine po_block_ret ?_ | refine wc_exit ?_ | refine po_then_exit ?_ | refine po_block_exit ?_ | refine po_block_pass rfl ?_ | refine wc_skip ?_)
    refine kp_nil 3 1 encI ?_
    refine mk_ret Tryd.results39 (.tmp rfl (.tmp rfl .nil)) (.tail _ (.head _)) [_] [0] rfl (by decide) fun w' hw => ?_
    exact ⟨_, sv_nil, rfl, rfl⟩
end Go.Proofs.YtpncpbdfomgcgaaDoor
