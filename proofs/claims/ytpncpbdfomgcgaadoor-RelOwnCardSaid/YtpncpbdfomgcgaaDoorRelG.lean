/- The walks: Plus, turns, Line. -/
import Derived.Test.YtpncpbdfomgcgaaDoorRelF
namespace Go.Proofs.YtpncpbdfomgcgaaDoor
open Go Go.Eng Go.Rl
attribute [local irreducible] wpList Code.wp bodyPost Exit.then Exit.inBlock Calls

set_option maxHeartbeats 400000 in
theorem plus_spec (n : Int) (sv : Value) (rows : List W) (w : World) (h : Sl All w encW 1 sv rows) :
    Mk Tryd.prog 21 [.agg #[.int .i64 n, sv]] w fun _ v es _ =>
      if relOk n rows = true then ∃ sv', SV sv' ∧ v = .tuple #[.agg #[.int .i64 n, sv'], .int .i64 0] ∧ es = [ownW sv' (closedL n.toNat rows)]
      else v = .tuple #[.agg #[.int .i64 0, .slice none 0 0], .int .i64 10] ∧ es = [] := by
  refine enter_mk Tryd.func21 Tryd.ntmps21 rfl rfl ?_
  repeat (first | (show KP _ (wpList _ _ _ (⟨some _, _, _, _, _, none⟩ :: _)) _ _; refine wl_a (next := ?_)) | (show KP _ (wpList _ _ _ (⟨some _, _, _, _, _, some _⟩ :: _)) _ _; refine wl_ag (next := ?_)) | refine wl_nil ?_ | refine po_then ?_ | refine wc_seq ?_ | refine wc_region ?_ | refine wc_block ?_ | refine po_block ?_ | refine wc_ret ?_ | refine po_then_ret ?_ | refine po_block_ret ?_ | refine wc_exit ?_ | refine po_then_exit ?_ | refine po_block_exit ?_ | refine po_block_pass rfl ?_ | refine wc_skip ?_)
  refine wl_fx (fx_box (next := ?_)); intro ba
  repeat (first | (show KP _ (wpList _ _ _ (⟨some _, _, _, _, _, none⟩ :: _)) _ _; refine wl_a (next := ?_)) | (show KP _ (wpList _ _ _ (⟨some _, _, _, _, _, some _⟩ :: _)) _ _; refine wl_ag (next := ?_)) | refine wl_nil ?_ | refine po_then ?_ | refine wc_seq ?_ | refine wc_region ?_ | refine wc_block ?_ | refine po_block ?_ | refine wc_ret ?_ | refine po_then_ret ?_ | refine po_block_ret ?_ | refine wc_exit ?_ | refine po_then_exit ?_ | refine po_block_exit ?_ | refine po_block_pass rfl ?_ | refine wc_skip ?_)
  refine wl_fx (fx_alloc (next := ?_)); intro br
  repeat (first | (show KP _ (wpList _ _ _ (⟨some _, _, _, _, _, none⟩ :: _)) _ _; refine wl_a (next := ?_)) | (show KP _ (wpList _ _ _ (⟨some _, _, _, _, _, some _⟩ :: _)) _ _; refine wl_ag (next := ?_)) | refine wl_nil ?_ | refine po_then ?_ | refine wc_seq ?_ | refine wc_region ?_ | refine wc_block ?_ | refine po_block ?_ | refine wc_ret ?_ | refine po_then_ret ?_ | refine po_block_ret ?_ | refine wc_exit ?_ | refine po_then_exit ?_ | refine po_block_exit ?_ | refine po_block_pass rfl ?_ | refine wc_skip ?_)
  refine wl_fx (fx_call (spec := fun w' hw => check_spec n sv rows w' (hw.now h (.head _))) (next := ?_))
  rintro v n1 w1 rfl hn1
  by_cases hok : relOk n rows = true
  · simp only [if_pos hok]
    obtain ⟨m, rfl, hm64, hlen⟩ := relOk_nat hok
    repeat (first | (show KP _ (wpList _ _ _ (⟨some _, _, _, _, _, none⟩ :: _)) _ _; refine wl_a (next := ?_)) | (show KP _ (wpList _ _ _ (⟨some _, _, _, _, _, some _⟩ :: _)) _ _; refine wl_ag (next := ?_)) | refine wl_nil ?_ | refine po_then ?_ | refine wc_seq ?_ | refine wc_region ?_ | refine wc_block ?_ | refine po_block ?_ | refine wc_ret ?_ | refine po_then_ret ?_ | refine po_block_ret ?_ | refine wc_exit ?_ | refine po_then_exit ?_ | refine po_block_exit ?_ | refine po_block_pass rfl ?_ | refine wc_skip ?_)
    refine wc_cond rfl (fun h1 => by simp [dc_eq] at h1) (fun _ => ?_)
    repeat (first | (show KP _ (wpList _ _ _ (⟨some _, _, _, _, _, none⟩ :: _)) _ _; refine wl_a (next := ?_)) | (show KP _ (wpList _ _ _ (⟨some _, _, _, _, _, some _⟩ :: _)) _ _; refine wl_ag (next := ?_)) | refine wl_nil ?_ | refine po_then ?_ | refine wc_seq ?_ | refine wc_region ?_ | refine wc_block ?_ | refine po_block ?_ | refine wc_ret ?_ | refine po_then_ret ?_ | refine po_block_ret ?_ | refine wc_exit ?_ | refine po_then_exit ?_ | refine po_block_exit ?_ | refine po_block_pass rfl ?_ | refine wc_skip ?_)
    refine wl_fx (fx_call_mk (spec := fun w' hw => closed_spec m sv rows w' (hw.now h (.tail _ (.head _))) hm64 hlen) (next := ?_))
    rintro v n2 es w2 ⟨s1, hs1, rfl, rfl⟩
    repeat (first | (show KP _ (wpList _ _ _ (⟨some _, _, _, _, _, none⟩ :: _)) _ _; refine wl_a (next := ?_)) | (show KP _ (wpList _ _ _ (⟨some _, _, _, _, _, some _⟩ :: _)) _ _; refine wl_ag (next := ?_)) | refine wl_nil ?_ | refine po_then ?_ | refine wc_seq ?_ | refine wc_region ?_ | refine wc_block ?_ | refine po_block ?_ | refine wc_ret ?_ | refine po_then_ret ?_ | refine po_block_ret ?_ | refine wc_exit ?_ | refine po_then_exit ?_ | refine po_block_exit ?_ | refine po_block_pass rfl ?_ | refine wc_skip ?_)
    refine wl_fx (fx_store_box (i := 1) (hi := rfl) (next := ?_))
    repeat (first | (show KP _ (wpList _ _ _ (⟨some _, _, _, _, _, none⟩ :: _)) _ _; refine wl_a (next := ?_)) | (show KP _ (wpList _ _ _ (⟨some _, _, _, _, _, some _⟩ :: _)) _ _; refine wl_ag (next := ?_)) | refine wl_nil ?_ | refine po_then ?_ | refine wc_seq ?_ | refine wc_region ?_ | refine wc_block ?_ | refine po_block ?_ | refine wc_ret ?_ | refine po_then_ret ?_ | refine po_block_ret ?_ | refine wc_exit ?_ | refine po_then_exit ?_ | refine po_block_exit ?_ | refine po_block_pass rfl ?_ | refine wc_skip ?_)
    refine mk_ret Tryd.results21 (.cellN inferInstance rfl (.tail _ (.head _)) rfl (.tmp rfl .nil)) (.tail _ (.tail _ (.head _))) [ownW s1 (closedL m rows)] [0] rfl (by decide) fun w' hw => ?_
    exact ⟨s1, hs1, rfl, rfl⟩
  · simp only [if_neg hok]
    repeat (first | (show KP _ (wpList _ _ _ (⟨some _, _, _, _, _, none⟩ :: _)) _ _; refine wl_a (next := ?_)) | (show KP _ (wpList _ _ _ (⟨some _, _, _, _, _, some _⟩ :: _)) _ _; refine wl_ag (next := ?_)) | refine wl_nil ?_ | refine po_then ?_ | refine wc_seq ?_ | refine wc_region ?_ | refine wc_block ?_ | refine po_block ?_ | refine wc_ret ?_ | refine po_then_ret ?_ | refine po_block_ret ?_ | refine wc_exit ?_ | refine po_then_exit ?_ | refine po_block_exit ?_ | refine po_block_pass rfl ?_ | refine wc_skip ?_)
    refine wc_cond rfl (fun _ => ?_) (fun h1 => by simp [dc_eq] at h1)
    repeat (first | (show KP _ (wpList _ _ _ (⟨some _, _, _, _, _, none⟩ :: _)) _ _; refine wl_a (next := ?_)) | (show KP _ (wpList _ _ _ (⟨some _, _, _, _, _, some _⟩ :: _)) _ _; refine wl_ag (next := ?_)) | refine wl_nil ?_ | refine po_then ?_ | refine wc_seq ?_ | refine wc_region ?_ | refine wc_block ?_ | refine po_block ?_ | refine wc_ret ?_ | refine po_then_ret ?_ | refine po_block_ret ?_ | refine wc_exit ?_ | refine po_then_exit ?_ | refine po_block_exit ?_ | refine po_block_pass rfl ?_ | refine wc_skip ?_)
    refine wl_fx (fx_store_box (i := 0) (hi := rfl) (next := ?_))
    repeat (first | (show KP _ (wpList _ _ _ (⟨some _, _, _, _, _, none⟩ :: _)) _ _; refine wl_a (next := ?_)) | (show KP _ (wpList _ _ _ (⟨some _, _, _, _, _, some _⟩ :: _)) _ _; refine wl_ag (next := ?_)) | refine wl_nil ?_ | refine po_then ?_ | refine wc_seq ?_ | refine wc_region ?_ | refine wc_block ?_ | refine po_block ?_ | refine wc_ret ?_ | refine po_then_ret ?_ | refine po_block_ret ?_ | refine wc_exit ?_ | refine po_then_exit ?_ | refine po_block_exit ?_ | refine po_block_pass rfl ?_ | refine wc_skip ?_)
    refine mk_ret Tryd.results21 (.cellN inferInstance rfl (.head _) rfl (.tmp rfl .nil)) (.tail _ (.head _)) [] [] rfl (by decide) fun w' hw => ?_
    exact ⟨rfl, rfl⟩

set_option maxHeartbeats 400000 in
theorem turns_spec (m : Nat) (sv : Value) (rows : List W) (w : World) (h : Sl All w encW 1 sv rows) (h64 : m ≤ 64) (hlen : rows.length = m) :
    Pur Tryd.prog 63 [.agg #[.int .i64 m, sv]] w fun _ v _ => v = .bool (turnsL m rows) := by
  refine enter_pur Tryd.func63 Tryd.ntmps63 rfl rfl ?_
  repeat (first | (show KP _ (wpList _ _ _ (⟨some _, _, _, _, _, none⟩ :: _)) _ _; refine wl_a (next := ?_)) | (show KP _ (wpList _ _ _ (⟨some _, _, _, _, _, some _⟩ :: _)) _ _; refine wl_ag (next := ?_)) | refine wl_nil ?_ | refine po_then ?_ | refine wc_seq ?_ | refine wc_region ?_ | refine wc_block ?_ | refine po_block ?_ | refine wc_ret ?_ | refine po_then_ret ?_ | refine po_block_ret ?_ | refine wc_exit ?_ | refine po_then_exit ?_ | refine po_block_exit ?_ | refine po_block_pass rfl ?_ | refine wc_skip ?_)
  refine wl_fx (fx_box (next := ?_)); intro ba
  repeat (first | (show KP _ (wpList _ _ _ (⟨some _, _, _, _, _, none⟩ :: _)) _ _; refine wl_a (next := ?_)) | (show KP _ (wpList _ _ _ (⟨some _, _, _, _, _, some _⟩ :: _)) _ _; refine wl_ag (next := ?_)) | refine wl_nil ?_ | refine po_then ?_ | refine wc_seq ?_ | refine wc_region ?_ | refine wc_block ?_ | refine po_block ?_ | refine wc_ret ?_ | refine po_then_ret ?_ | refine po_block_ret ?_ | refine wc_exit ?_ | refine po_then_exit ?_ | refine po_block_exit ?_ | refine po_block_pass rfl ?_ | refine wc_skip ?_)
  refine wl_fx (fx_call_mk (spec := fun w' hw => closed_spec m sv rows w' (hw.now h (.head _)) h64 hlen) (next := ?_))
  rintro v n2 es w2 ⟨s1, hs1, rfl, rfl⟩
  have hcl : (closedL m rows).length = m := by rw [closedL_length, hlen]
  repeat (first | (show KP _ (wpList _ _ _ (⟨some _, _, _, _, _, none⟩ :: _)) _ _; refine wl_a (next := ?_)) | (show KP _ (wpList _ _ _ (⟨some _, _, _, _, _, some _⟩ :: _)) _ _; refine wl_ag (next := ?_)) | refine wl_nil ?_ | refine po_then ?_ | refine wc_seq ?_ | refine wc_region ?_ | refine wc_block ?_ | refine po_block ?_ | refine wc_ret ?_ | refine po_then_ret ?_ | refine po_block_ret ?_ | refine wc_exit ?_ | refine po_then_exit ?_ | refine po_block_exit ?_ | refine po_block_pass rfl ?_ | refine wc_skip ?_)
  refine wl_fx (fx_alloc (next := ?_)); intro bc
  repeat (first | (show KP _ (wpList _ _ _ (⟨some _, _, _, _, _, none⟩ :: _)) _ _; refine wl_a (next := ?_)) | (show KP _ (wpList _ _ _ (⟨some _, _, _, _, _, some _⟩ :: _)) _ _; refine wl_ag (next := ?_)) | refine wl_nil ?_ | refine po_then ?_ | refine wc_seq ?_ | refine wc_region ?_ | refine wc_block ?_ | refine po_block ?_ | refine wc_ret ?_ | refine po_then_ret ?_ | refine po_block_ret ?_ | refine wc_exit ?_ | refine po_then_exit ?_ | refine po_block_exit ?_ | refine po_block_pass rfl ?_ | refine wc_skip ?_)
  refine wl_fx (fx_store_box (i := 0) (hi := rfl) (next := ?_))
  repeat (first | (show KP _ (wpList _ _ _ (⟨some _, _, _, _, _, none⟩ :: _)) _ _; refine wl_a (next := ?_)) | (show KP _ (wpList _ _ _ (⟨some _, _, _, _, _, some _⟩ :: _)) _ _; refine wl_ag (next := ?_)) | refine wl_nil ?_ | refine po_then ?_ | refine wc_seq ?_ | refine wc_region ?_ | refine wc_block ?_ | refine po_block ?_ | refine wc_ret ?_ | refine po_then_ret ?_ | refine po_block_ret ?_ | refine wc_exit ?_ | refine po_then_exit ?_ | refine po_block_exit ?_ | refine po_block_pass rfl ?_ | refine wc_skip ?_)
  refine wc_loop (fun k : Nat => k ≤ m ∧ ∀ i, i < k → ((closedL m rows).getD i default).getLsbD i = false) (fun k => [(9, true, .int .i64 k), (8, true, .int .i64 m), (3, true, .pointer (some ⟨bc, 0, none⟩)), (1, true, .pointer (some ⟨ba, 0, none⟩))])
    (fun _ => Mem [(w, All)] [.box bc [.int .i64 m, s1] 27, ownW s1 (closedL m rows), .box ba [.int .i64 m, sv] 27]) (fun k => m - k) 0 ⟨by omega, fun i hi => by omega⟩ ⟨rfl, rfl, rfl, rfl, trivial⟩ (fun _ h => h.tailB) ?_
  rintro k ⟨hk, hall⟩
  repeat (first | (show KP _ (wpList _ _ _ (⟨some _, _, _, _, _, none⟩ :: _)) _ _; refine wl_a (next := ?_)) | (show KP _ (wpList _ _ _ (⟨some _, _, _, _, _, some _⟩ :: _)) _ _; refine wl_ag (next := ?_)) | refine wl_nil ?_ | refine po_then ?_ | refine wc_seq ?_ | refine wc_region ?_ | refine wc_block ?_ | refine po_block ?_ | refine wc_ret ?_ | refine po_then_ret ?_ | refine po_block_ret ?_ | refine wc_exit ?_ | refine po_then_exit ?_ | refine po_block_exit ?_ | refine po_block_pass rfl ?_ | refine wc_skip ?_)
  refine wc_cond_dec rfl (fun h2 => ?_) (fun h2 => ?_)
  · have hk2 : k < (closedL m rows).length := by omega
    repeat (first | (show KP _ (wpList _ _ _ (⟨some _, _, _, _, _, none⟩ :: _)) _ _; refine wl_a (next := ?_)) | (show KP _ (wpList _ _ _ (⟨some _, _, _, _, _, some _⟩ :: _)) _ _; refine wl_ag (next := ?_)) | refine wl_nil ?_ | refine po_then ?_ | refine wc_seq ?_ | refine wc_region ?_ | refine wc_block ?_ | refine po_block ?_ | refine wc_ret ?_ | refine po_then_ret ?_ | refine po_block_ret ?_ | refine wc_exit ?_ | refine po_then_exit ?_ | refine po_block_exit ?_ | refine po_block_pass rfl ?_ | refine wc_skip ?_)
    refine wc_cond rfl (fun h4 => ?_) (fun h4 => ?_)
    · rw [dc_eq, bit_eq _ k (by omega)] at h4
      repeat (first | (show KP _ (wpList _ _ _ (⟨some _, _, _, _, _, none⟩ :: _)) _ _; refine wl_a (next := ?_)) | (show KP _ (wpList _ _ _ (⟨some _, _, _, _, _, some _⟩ :: _)) _ _; refine wl_ag (next := ?_)) | refine wl_nil ?_ | refine po_then ?_ | refine wc_seq ?_ | refine wc_region ?_ | refine wc_block ?_ | refine po_block ?_ | refine wc_ret ?_ | refine po_then_ret ?_ | refine po_block_ret ?_ | refine wc_exit ?_ | refine po_then_exit ?_ | refine po_block_exit ?_ | refine po_block_pass rfl ?_ | refine wc_skip ?_)
      refine pur_ret Tryd.results63 (.tmp rfl .nil) (.head _) fun w' hw => ?_
      have : turnsL m rows = true := by
        unfold turnsL; rw [List.any_eq_true]; exact ⟨k, by rw [List.mem_range]; omega, h4⟩
      rw [this]; rfl
    · rw [dc_eq, bit_eq _ k (by omega)] at h4
      repeat (first | (show KP _ (wpList _ _ _ (⟨some _, _, _, _, _, none⟩ :: _)) _ _; refine wl_a (next := ?_)) | (show KP _ (wpList _ _ _ (⟨some _, _, _, _, _, some _⟩ :: _)) _ _; refine wl_ag (next := ?_)) | refine wl_nil ?_ | refine po_then ?_ | refine wc_seq ?_ | refine wc_region ?_ | refine wc_block ?_ | refine po_block ?_ | refine wc_ret ?_ | refine po_then_ret ?_ | refine po_block_ret ?_ | refine wc_exit ?_ | refine po_then_exit ?_ | refine po_block_exit ?_ | refine po_block_pass rfl ?_ | refine wc_skip ?_)
      refine po_loop (k + 1) ⟨by omega, fun i hi => ?_⟩ (by omega) ⟨rfl, rfl, rfl, rfl, trivial⟩ (fun _ h => h)
      by_cases hik : i < k
      · exact hall i hik
      · obtain rfl : i = k := by omega
        exact h4
  · repeat (first | (show KP _ (wpList _ _ _ (⟨some _, _, _, _, _, none⟩ :: _)) _ _; refine wl_a (next := ?_)) | (show KP _ (wpList _ _ _ (⟨some _, _, _, _, _, some _⟩ :: _)) _ _; refine wl_ag (next := ?_)) | refine wl_nil ?_ | refine po_then ?_ | refine wc_seq ?_ | refine wc_region ?_ | refine wc_block ?_ | refine po_block ?_ | refine wc_ret ?_ | refine po_then_ret ?_ | refine po_block_ret ?_ | refine wc_exit ?_ | refine po_then_exit ?_ | refine po_block_exit ?_ | refine po_block_pass rfl ?_ | refine wc_skip ?_)
    refine pur_ret Tryd.results63 (.tmp rfl .nil) (.head _) fun w' hw => ?_
    have : turnsL m rows = false := by
      unfold turnsL; rw [List.any_eq_false]; intro i hi; rw [List.mem_range] at hi; rw [hall i (by omega)]; simp
    rw [this]; rfl

abbrev ownI (v : Value) (xs : List Int) : Ent := .own v 3 1 encI xs

set_option maxHeartbeats 1600000 in
theorem line_spec (n : Int) (sv : Value) (rows : List W) (w : World) (h : Sl All w encW 1 sv rows) :
    Mk Tryd.prog 38 [.agg #[.int .i64 n, sv]] w fun _ v es _ =>
      if relOk n rows = true then if turnsL n.toNat rows = true then v = .tuple #[.slice none 0 0, .int .i64 12] ∧ es = [] else ∃ pv, SV pv ∧ v = .tuple #[pv, .int .i64 0] ∧ es = [ownI pv (lineL n.toNat rows)]
      else v = .tuple #[.slice none 0 0, .int .i64 10] ∧ es = [] := by
  refine enter_mk Tryd.func38 Tryd.ntmps38 rfl rfl ?_
  repeat (first | (show KP _ (wpList _ _ _ (⟨some _, _, _, _, _, none⟩ :: _)) _ _; refine wl_a (next := ?_)) | (show KP _ (wpList _ _ _ (⟨some _, _, _, _, _, some _⟩ :: _)) _ _; refine wl_ag (next := ?_)) | refine wl_nil ?_ | refine po_then ?_ | refine wc_seq ?_ | refine wc_region ?_ | refine wc_block ?_ | refine po_block ?_ | refine wc_ret ?_ | refine po_then_ret ?_ | refine po_block_ret ?_ | refine wc_exit ?_ | refine po_then_exit ?_ | refine po_block_exit ?_ | refine po_block_pass rfl ?_ | refine wc_skip ?_)
  refine wl_fx (fx_box (next := ?_)); intro ba
  repeat (first | (show KP _ (wpList _ _ _ (⟨some _, _, _, _, _, none⟩ :: _)) _ _; refine wl_a (next := ?_)) | (show KP _ (wpList _ _ _ (⟨some _, _, _, _, _, some _⟩ :: _)) _ _; refine wl_ag (next := ?_)) | refine wl_nil ?_ | refine po_then ?_ | refine wc_seq ?_ | refine wc_region ?_ | refine wc_block ?_ | refine po_block ?_ | refine wc_ret ?_ | refine po_then_ret ?_ | refine po_block_ret ?_ | refine wc_exit ?_ | refine po_then_exit ?_ | refine po_block_exit ?_ | refine po_block_pass rfl ?_ | refine wc_skip ?_)
  refine wl_fx (fx_call (spec := fun w' hw => check_spec n sv rows w' (hw.now h (.head _))) (next := ?_))
  rintro v n1 w1 rfl hn1
  by_cases hok : relOk n rows = true
  · simp only [if_pos hok]
    obtain ⟨m, rfl, hm64, hlen⟩ := relOk_nat hok
    repeat (first | (show KP _ (wpList _ _ _ (⟨some _, _, _, _, _, none⟩ :: _)) _ _; refine wl_a (next := ?_)) | (show KP _ (wpList _ _ _ (⟨some _, _, _, _, _, some _⟩ :: _)) _ _; refine wl_ag (next := ?_)) | refine wl_nil ?_ | refine po_then ?_ | refine wc_seq ?_ | refine wc_region ?_ | refine wc_block ?_ | refine po_block ?_ | refine wc_ret ?_ | refine po_then_ret ?_ | refine po_block_ret ?_ | refine wc_exit ?_ | refine po_then_exit ?_ | refine po_block_exit ?_ | refine po_block_pass rfl ?_ | refine wc_skip ?_)
    refine wc_cond rfl (fun h1 => by simp [dc_eq] at h1) (fun _ => ?_)
    repeat (first | (show KP _ (wpList _ _ _ (⟨some _, _, _, _, _, none⟩ :: _)) _ _; refine wl_a (next := ?_)) | (show KP _ (wpList _ _ _ (⟨some _, _, _, _, _, some _⟩ :: _)) _ _; refine wl_ag (next := ?_)) | refine wl_nil ?_ | refine po_then ?_ | refine wc_seq ?_ | refine wc_region ?_ | refine wc_block ?_ | refine po_block ?_ | refine wc_ret ?_ | refine po_then_ret ?_ | refine po_block_ret ?_ | refine wc_exit ?_ | refine po_then_exit ?_ | refine po_block_exit ?_ | refine po_block_pass rfl ?_ | refine wc_skip ?_)
    refine wl_fx (fx_call (spec := fun w' hw => turns_spec m sv rows w' (hw.now h (.tail _ (.head _))) hm64 hlen) (next := ?_))
    rintro v n2 w2 rfl hn2
    repeat (first | (show KP _ (wpList _ _ _ (⟨some _, _, _, _, _, none⟩ :: _)) _ _; refine wl_a (next := ?_)) | (show KP _ (wpList _ _ _ (⟨some _, _, _, _, _, some _⟩ :: _)) _ _; refine wl_ag (next := ?_)) | refine wl_nil ?_ | refine po_then ?_ | refine wc_seq ?_ | refine wc_region ?_ | refine wc_block ?_ | refine po_block ?_ | refine wc_ret ?_ | refine po_then_ret ?_ | refine po_block_ret ?_ | refine wc_exit ?_ | refine po_then_exit ?_ | refine po_block_exit ?_ | refine po_block_pass rfl ?_ | refine wc_skip ?_)
    refine wc_cond rfl (fun h1 => ?_) (fun h1 => ?_)
    · repeat (first | (show KP _ (wpList _ _ _ (⟨some _, _, _, _, _, none⟩ :: _)) _ _; refine wl_a (next := ?_)) | (show KP _ (wpList _ _ _ (⟨some _, _, _, _, _, some _⟩ :: _)) _ _; refine wl_ag (next := ?_)) | refine wl_nil ?_ | refine po_then ?_ | refine wc_seq ?_ | refine wc_region ?_ | refine wc_block ?_ | refine po_block ?_ | refine wc_ret ?_ | refine po_then_ret ?_ | refine po_block_ret ?_ | refine wc_exit ?_ | refine po_then_exit ?_ | refine po_block_exit ?_ | refine po_block_pass rfl ?_ | refine wc_skip ?_)
      refine mk_ret Tryd.results38 (.tmp rfl (.tmp rfl .nil)) (.tail _ (.tail _ (.head _))) [] [] rfl (by decide) fun w' hw => ?_
      rw [if_pos (by simpa using h1)]; exact ⟨rfl, rfl⟩
    · repeat (first | (show KP _ (wpList _ _ _ (⟨some _, _, _, _, _, none⟩ :: _)) _ _; refine wl_a (next := ?_)) | (show KP _ (wpList _ _ _ (⟨some _, _, _, _, _, some _⟩ :: _)) _ _; refine wl_ag (next := ?_)) | refine wl_nil ?_ | refine po_then ?_ | refine wc_seq ?_ | refine wc_region ?_ | refine wc_block ?_ | refine po_block ?_ | refine wc_ret ?_ | refine po_then_ret ?_ | refine po_block_ret ?_ | refine wc_exit ?_ | refine po_then_exit ?_ | refine po_block_exit ?_ | refine po_block_pass rfl ?_ | refine wc_skip ?_)
      refine kp_nil 3 1 encI ?_
      repeat (first | (show KP _ (wpList _ _ _ (⟨some _, _, _, _, _, none⟩ :: _)) _ _; refine wl_a (next := ?_)) | (show KP _ (wpList _ _ _ (⟨some _, _, _, _, _, some _⟩ :: _)) _ _; refine wl_ag (next := ?_)) | refine wl_nil ?_ | refine po_then ?_ | refine wc_seq ?_ | refine wc_region ?_ | refine wc_block ?_ | refine po_block ?_ | refine wc_ret ?_ | refine po_then_ret ?_ | refine po_block_ret ?_ | refine wc_exit ?_ | refine po_then_exit ?_ | refine po_block_exit ?_ | refine po_block_pass rfl ?_ | refine wc_skip ?_)
      refine wc_loop (fun s : Nat × W × Value × List Int => s.1 ≤ m ∧ SV s.2.2.1 ∧ (s.2.1, s.2.2.2) = lineF m rows s.1) (fun s => [(19, true, .int .i64 s.1), (18, true, .int .i64 m), (5, true, u64 s.2.1), (6, true, s.2.2.1), (1, true, .pointer (some ⟨ba, 0, none⟩))])
        (fun s => Mem [(w, All)] [ownI s.2.2.1 s.2.2.2, .box ba [.int .i64 m, sv] 27]) (fun s => m - s.1) (0, 0#64, .slice none 0 0, []) ⟨by simp, ⟨_, _, _, rfl⟩, rfl⟩ ⟨rfl, rfl, rfl, rfl, rfl, trivial⟩ (fun _ h => h.tailB.tailB) ?_
      rintro ⟨k, dn, v, xs⟩ ⟨hk, hv, hF⟩
      dsimp only at hk hv hF ⊢
      repeat (first | (show KP _ (wpList _ _ _ (⟨some _, _, _, _, _, none⟩ :: _)) _ _; refine wl_a (next := ?_)) | (show KP _ (wpList _ _ _ (⟨some _, _, _, _, _, some _⟩ :: _)) _ _; refine wl_ag (next := ?_)) | refine wl_nil ?_ | refine po_then ?_ | refine wc_seq ?_ | refine wc_region ?_ | refine wc_block ?_ | refine po_block ?_ | refine wc_ret ?_ | refine po_then_ret ?_ | refine po_block_ret ?_ | refine wc_exit ?_ | refine po_then_exit ?_ | refine po_block_exit ?_ | refine po_block_pass rfl ?_ | refine wc_skip ?_)
      refine wc_cond_dec rfl (fun h2 => ?_) (fun h2 => ?_)
      · have hxl : xs.length ≤ k := by have := lineF_length m rows k; rw [← hF] at this; exact this
        have hs := lineF_succ m rows k
        rw [← hF] at hs
        repeat (first | (show KP _ (wpList _ _ _ (⟨some _, _, _, _, _, none⟩ :: _)) _ _; refine wl_a (next := ?_)) | (show KP _ (wpList _ _ _ (⟨some _, _, _, _, _, some _⟩ :: _)) _ _; refine wl_ag (next := ?_)) | refine wl_nil ?_ | refine po_then ?_ | refine wc_seq ?_ | refine wc_region ?_ | refine wc_block ?_ | refine po_block ?_ | refine wc_ret ?_ | refine po_then_ret ?_ | refine po_block_ret ?_ | refine wc_exit ?_ | refine po_then_exit ?_ | refine po_block_exit ?_ | refine po_block_pass rfl ?_ | refine wc_skip ?_)
        refine wc_loop (fun s : Nat × W => s.1 ≤ m ∧ s.2 = behindL rows dn s.1) (fun s => [(23, true, .int .i64 s.1), (22, true, .int .i64 m), (7, true, u64 s.2), (19, true, .int .i64 k), (18, true, .int .i64 m), (5, true, u64 dn), (6, true, v), (1, true, .pointer (some ⟨ba, 0, none⟩))])
          (fun _ => Mem [(w, All)] [ownI v xs, .box ba [.int .i64 m, sv] 27]) (fun s => m - s.1) (0, 0#64) ⟨by simp, rfl⟩ ⟨rfl, rfl, rfl, rfl, rfl, rfl, rfl, rfl, trivial⟩ (fun _ h => h) ?_
        rintro ⟨i, bh⟩ ⟨hi, hbh⟩
        dsimp only at hi hbh ⊢
        repeat (first | (show KP _ (wpList _ _ _ (⟨some _, _, _, _, _, none⟩ :: _)) _ _; refine wl_a (next := ?_)) | (show KP _ (wpList _ _ _ (⟨some _, _, _, _, _, some _⟩ :: _)) _ _; refine wl_ag (next := ?_)) | refine wl_nil ?_ | refine po_then ?_ | refine wc_seq ?_ | refine wc_region ?_ | refine wc_block ?_ | refine po_block ?_ | refine wc_ret ?_ | refine po_then_ret ?_ | refine po_block_ret ?_ | refine wc_exit ?_ | refine po_then_exit ?_ | refine po_block_exit ?_ | refine po_block_pass rfl ?_ | refine wc_skip ?_)
        refine wc_cond_dec rfl (fun h3 => ?_) (fun h3 => ?_)
        · have hi2 : i < rows.length := by omega
          have hb := behindL_succ rows dn i
          rw [← hbh] at hb
          repeat (first | (show KP _ (wpList _ _ _ (⟨some _, _, _, _, _, none⟩ :: _)) _ _; refine wl_a (next := ?_)) | (show KP _ (wpList _ _ _ (⟨some _, _, _, _, _, some _⟩ :: _)) _ _; refine wl_ag (next := ?_)) | refine wl_nil ?_ | refine po_then ?_ | refine wc_seq ?_ | refine wc_region ?_ | refine wc_block ?_ | refine po_block ?_ | refine wc_ret ?_ | refine po_then_ret ?_ | refine po_block_ret ?_ | refine wc_exit ?_ | refine po_then_exit ?_ | refine po_block_exit ?_ | refine po_block_pass rfl ?_ | refine wc_skip ?_)
          refine wc_cond rfl (fun h4 => ?_) (fun h4 => ?_)
          · rw [dc_eq, nobit_eq _ i (by omega), Bool.not_eq_true'] at h4
            rw [if_neg (by rw [h4]; simp)] at hb
            repeat (first | (show KP _ (wpList _ _ _ (⟨some _, _, _, _, _, none⟩ :: _)) _ _; refine wl_a (next := ?_)) | (show KP _ (wpList _ _ _ (⟨some _, _, _, _, _, some _⟩ :: _)) _ _; refine wl_ag (next := ?_)) | refine wl_nil ?_ | refine po_then ?_ | refine wc_seq ?_ | refine wc_region ?_ | refine wc_block ?_ | refine po_block ?_ | refine wc_ret ?_ | refine po_then_ret ?_ | refine po_block_ret ?_ | refine wc_exit ?_ | refine po_then_exit ?_ | refine po_block_exit ?_ | refine po_block_pass rfl ?_ | refine wc_skip ?_)
            exact po_loop (i + 1, bh ||| rows.getD i default) ⟨by dsimp only; omega, hb.symm⟩ (by dsimp only; omega) ⟨rfl, rfl, rfl, rfl, rfl, rfl, rfl, rfl, trivial⟩ (fun _ h => h)
          · rw [dc_eq, nobit_eq _ i (by omega), Bool.not_eq_false'] at h4
            rw [if_pos h4] at hb
            repeat (first | (show KP _ (wpList _ _ _ (⟨some _, _, _, _, _, none⟩ :: _)) _ _; refine wl_a (next := ?_)) | (show KP _ (wpList _ _ _ (⟨some _, _, _, _, _, some _⟩ :: _)) _ _; refine wl_ag (next := ?_)) | refine wl_nil ?_ | refine po_then ?_ | refine wc_seq ?_ | refine wc_region ?_ | refine wc_block ?_ | refine po_block ?_ | refine wc_ret ?_ | refine po_then_ret ?_ | refine po_block_ret ?_ | refine wc_exit ?_ | refine po_then_exit ?_ | refine po_block_exit ?_ | refine po_block_pass rfl ?_ | refine wc_skip ?_)
            exact po_loop (i + 1, bh) ⟨by dsimp only; omega, hb.symm⟩ (by dsimp only; omega) ⟨rfl, rfl, rfl, rfl, rfl, rfl, rfl, rfl, trivial⟩ (fun _ h => h)
        · obtain rfl : i = m := by omega
          repeat (first | (show KP _ (wpList _ _ _ (⟨some _, _, _, _, _, none⟩ :: _)) _ _; refine wl_a (next := ?_)) | (show KP _ (wpList _ _ _ (⟨some _, _, _, _, _, some _⟩ :: _)) _ _; refine wl_ag (next := ?_)) | refine wl_nil ?_ | refine po_then ?_ | refine wc_seq ?_ | refine wc_region ?_ | refine wc_block ?_ | refine po_block ?_ | refine wc_ret ?_ | refine po_then_ret ?_ | refine po_block_ret ?_ | refine wc_exit ?_ | refine po_then_exit ?_ | refine po_block_exit ?_ | refine po_block_pass rfl ?_ | refine wc_skip ?_)
          refine wc_loop (fun j : Nat => j ≤ i ∧ ∀ q, q < j → (dn ||| bh).getLsbD q = true) (fun j => [(42, true, .int .i64 j), (41, true, .int .i64 i), (7, true, u64 bh), (19, true, .int .i64 k), (18, true, .int .i64 i), (5, true, u64 dn), (6, true, v), (1, true, .pointer (some ⟨ba, 0, none⟩))])
            (fun _ => Mem [(w, All)] [ownI v xs, .box ba [.int .i64 i, sv] 27]) (fun j => i - j) 0 ⟨by omega, fun q hq => by omega⟩ ⟨rfl, rfl, rfl, rfl, rfl, rfl, rfl, rfl, trivial⟩ (fun _ h => h) ?_
          rintro j ⟨hj, hall⟩
          repeat (first | (show KP _ (wpList _ _ _ (⟨some _, _, _, _, _, none⟩ :: _)) _ _; refine wl_a (next := ?_)) | (show KP _ (wpList _ _ _ (⟨some _, _, _, _, _, some _⟩ :: _)) _ _; refine wl_ag (next := ?_)) | refine wl_nil ?_ | refine po_then ?_ | refine wc_seq ?_ | refine wc_region ?_ | refine wc_block ?_ | refine po_block ?_ | refine wc_ret ?_ | refine po_then_ret ?_ | refine po_block_ret ?_ | refine wc_exit ?_ | refine po_then_exit ?_ | refine po_block_exit ?_ | refine po_block_pass rfl ?_ | refine wc_skip ?_)
          refine wc_cond_dec rfl (fun h5 => ?_) (fun h5 => ?_)
          · repeat (first | (show KP _ (wpList _ _ _ (⟨some _, _, _, _, _, none⟩ :: _)) _ _; refine wl_a (next := ?_)) | (show KP _ (wpList _ _ _ (⟨some _, _, _, _, _, some _⟩ :: _)) _ _; refine wl_ag (next := ?_)) | refine wl_nil ?_ | refine po_then ?_ | refine wc_seq ?_ | refine wc_region ?_ | refine wc_block ?_ | refine po_block ?_ | refine wc_ret ?_ | refine po_then_ret ?_ | refine po_block_ret ?_ | refine wc_exit ?_ | refine po_then_exit ?_ | refine po_block_exit ?_ | refine po_block_pass rfl ?_ | refine wc_skip ?_)
            refine wc_cond rfl (fun h6 => ?_) (fun h6 => ?_)
            · rw [dc_eq, nobit_eq _ j (by omega), Bool.not_eq_true'] at h6
              have hf := free_some i _ j (by omega) h6 hall
              unfold lstep at hs
              simp only [← hbh, hf] at hs
              repeat (first | (show KP _ (wpList _ _ _ (⟨some _, _, _, _, _, none⟩ :: _)) _ _; refine wl_a (next := ?_)) | (show KP _ (wpList _ _ _ (⟨some _, _, _, _, _, some _⟩ :: _)) _ _; refine wl_ag (next := ?_)) | refine wl_nil ?_ | refine po_then ?_ | refine wc_seq ?_ | refine wc_region ?_ | refine wc_block ?_ | refine po_block ?_ | refine wc_ret ?_ | refine po_then_ret ?_ | refine po_block_ret ?_ | refine wc_exit ?_ | refine po_then_exit ?_ | refine po_block_exit ?_ | refine po_block_pass rfl ?_ | refine wc_skip ?_)
              refine wl_fx (fx_lit (next := ?_)); intro v4 hv4
              repeat (first | (show KP _ (wpList _ _ _ (⟨some _, _, _, _, _, none⟩ :: _)) _ _; refine wl_a (next := ?_)) | (show KP _ (wpList _ _ _ (⟨some _, _, _, _, _, some _⟩ :: _)) _ _; refine wl_ag (next := ?_)) | refine wl_nil ?_ | refine po_then ?_ | refine wc_seq ?_ | refine wc_region ?_ | refine wc_block ?_ | refine po_block ?_ | refine wc_ret ?_ | refine po_then_ret ?_ | refine po_block_ret ?_ | refine wc_exit ?_ | refine po_then_exit ?_ | refine po_block_exit ?_ | refine po_block_pass rfl ?_ | refine wc_skip ?_)
              refine wl_fx (fx_append_own (k := 1) (hk := rfl) (hlen := by simp; omega) (next := ?_)); intro v5 hv5
              repeat (first | (show KP _ (wpList _ _ _ (⟨some _, _, _, _, _, none⟩ :: _)) _ _; refine wl_a (next := ?_)) | (show KP _ (wpList _ _ _ (⟨some _, _, _, _, _, some _⟩ :: _)) _ _; refine wl_ag (next := ?_)) | refine wl_nil ?_ | refine po_then ?_ | refine wc_seq ?_ | refine wc_region ?_ | refine wc_block ?_ | refine po_block ?_ | refine wc_ret ?_ | refine po_then_ret ?_ | refine po_block_ret ?_ | refine wc_exit ?_ | refine po_then_exit ?_ | refine po_block_exit ?_ | refine po_block_pass rfl ?_ | refine wc_skip ?_)
              rw [ofInt_toNat j (by omega)]
              exact po_loop (k + 1, dn ||| 1#64 <<< j, v5, xs ++ [(j : Int)]) ⟨by dsimp only; omega, hv5, hs.symm⟩ (by dsimp only; omega) ⟨rfl, rfl, rfl, rfl, rfl, trivial⟩ (fun _ h => h.sel [1, 2] rfl (by decide))
            · rw [dc_eq, nobit_eq _ j (by omega), Bool.not_eq_false'] at h6
              repeat (first | (show KP _ (wpList _ _ _ (⟨some _, _, _, _, _, none⟩ :: _)) _ _; refine wl_a (next := ?_)) | (show KP _ (wpList _ _ _ (⟨some _, _, _, _, _, some _⟩ :: _)) _ _; refine wl_ag (next := ?_)) | refine wl_nil ?_ | refine po_then ?_ | refine wc_seq ?_ | refine wc_region ?_ | refine wc_block ?_ | refine po_block ?_ | refine wc_ret ?_ | refine po_then_ret ?_ | refine po_block_ret ?_ | refine wc_exit ?_ | refine po_then_exit ?_ | refine po_block_exit ?_ | refine po_block_pass rfl ?_ | refine wc_skip ?_)
              refine po_loop (j + 1) ⟨by omega, fun q hq => ?_⟩ (by omega) ⟨rfl, rfl, rfl, rfl, rfl, rfl, rfl, rfl, trivial⟩ (fun _ h => h)
              by_cases hqj : q < j
              · exact hall q hqj
              · obtain rfl : q = j := by omega
                exact h6
          · have hf := free_none i (dn ||| bh) (fun q hq => hall q (by omega))
            unfold lstep at hs
            simp only [← hbh, hf] at hs
            repeat (first | (show KP _ (wpList _ _ _ (⟨some _, _, _, _, _, none⟩ :: _)) _ _; refine wl_a (next := ?_)) | (show KP _ (wpList _ _ _ (⟨some _, _, _, _, _, some _⟩ :: _)) _ _; refine wl_ag (next := ?_)) | refine wl_nil ?_ | refine po_then ?_ | refine wc_seq ?_ | refine wc_region ?_ | refine wc_block ?_ | refine po_block ?_ | refine wc_ret ?_ | refine po_then_ret ?_ | refine po_block_ret ?_ | refine wc_exit ?_ | refine po_then_exit ?_ | refine po_block_exit ?_ | refine po_block_pass rfl ?_ | refine wc_skip ?_)
            exact po_loop (k + 1, dn, v, xs) ⟨by dsimp only; omega, hv, hs.symm⟩ (by dsimp only; omega) ⟨rfl, rfl, rfl, rfl, rfl, trivial⟩ (fun _ h => h)
      · repeat (first | (show KP _ (wpList _ _ _ (⟨some _, _, _, _, _, none⟩ :: _)) _ _; refine wl_a (next := ?_)) | (show KP _ (wpList _ _ _ (⟨some _, _, _, _, _, some _⟩ :: _)) _ _; refine wl_ag (next := ?_)) | refine wl_nil ?_ | refine po_then ?_ | refine wc_seq ?_ | refine wc_region ?_ | refine wc_block ?_ | refine po_block ?_ | refine wc_ret ?_ | refine po_then_ret ?_ | refine po_block_ret ?_ | refine wc_exit ?_ | refine po_then_exit ?_ | refine po_block_exit ?_ | refine po_block_pass rfl ?_ | refine wc_skip ?_)
        refine mk_ret Tryd.results38 (.tmp rfl (.tmp rfl .nil)) (.head _) [ownI v xs] [0] rfl (by decide) fun w' hw => ?_
        rw [if_neg (by simpa using h1)]
        refine ⟨v, hv, rfl, ?_⟩
        unfold lineL
        obtain rfl : k = m := by omega
        rw [Int.toNat_natCast, ← hF]
  · simp only [if_neg hok]
    repeat (first | (show KP _ (wpList _ _ _ (⟨some _, _, _, _, _, none⟩ :: _)) _ _; refine wl_a (next := ?_)) | (show KP _ (wpList _ _ _ (⟨some _, _, _, _, _, some _⟩ :: _)) _ _; refine wl_ag (next := ?_)) | refine wl_nil ?_ | refine po_then ?_ | refine wc_seq ?_ | refine wc_region ?_ | refine wc_block ?_ | refine po_block ?_ | refine wc_ret ?_ | refine po_then_ret ?_ | refine po_block_ret ?_ | refine wc_exit ?_ | refine po_then_exit ?_ | refine po_block_exit ?_ | refine po_block_pass rfl ?_ | refine wc_skip ?_)
    refine wc_cond rfl (fun _ => ?_) (fun h1 => by simp [dc_eq] at h1)
    repeat (first | (show KP _ (wpList _ _ _ (⟨some _, _, _, _, _, none⟩ :: _)) _ _; refine wl_a (next := ?_)) | (show KP _ (wpList _ _ _ (⟨some _, _, _, _, _, some _⟩ :: _)) _ _; refine wl_ag (next := ?_)) | refine wl_nil ?_ | refine po_then ?_ | refine wc_seq ?_ | refine wc_region ?_ | refine wc_block ?_ | refine po_block ?_ | refine wc_ret ?_ | refine po_then_ret ?_ | refine po_block_ret ?_ | refine wc_exit ?_ | refine po_then_exit ?_ | refine po_block_exit ?_ | refine po_block_pass rfl ?_ | refine wc_skip ?_)
    refine mk_ret Tryd.results38 (.tmp rfl (.tmp rfl .nil)) (.tail _ (.head _)) [] [] rfl (by decide) fun w' hw => ?_
    exact ⟨rfl, rfl⟩
end Go.Proofs.YtpncpbdfomgcgaaDoor
