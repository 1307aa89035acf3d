/- The walks: Back (both), Pick (both). -/
import Derived.Test.YtpncpbdfomgcgaaDoorRelJ
import Derived.Test.YtpncpbdfomgcgaaDoorRelT
namespace Go.Proofs.YtpncpbdfomgcgaaDoor
open Go Go.Eng Go.Rl
attribute [local irreducible] wpList Code.wp bodyPost Exit.then Exit.inBlock Calls

def backL (m : Nat) (rows : List W) : List W := relOf m fun a b => bt rows b a

set_option maxHeartbeats 800000 in
theorem rback_spec (n : Int) (sv : Value) (rows : List W) (w : World) (h : Sl All w encW 1 sv rows) :
    Mk Tryd.prog 20 [.agg #[.int .i64 n, sv]] w fun _ v es _ =>
      if relOk n rows = true then ∃ sv', SV sv' ∧ v = .tuple #[.agg #[.int .i64 n, sv'], .int .i64 0] ∧ es = [ownW sv' (backL n.toNat rows)]
      else v = .tuple #[.agg #[.int .i64 0, .slice none 0 0], .int .i64 10] ∧ es = [] := by
  refine enter_mk Tryd.func20 Tryd.ntmps20 rfl rfl ?_
  repeat (first | (show KP _ (wpList _ _ _ (⟨some _, _, _, _, _, none⟩ :: _)) _ _; refine wl_a (next := ?_)) | (show KP _ (wpList _ _ _ (⟨some _, _, _, _, _, some _⟩ :: _)) _ _; refine wl_ag (next := ?_)) | refine wl_nil ?_ | refine po_then ?_ | refine wc_seq ?_ | refine wc_region ?_ | refine wc_block ?_ | refine po_block ?_ | refine wc_ret ?_ | refine po_then_ret ?_ | refine po_block_ret ?_ | refine wc_exit ?_ | refine po_then_exit ?_ | refine po_block_exit ?_ | refine po_block_pass rfl ?_ | refine wc_skip ?_)
  refine wl_fx (fx_box (next := ?_)); intro ba
  repeat (first | (show KP _ (wpList _ _ _ (⟨some _, _, _, _, _, none⟩ :: _)) _ _; refine wl_a (next := ?_)) | (show KP _ (wpList _ _ _ (⟨some _, _, _, _, _, some _⟩ :: _)) _ _; refine wl_ag (next := ?_)) | refine wl_nil ?_ | refine po_then ?_ | refine wc_seq ?_ | refine wc_region ?_ | refine wc_block ?_ | refine po_block ?_ | refine wc_ret ?_ | refine po_then_ret ?_ | refine po_block_ret ?_ | refine wc_exit ?_ | refine po_then_exit ?_ | refine po_block_exit ?_ | refine po_block_pass rfl ?_ | refine wc_skip ?_)
  refine wl_fx (fx_alloc (next := ?_)); intro br
  repeat (first | (show KP _ (wpList _ _ _ (⟨some _, _, _, _, _, none⟩ :: _)) _ _; refine wl_a (next := ?_)) | (show KP _ (wpList _ _ _ (⟨some _, _, _, _, _, some _⟩ :: _)) _ _; refine wl_ag (next := ?_)) | refine wl_nil ?_ | refine po_then ?_ | refine wc_seq ?_ | refine wc_region ?_ | refine wc_block ?_ | refine po_block ?_ | refine wc_ret ?_ | refine po_then_ret ?_ | refine po_block_ret ?_ | refine wc_exit ?_ | refine po_then_exit ?_ | refine po_block_exit ?_ | refine po_block_pass rfl ?_ | refine wc_skip ?_)
  refine wl_fx (fx_call (spec := fun w' hw => may_spec n sv rows w' (hw.now h (.head _))) (next := ?_))
  rintro v n1 w1 rfl hn1
  repeat (first | (show KP _ (wpList _ _ _ (⟨some _, _, _, _, _, none⟩ :: _)) _ _; refine wl_a (next := ?_)) | (show KP _ (wpList _ _ _ (⟨some _, _, _, _, _, some _⟩ :: _)) _ _; refine wl_ag (next := ?_)) | refine wl_nil ?_ | refine po_then ?_ | refine wc_seq ?_ | refine wc_region ?_ | refine wc_block ?_ | refine po_block ?_ | refine wc_ret ?_ | refine po_then_ret ?_ | refine po_block_ret ?_ | refine wc_exit ?_ | refine po_then_exit ?_ | refine po_block_exit ?_ | refine po_block_pass rfl ?_ | refine wc_skip ?_)
  refine wc_cond rfl (fun h1 => ?_) (fun h1 => ?_)
  · repeat (first | (show KP _ (wpList _ _ _ (⟨some _, _, _, _, _, none⟩ :: _)) _ _; refine wl_a (next := ?_)) | (show KP _ (wpList _ _ _ (⟨some _, _, _, _, _, some _⟩ :: _)) _ _; refine wl_ag (next := ?_)) | refine wl_nil ?_ | refine po_then ?_ | refine wc_seq ?_ | refine wc_region ?_ | refine wc_block ?_ | refine po_block ?_ | refine wc_ret ?_ | refine po_then_ret ?_ | refine po_block_ret ?_ | refine wc_exit ?_ | refine po_then_exit ?_ | refine po_block_exit ?_ | refine po_block_pass rfl ?_ | refine wc_skip ?_)
    refine wl_fx (fx_store_box (i := 0) (hi := rfl) (next := ?_))
    repeat (first | (show KP _ (wpList _ _ _ (⟨some _, _, _, _, _, none⟩ :: _)) _ _; refine wl_a (next := ?_)) | (show KP _ (wpList _ _ _ (⟨some _, _, _, _, _, some _⟩ :: _)) _ _; refine wl_ag (next := ?_)) | refine wl_nil ?_ | refine po_then ?_ | refine wc_seq ?_ | refine wc_region ?_ | refine wc_block ?_ | refine po_block ?_ | refine wc_ret ?_ | refine po_then_ret ?_ | refine po_block_ret ?_ | refine wc_exit ?_ | refine po_then_exit ?_ | refine po_block_exit ?_ | refine po_block_pass rfl ?_ | refine wc_skip ?_)
    refine mk_ret Tryd.results20 (.cellN inferInstance rfl (.head _) rfl (.tmp rfl .nil)) (.tail _ (.head _)) [] [] rfl (by decide) fun w' hw => ?_
    simp only [Bool.not_eq_true'] at h1
    rw [h1]; exact ⟨rfl, rfl⟩
  · simp only [Bool.not_eq_false'] at h1
    obtain ⟨m, rfl, hm64, hlen⟩ := relOk_nat h1
    repeat (first | (show KP _ (wpList _ _ _ (⟨some _, _, _, _, _, none⟩ :: _)) _ _; refine wl_a (next := ?_)) | (show KP _ (wpList _ _ _ (⟨some _, _, _, _, _, some _⟩ :: _)) _ _; refine wl_ag (next := ?_)) | refine wl_nil ?_ | refine po_then ?_ | refine wc_seq ?_ | refine wc_region ?_ | refine wc_block ?_ | refine po_block ?_ | refine wc_ret ?_ | refine po_then_ret ?_ | refine po_block_ret ?_ | refine wc_exit ?_ | refine po_then_exit ?_ | refine po_block_exit ?_ | refine po_block_pass rfl ?_ | refine wc_skip ?_)
    refine wl_fx (fx_call_mk (spec := fun w' _ => none_own m w' (by omega)) (next := ?_))
    rintro v n' es w1 ⟨sr, hsr, rfl, rfl⟩
    repeat (first | (show KP _ (wpList _ _ _ (⟨some _, _, _, _, _, none⟩ :: _)) _ _; refine wl_a (next := ?_)) | (show KP _ (wpList _ _ _ (⟨some _, _, _, _, _, some _⟩ :: _)) _ _; refine wl_ag (next := ?_)) | refine wl_nil ?_ | refine po_then ?_ | refine wc_seq ?_ | refine wc_region ?_ | refine wc_block ?_ | refine po_block ?_ | refine wc_ret ?_ | refine po_then_ret ?_ | refine po_block_ret ?_ | refine wc_exit ?_ | refine po_then_exit ?_ | refine po_block_exit ?_ | refine po_block_pass rfl ?_ | refine wc_skip ?_)
    refine wl_fx (fx_alloc (next := ?_)); intro b
    repeat (first | (show KP _ (wpList _ _ _ (⟨some _, _, _, _, _, none⟩ :: _)) _ _; refine wl_a (next := ?_)) | (show KP _ (wpList _ _ _ (⟨some _, _, _, _, _, some _⟩ :: _)) _ _; refine wl_ag (next := ?_)) | refine wl_nil ?_ | refine po_then ?_ | refine wc_seq ?_ | refine wc_region ?_ | refine wc_block ?_ | refine po_block ?_ | refine wc_ret ?_ | refine po_then_ret ?_ | refine po_block_ret ?_ | refine wc_exit ?_ | refine po_then_exit ?_ | refine po_block_exit ?_ | refine po_block_pass rfl ?_ | refine wc_skip ?_)
    refine wl_fx (fx_store_box (i := 0) (hi := rfl) (next := ?_))
    repeat (first | (show KP _ (wpList _ _ _ (⟨some _, _, _, _, _, none⟩ :: _)) _ _; refine wl_a (next := ?_)) | (show KP _ (wpList _ _ _ (⟨some _, _, _, _, _, some _⟩ :: _)) _ _; refine wl_ag (next := ?_)) | refine wl_nil ?_ | refine po_then ?_ | refine wc_seq ?_ | refine wc_region ?_ | refine wc_block ?_ | refine po_block ?_ | refine wc_ret ?_ | refine po_then_ret ?_ | refine po_block_ret ?_ | refine wc_exit ?_ | refine po_then_exit ?_ | refine po_block_exit ?_ | refine po_block_pass rfl ?_ | refine wc_skip ?_)
    refine wc_loop (fun s : Nat × List W => s.1 ≤ m ∧ s.2.length = m ∧ ∀ a c, bt s.2 a c = (decide (c < s.1) && decide (a < m) && bt rows c a)) (fun s => [(5, true, .int .i64 s.1), (4, true, .pointer (some ⟨b, 0, none⟩)), (2, true, .pointer (some ⟨br, 0, none⟩)), (1, true, .pointer (some ⟨ba, 0, none⟩))])
      (fun s => Mem [(w, All)] [.box b [.int .i64 m, sr] 27, ownW sr s.2, .box br [.int .i64 0, .slice none 0 0] 27, .box ba [.int .i64 m, sv] 27]) (fun s => m - s.1) (0, List.replicate m 0#64) ⟨by simp, by simp, fun a c => by simp [bt_zero]⟩ ⟨rfl, rfl, rfl, rfl, trivial⟩ (fun _ h => h.tailB.tailB) ?_
    rintro ⟨i, cur⟩ ⟨hi, hcl, hall⟩
    dsimp only at hi hcl hall ⊢
    repeat (first | (show KP _ (wpList _ _ _ (⟨some _, _, _, _, _, none⟩ :: _)) _ _; refine wl_a (next := ?_)) | (show KP _ (wpList _ _ _ (⟨some _, _, _, _, _, some _⟩ :: _)) _ _; refine wl_ag (next := ?_)) | refine wl_nil ?_ | refine po_then ?_ | refine wc_seq ?_ | refine wc_region ?_ | refine wc_block ?_ | refine po_block ?_ | refine wc_ret ?_ | refine po_then_ret ?_ | refine po_block_ret ?_ | refine wc_exit ?_ | refine po_then_exit ?_ | refine po_block_exit ?_ | refine po_block_pass rfl ?_ | refine wc_skip ?_)
    refine wc_cond_dec rfl (fun h2 => ?_) (fun h2 => ?_)
    · have hi2 : i < rows.length := by omega
      repeat (first | (show KP _ (wpList _ _ _ (⟨some _, _, _, _, _, none⟩ :: _)) _ _; refine wl_a (next := ?_)) | (show KP _ (wpList _ _ _ (⟨some _, _, _, _, _, some _⟩ :: _)) _ _; refine wl_ag (next := ?_)) | refine wl_nil ?_ | refine po_then ?_ | refine wc_seq ?_ | refine wc_region ?_ | refine wc_block ?_ | refine po_block ?_ | refine wc_ret ?_ | refine po_then_ret ?_ | refine po_block_ret ?_ | refine wc_exit ?_ | refine po_then_exit ?_ | refine po_block_exit ?_ | refine po_block_pass rfl ?_ | refine wc_skip ?_)
      refine wc_loop (fun s : Nat × List W => s.1 ≤ m ∧ s.2.length = m ∧ ∀ a c, bt s.2 a c = ((decide (c < i) && decide (a < m) || decide (c = i) && decide (a < s.1)) && bt rows c a)) (fun s => [(6, true, .int .i64 s.1), (5, true, .int .i64 i), (4, true, .pointer (some ⟨b, 0, none⟩)), (2, true, .pointer (some ⟨br, 0, none⟩)), (1, true, .pointer (some ⟨ba, 0, none⟩))])
        (fun s => Mem [(w, All)] [.box b [.int .i64 m, sr] 27, ownW sr s.2, .box br [.int .i64 0, .slice none 0 0] 27, .box ba [.int .i64 m, sv] 27]) (fun s => m - s.1) (0, cur) ⟨by simp, hcl, fun a c => by simp [hall]⟩ ⟨rfl, rfl, rfl, rfl, rfl, trivial⟩ (fun _ h => h) ?_
      rintro ⟨j, c2⟩ ⟨hj, hc2, hall2⟩
      dsimp only at hj hc2 hall2 ⊢
      repeat (first | (show KP _ (wpList _ _ _ (⟨some _, _, _, _, _, none⟩ :: _)) _ _; refine wl_a (next := ?_)) | (show KP _ (wpList _ _ _ (⟨some _, _, _, _, _, some _⟩ :: _)) _ _; refine wl_ag (next := ?_)) | refine wl_nil ?_ | refine po_then ?_ | refine wc_seq ?_ | refine wc_region ?_ | refine wc_block ?_ | refine po_block ?_ | refine wc_ret ?_ | refine po_then_ret ?_ | refine po_block_ret ?_ | refine wc_exit ?_ | refine po_then_exit ?_ | refine po_block_exit ?_ | refine po_block_pass rfl ?_ | refine wc_skip ?_)
      refine wc_cond_dec rfl (fun h3 => ?_) (fun h3 => ?_)
      · repeat (first | (show KP _ (wpList _ _ _ (⟨some _, _, _, _, _, none⟩ :: _)) _ _; refine wl_a (next := ?_)) | (show KP _ (wpList _ _ _ (⟨some _, _, _, _, _, some _⟩ :: _)) _ _; refine wl_ag (next := ?_)) | refine wl_nil ?_ | refine po_then ?_ | refine wc_seq ?_ | refine wc_region ?_ | refine wc_block ?_ | refine po_block ?_ | refine wc_ret ?_ | refine po_then_ret ?_ | refine po_block_ret ?_ | refine wc_exit ?_ | refine po_then_exit ?_ | refine po_block_exit ?_ | refine po_block_pass rfl ?_ | refine wc_skip ?_)
        refine wl_fx (fx_call (spec := fun w' _ => bit_spec _ j w' (by omega)) (next := ?_))
        rintro v3 n3 w3 rfl hn3
        repeat (first | (show KP _ (wpList _ _ _ (⟨some _, _, _, _, _, none⟩ :: _)) _ _; refine wl_a (next := ?_)) | (show KP _ (wpList _ _ _ (⟨some _, _, _, _, _, some _⟩ :: _)) _ _; refine wl_ag (next := ?_)) | refine wl_nil ?_ | refine po_then ?_ | refine wc_seq ?_ | refine wc_region ?_ | refine wc_block ?_ | refine po_block ?_ | refine wc_ret ?_ | refine po_then_ret ?_ | refine po_block_ret ?_ | refine wc_exit ?_ | refine po_then_exit ?_ | refine po_block_exit ?_ | refine po_block_pass rfl ?_ | refine wc_skip ?_)
        refine wc_cond rfl (fun h4 => ?_) (fun h4 => ?_)
        · repeat (first | (show KP _ (wpList _ _ _ (⟨some _, _, _, _, _, none⟩ :: _)) _ _; refine wl_a (next := ?_)) | (show KP _ (wpList _ _ _ (⟨some _, _, _, _, _, some _⟩ :: _)) _ _; refine wl_ag (next := ?_)) | refine wl_nil ?_ | refine po_then ?_ | refine wc_seq ?_ | refine wc_region ?_ | refine wc_block ?_ | refine po_block ?_ | refine wc_ret ?_ | refine po_then_ret ?_ | refine po_block_ret ?_ | refine wc_exit ?_ | refine po_then_exit ?_ | refine po_block_exit ?_ | refine po_block_pass rfl ?_ | refine wc_skip ?_)
          refine wl_fx (fx_call_mu 1 rfl (spec := fun w' hw => with_spec m sr c2 j i w' (by omega) (by omega) hsr (hw.only (.tail _ (.head _)))) (next := ?_))
          rintro v n4 e' w4 ⟨rfl, rfl⟩
          repeat (first | (show KP _ (wpList _ _ _ (⟨some _, _, _, _, _, none⟩ :: _)) _ _; refine wl_a (next := ?_)) | (show KP _ (wpList _ _ _ (⟨some _, _, _, _, _, some _⟩ :: _)) _ _; refine wl_ag (next := ?_)) | refine wl_nil ?_ | refine po_then ?_ | refine wc_seq ?_ | refine wc_region ?_ | refine wc_block ?_ | refine po_block ?_ | refine wc_ret ?_ | refine po_then_ret ?_ | refine po_block_ret ?_ | refine wc_exit ?_ | refine po_then_exit ?_ | refine po_block_exit ?_ | refine po_block_pass rfl ?_ | refine wc_skip ?_)
          refine wl_fx (fx_store_box (i := 0) (hi := rfl) (next := ?_))
          repeat (first | (show KP _ (wpList _ _ _ (⟨some _, _, _, _, _, none⟩ :: _)) _ _; refine wl_a (next := ?_)) | (show KP _ (wpList _ _ _ (⟨some _, _, _, _, _, some _⟩ :: _)) _ _; refine wl_ag (next := ?_)) | refine wl_nil ?_ | refine po_then ?_ | refine wc_seq ?_ | refine wc_region ?_ | refine wc_block ?_ | refine po_block ?_ | refine wc_ret ?_ | refine po_then_ret ?_ | refine po_block_ret ?_ | refine wc_exit ?_ | refine po_then_exit ?_ | refine po_block_exit ?_ | refine po_block_pass rfl ?_ | refine wc_skip ?_)
          refine po_loop (j + 1, put c2 j i) ⟨by dsimp only; omega, by simp [put_length, hc2], fun a c => ?_⟩ (by dsimp only; omega) ⟨rfl, rfl, rfl, rfl, rfl, trivial⟩ (fun _ h => h.tailB)
          dsimp only
          rw [put_bit c2 j i a c (by omega) (by omega), hall2]
          by_cases hc : c = i
          · subst hc
            by_cases ha : a = j
            · subst ha; have : bt rows c a = true := h4; simp [this]
            · have : decide (a < j + 1) = decide (a < j) := decide_eq_decide.2 (by omega)
              simp [ha, this]
          · simp [hc]
        · repeat (first | (show KP _ (wpList _ _ _ (⟨some _, _, _, _, _, none⟩ :: _)) _ _; refine wl_a (next := ?_)) | (show KP _ (wpList _ _ _ (⟨some _, _, _, _, _, some _⟩ :: _)) _ _; refine wl_ag (next := ?_)) | refine wl_nil ?_ | refine po_then ?_ | refine wc_seq ?_ | refine wc_region ?_ | refine wc_block ?_ | refine po_block ?_ | refine wc_ret ?_ | refine po_then_ret ?_ | refine po_block_ret ?_ | refine wc_exit ?_ | refine po_then_exit ?_ | refine po_block_exit ?_ | refine po_block_pass rfl ?_ | refine wc_skip ?_)
          refine po_loop (j + 1, c2) ⟨by dsimp only; omega, hc2, fun a c => ?_⟩ (by dsimp only; omega) ⟨rfl, rfl, rfl, rfl, rfl, trivial⟩ (fun _ h => h.tailB)
          dsimp only
          rw [hall2]
          by_cases hc : c = i
          · subst hc
            by_cases ha : a = j
            · subst ha; have : bt rows c a = false := h4; simp [this]
            · have : decide (a < j + 1) = decide (a < j) := decide_eq_decide.2 (by omega)
              simp [this]
          · simp [hc]
      · repeat (first | (show KP _ (wpList _ _ _ (⟨some _, _, _, _, _, none⟩ :: _)) _ _; refine wl_a (next := ?_)) | (show KP _ (wpList _ _ _ (⟨some _, _, _, _, _, some _⟩ :: _)) _ _; refine wl_ag (next := ?_)) | refine wl_nil ?_ | refine po_then ?_ | refine wc_seq ?_ | refine wc_region ?_ | refine wc_block ?_ | refine po_block ?_ | refine wc_ret ?_ | refine po_then_ret ?_ | refine po_block_ret ?_ | refine wc_exit ?_ | refine po_then_exit ?_ | refine po_block_exit ?_ | refine po_block_pass rfl ?_ | refine wc_skip ?_)
        refine po_loop (i + 1, c2) ⟨by dsimp only; omega, hc2, fun a c => ?_⟩ (by dsimp only; omega) ⟨rfl, rfl, rfl, rfl, trivial⟩ (fun _ h => h)
        dsimp only
        rw [hall2, show j = m from by omega]
        by_cases hc : c = i
        · subst hc; simp
        · have : decide (c < i + 1) = decide (c < i) := decide_eq_decide.2 (by omega)
          simp [hc, this]
    · repeat (first | (show KP _ (wpList _ _ _ (⟨some _, _, _, _, _, none⟩ :: _)) _ _; refine wl_a (next := ?_)) | (show KP _ (wpList _ _ _ (⟨some _, _, _, _, _, some _⟩ :: _)) _ _; refine wl_ag (next := ?_)) | refine wl_nil ?_ | refine po_then ?_ | refine wc_seq ?_ | refine wc_region ?_ | refine wc_block ?_ | refine po_block ?_ | refine wc_ret ?_ | refine po_then_ret ?_ | refine po_block_ret ?_ | refine wc_exit ?_ | refine po_then_exit ?_ | refine po_block_exit ?_ | refine po_block_pass rfl ?_ | refine wc_skip ?_)
      refine wl_fx (fx_store_box (i := 2) (hi := rfl) (next := ?_))
      repeat (first | (show KP _ (wpList _ _ _ (⟨some _, _, _, _, _, none⟩ :: _)) _ _; refine wl_a (next := ?_)) | (show KP _ (wpList _ _ _ (⟨some _, _, _, _, _, some _⟩ :: _)) _ _; refine wl_ag (next := ?_)) | refine wl_nil ?_ | refine po_then ?_ | refine wc_seq ?_ | refine wc_region ?_ | refine wc_block ?_ | refine po_block ?_ | refine wc_ret ?_ | refine po_then_ret ?_ | refine po_block_ret ?_ | refine wc_exit ?_ | refine po_then_exit ?_ | refine po_block_exit ?_ | refine po_block_pass rfl ?_ | refine wc_skip ?_)
      refine mk_ret Tryd.results20 (.cellN inferInstance rfl (.tail _ (.tail _ (.head _))) rfl (.tmp rfl .nil)) (.head _) [ownW sr cur] [1] rfl (by decide) fun w' hw => ?_
      rw [if_pos h1]
      refine ⟨sr, hsr, rfl, ?_⟩
      have : cur = backL m rows := bt_ext (by simp [hcl, backL, relOf]) fun a c ha hc => by
        unfold backL
        rw [hall, relOf_bit _ _ hm64, show i = m from by omega]
        simp [Bool.and_comm, Bool.and_assoc]
      rw [this]; rfl

def backRow (rows : List W) (i : Nat) (n : Nat) : W := (List.range n).foldl (fun r j => r ||| (rows.getD j default >>> i &&& 1#64) <<< j) 0#64
theorem backRow_succ (rows : List W) (i n : Nat) : backRow rows i (n + 1) = backRow rows i n ||| (rows.getD n default >>> i &&& 1#64) <<< n := by
  unfold backRow; rw [List.range_succ, List.foldl_append]; rfl

theorem back1_spec (i m : Nat) (ba : Nat) (sv : Value) (rows : List W) (w : World) (h64 : m ≤ 64) (hlen : rows.length = m) (hi : i < m) (hb : Bx All w ba [.int .i64 m, sv]) (h : Sl All w encW 1 sv rows) :
    Pur Tryd.prog 51 [.int .i64 i, .pointer (some ⟨ba, 0, none⟩)] w fun _ v _ => v = u64 (backRow rows i m) := by
  refine enter_pur Tryd.func51 Tryd.ntmps51 rfl rfl ?_
  repeat (first | (show KP _ (wpList _ _ _ (⟨some _, _, _, _, _, none⟩ :: _)) _ _; refine wl_a (next := ?_)) | (show KP _ (wpList _ _ _ (⟨some _, _, _, _, _, some _⟩ :: _)) _ _; refine wl_ag (next := ?_)) | refine wl_nil ?_ | refine po_then ?_ | refine wc_seq ?_ | refine wc_region ?_ | refine wc_block ?_ | refine po_block ?_ | refine wc_ret ?_ | refine po_then_ret ?_ | refine po_block_ret ?_ | refine wc_exit ?_ | refine po_then_exit ?_ | refine po_block_exit ?_ | refine po_block_pass rfl ?_ | refine wc_skip ?_)
  refine wc_loop (fun s : Nat × W => s.1 ≤ m ∧ s.2 = backRow rows i s.1) (fun s => [(8, true, .int .i64 s.1), (7, true, .int .i64 m), (4, true, u64 s.2), (0, true, .int .i64 i), (1, true, .pointer (some ⟨ba, 0, none⟩))])
    (fun _ => Mem [(w, All)] []) (fun s => m - s.1) (0, 0#64) ⟨by simp, rfl⟩ ⟨rfl, rfl, rfl, rfl, rfl, trivial⟩ (fun _ h => h) ?_
  rintro ⟨j, r⟩ ⟨hj, hr⟩
  dsimp only at hj hr ⊢
  repeat (first | (show KP _ (wpList _ _ _ (⟨some _, _, _, _, _, none⟩ :: _)) _ _; refine wl_a (next := ?_)) | (show KP _ (wpList _ _ _ (⟨some _, _, _, _, _, some _⟩ :: _)) _ _; refine wl_ag (next := ?_)) | refine wl_nil ?_ | refine po_then ?_ | refine wc_seq ?_ | refine wc_region ?_ | refine wc_block ?_ | refine po_block ?_ | refine wc_ret ?_ | refine po_then_ret ?_ | refine po_block_ret ?_ | refine wc_exit ?_ | refine po_then_exit ?_ | refine po_block_exit ?_ | refine po_block_pass rfl ?_ | refine wc_skip ?_)
  refine wc_cond_dec rfl (fun h2 => ?_) (fun h2 => ?_)
  · have hj2 : j < rows.length := by omega
    repeat (first | (show KP _ (wpList _ _ _ (⟨some _, _, _, _, _, none⟩ :: _)) _ _; refine wl_a (next := ?_)) | (show KP _ (wpList _ _ _ (⟨some _, _, _, _, _, some _⟩ :: _)) _ _; refine wl_ag (next := ?_)) | refine wl_nil ?_ | refine po_then ?_ | refine wc_seq ?_ | refine wc_region ?_ | refine wc_block ?_ | refine po_block ?_ | refine wc_ret ?_ | refine po_then_ret ?_ | refine po_block_ret ?_ | refine wc_exit ?_ | refine po_then_exit ?_ | refine po_block_exit ?_ | refine po_block_pass rfl ?_ | refine wc_skip ?_)
    rw [ofInt_toNat i (by omega), ofInt_toNat j (by omega)]
    exact po_loop (j + 1, r ||| (rows.getD j default >>> i &&& 1#64) <<< j) ⟨by dsimp only; omega, by dsimp only; rw [backRow_succ, hr]⟩ (by dsimp only; omega) ⟨rfl, rfl, rfl, rfl, rfl, trivial⟩ (fun _ h => h)
  · repeat (first | (show KP _ (wpList _ _ _ (⟨some _, _, _, _, _, none⟩ :: _)) _ _; refine wl_a (next := ?_)) | (show KP _ (wpList _ _ _ (⟨some _, _, _, _, _, some _⟩ :: _)) _ _; refine wl_ag (next := ?_)) | refine wl_nil ?_ | refine po_then ?_ | refine wc_seq ?_ | refine wc_region ?_ | refine wc_block ?_ | refine po_block ?_ | refine wc_ret ?_ | refine po_then_ret ?_ | refine po_block_ret ?_ | refine wc_exit ?_ | refine po_then_exit ?_ | refine po_block_exit ?_ | refine po_block_pass rfl ?_ | refine wc_skip ?_)
    refine pur_ret Tryd.results51 (.tmp rfl .nil) (.head _) fun w' hw => ?_
    rw [hr, show j = m from by omega]; rfl
end Go.Proofs.YtpncpbdfomgcgaaDoor
