/- The walks: made, closed, Plus, turns. -/
import Derived.Test.YtpncpbdfomgcgaaDoorRelE
namespace Go.Proofs.YtpncpbdfomgcgaaDoor
open Go Go.Eng Go.Rl
attribute [local irreducible] wpList Code.wp bodyPost Exit.then Exit.inBlock Calls

set_option maxHeartbeats 400000 in
theorem made_spec (m : Nat) (kf : Nat) [FN Tryd.prog kf] (cap : List Value) (f : Nat → W) (w : World) (h64 : m ≤ 64)
    (hk : ∀ i w', i < m → Mem [(w, All)] [] w' → Pur Tryd.prog kf (.int .i64 (i : Nat) :: cap) w' fun _ v _ => v = u64 (f i)) :
    Mk Tryd.prog 50 [.int .i64 m, .func (.func kf) #[] cap.toArray] w fun _ v es _ => ∃ sv, SV sv ∧ v = .agg #[.int .i64 m, sv] ∧ es = [ownW sv ((List.range m).map f)] := by
  refine enter_mk Tryd.func50 Tryd.ntmps50 rfl rfl ?_
  repeat (first | (show KP _ (wpList _ _ _ (⟨some _, _, _, _, _, none⟩ :: _)) _ _; refine wl_a (next := ?_)) | (show KP _ (wpList _ _ _ (⟨some _, _, _, _, _, some _⟩ :: _)) _ _; refine wl_ag (next := ?_)) | refine wl_nil ?_ | refine po_then ?_ | refine wc_seq ?_ | refine wc_region ?_ | refine wc_block ?_ | refine po_block ?_ | refine wc_ret ?_ | refine po_then_ret ?_ | refine po_block_ret ?_ | refine wc_exit ?_ | refine po_then_exit ?_ | refine po_block_exit ?_ | refine po_block_pass rfl ?_ | refine wc_skip ?_)
  refine wl_fx (fx_alloc (next := ?_)); intro br
  repeat (first | (show KP _ (wpList _ _ _ (⟨some _, _, _, _, _, none⟩ :: _)) _ _; refine wl_a (next := ?_)) | (show KP _ (wpList _ _ _ (⟨some _, _, _, _, _, some _⟩ :: _)) _ _; refine wl_ag (next := ?_)) | refine wl_nil ?_ | refine po_then ?_ | refine wc_seq ?_ | refine wc_region ?_ | refine wc_block ?_ | refine po_block ?_ | refine wc_ret ?_ | refine po_then_ret ?_ | refine po_block_ret ?_ | refine wc_exit ?_ | refine po_then_exit ?_ | refine po_block_exit ?_ | refine po_block_pass rfl ?_ | refine wc_skip ?_)
  refine wl_fx (fx_make (next := ?_)); intro sv hv
  repeat (first | (show KP _ (wpList _ _ _ (⟨some _, _, _, _, _, none⟩ :: _)) _ _; refine wl_a (next := ?_)) | (show KP _ (wpList _ _ _ (⟨some _, _, _, _, _, some _⟩ :: _)) _ _; refine wl_ag (next := ?_)) | refine wl_nil ?_ | refine po_then ?_ | refine wc_seq ?_ | refine wc_region ?_ | refine wc_block ?_ | refine po_block ?_ | refine wc_ret ?_ | refine po_then_ret ?_ | refine po_block_ret ?_ | refine wc_exit ?_ | refine po_then_exit ?_ | refine po_block_exit ?_ | refine po_block_pass rfl ?_ | refine wc_skip ?_)
  refine wl_fx (fx_alloc (next := ?_)); intro b
  repeat (first | (show KP _ (wpList _ _ _ (⟨some _, _, _, _, _, none⟩ :: _)) _ _; refine wl_a (next := ?_)) | (show KP _ (wpList _ _ _ (⟨some _, _, _, _, _, some _⟩ :: _)) _ _; refine wl_ag (next := ?_)) | refine wl_nil ?_ | refine po_then ?_ | refine wc_seq ?_ | refine wc_region ?_ | refine wc_block ?_ | refine po_block ?_ | refine wc_ret ?_ | refine po_then_ret ?_ | refine po_block_ret ?_ | refine wc_exit ?_ | refine po_then_exit ?_ | refine po_block_exit ?_ | refine po_block_pass rfl ?_ | refine wc_skip ?_)
  refine wl_fx (fx_store_box (i := 0) (hi := rfl) (next := ?_))
  repeat (first | (show KP _ (wpList _ _ _ (⟨some _, _, _, _, _, none⟩ :: _)) _ _; refine wl_a (next := ?_)) | (show KP _ (wpList _ _ _ (⟨some _, _, _, _, _, some _⟩ :: _)) _ _; refine wl_ag (next := ?_)) | refine wl_nil ?_ | refine po_then ?_ | refine wc_seq ?_ | refine wc_region ?_ | refine wc_block ?_ | refine po_block ?_ | refine wc_ret ?_ | refine po_then_ret ?_ | refine po_block_ret ?_ | refine wc_exit ?_ | refine po_then_exit ?_ | refine po_block_exit ?_ | refine po_block_pass rfl ?_ | refine wc_skip ?_)
  refine wc_loop (fun s : Nat × List W => s.1 ≤ m ∧ s.2.length = m ∧ ∀ i, i < s.1 → s.2.getD i default = f i) (fun s => [(12, true, .int .i64 s.1), (11, true, .int .i64 m), (5, true, .pointer (some ⟨b, 0, none⟩)), (4, true, .pointer (some ⟨br, 0, none⟩)), (1, true, .func (.func kf) #[] cap.toArray)])
    (fun s => Mem [(w, All)] [.box b [.int .i64 m, sv] 27, ownW sv s.2, .box br [.int .i64 0, .slice none 0 0] 27]) (fun s => m - s.1) (0, List.replicate m 0#64) ⟨by simp, by simp, fun i hi => by simp at hi⟩ ⟨rfl, rfl, rfl, rfl, rfl, trivial⟩ (fun _ h => h) ?_
  rintro ⟨k, rows⟩ ⟨hk1, hlen, hall⟩
  dsimp only at hk1 hlen hall ⊢
  repeat (first | (show KP _ (wpList _ _ _ (⟨some _, _, _, _, _, none⟩ :: _)) _ _; refine wl_a (next := ?_)) | (show KP _ (wpList _ _ _ (⟨some _, _, _, _, _, some _⟩ :: _)) _ _; refine wl_ag (next := ?_)) | refine wl_nil ?_ | refine po_then ?_ | refine wc_seq ?_ | refine wc_region ?_ | refine wc_block ?_ | refine po_block ?_ | refine wc_ret ?_ | refine po_then_ret ?_ | refine po_block_ret ?_ | refine wc_exit ?_ | refine po_then_exit ?_ | refine po_block_exit ?_ | refine po_block_pass rfl ?_ | refine wc_skip ?_)
  refine wc_cond_dec rfl (fun h2 => ?_) (fun h2 => ?_)
  · repeat (first | (show KP _ (wpList _ _ _ (⟨some _, _, _, _, _, none⟩ :: _)) _ _; refine wl_a (next := ?_)) | (show KP _ (wpList _ _ _ (⟨some _, _, _, _, _, some _⟩ :: _)) _ _; refine wl_ag (next := ?_)) | refine wl_nil ?_ | refine po_then ?_ | refine wc_seq ?_ | refine wc_region ?_ | refine wc_block ?_ | refine po_block ?_ | refine wc_ret ?_ | refine po_then_ret ?_ | refine po_block_ret ?_ | refine wc_exit ?_ | refine po_then_exit ?_ | refine po_block_exit ?_ | refine po_block_pass rfl ?_ | refine wc_skip ?_)
    refine wc_draw [0, 1, 2, 3, 4, 5, 6, 7] mixed ?_
    repeat (first | refine kg_a (next := ?_) | refine kg_ag (next := ?_) | refine kg_end (h := ?_))
    refine kg_f _ (h := fx_call (spec := fun w' hw' => hk k w' (by omega) (hw'.sel [] rfl (by decide))) (next := ?_)) (hSS := fun _ h => h)
    rintro v n2 w2 rfl hn2
    refine kp_S ?_ (fun _ h => h.tailB)
    repeat (first | refine kg_a (next := ?_) | refine kg_ag (next := ?_) | refine kg_end (h := ?_))
    refine kg_z (h := fx_store_own (k := 1) (hk := rfl) (next := ?_))
    repeat (first | (show KP _ (wpList _ _ _ (⟨some _, _, _, _, _, none⟩ :: _)) _ _; refine wl_a (next := ?_)) | (show KP _ (wpList _ _ _ (⟨some _, _, _, _, _, some _⟩ :: _)) _ _; refine wl_ag (next := ?_)) | refine wl_nil ?_ | refine po_then ?_ | refine wc_seq ?_ | refine wc_region ?_ | refine wc_block ?_ | refine po_block ?_ | refine wc_ret ?_ | refine po_then_ret ?_ | refine po_block_ret ?_ | refine wc_exit ?_ | refine po_then_exit ?_ | refine po_block_exit ?_ | refine po_block_pass rfl ?_ | refine wc_skip ?_)
    refine po_loop (k + 1, rows.set k (f k)) ⟨by dsimp only; omega, by simp [hlen], fun i hi => ?_⟩ (by dsimp only; omega) ⟨rfl, rfl, rfl, rfl, rfl, trivial⟩ (fun _ h => h.tailB)
    dsimp only at hi ⊢
    rw [List.getD_eq_getElem?_getD, List.getElem?_set]
    by_cases hik : k = i
    · subst hik; simp [show k < rows.length from by omega]
    · rw [if_neg hik, ← List.getD_eq_getElem?_getD]; exact hall i (by omega)
  · repeat (first | (show KP _ (wpList _ _ _ (⟨some _, _, _, _, _, none⟩ :: _)) _ _; refine wl_a (next := ?_)) | (show KP _ (wpList _ _ _ (⟨some _, _, _, _, _, some _⟩ :: _)) _ _; refine wl_ag (next := ?_)) | refine wl_nil ?_ | refine po_then ?_ | refine wc_seq ?_ | refine wc_region ?_ | refine wc_block ?_ | refine po_block ?_ | refine wc_ret ?_ | refine po_then_ret ?_ | refine po_block_ret ?_ | refine wc_exit ?_ | refine po_then_exit ?_ | refine po_block_exit ?_ | refine po_block_pass rfl ?_ | refine wc_skip ?_)
    refine wl_fx (fx_store_box (i := 2) (hi := rfl) (next := ?_))
    repeat (first | (show KP _ (wpList _ _ _ (⟨some _, _, _, _, _, none⟩ :: _)) _ _; refine wl_a (next := ?_)) | (show KP _ (wpList _ _ _ (⟨some _, _, _, _, _, some _⟩ :: _)) _ _; refine wl_ag (next := ?_)) | refine wl_nil ?_ | refine po_then ?_ | refine wc_seq ?_ | refine wc_region ?_ | refine wc_block ?_ | refine po_block ?_ | refine wc_ret ?_ | refine po_then_ret ?_ | refine po_block_ret ?_ | refine wc_exit ?_ | refine po_then_exit ?_ | refine po_block_exit ?_ | refine po_block_pass rfl ?_ | refine wc_skip ?_)
    refine mk_ret Tryd.results50 (.cellN inferInstance rfl (.tail _ (.tail _ (.head _))) rfl .nil) (.head _) [ownW sv rows] [1] rfl (by decide) fun w' hw => ?_
    refine ⟨sv, hv, rfl, ?_⟩
    rw [getD_eq_of (xs := rows) (ys := (List.range m).map f) (by simp [hlen]) fun i hi => by
      rw [hall i (by omega), List.getD_eq_getElem?_getD, List.getElem?_map, List.getElem?_range (by omega)]; rfl]

theorem closed1_spec (i m : Nat) (ba : Nat) (sv : Value) (rows : List W) (w : World) (hi : i < rows.length) (hb : Bx All w ba [.int .i64 m, sv]) (h : Sl All w encW 1 sv rows) :
    Pur Tryd.prog 67 [.int .i64 i, .pointer (some ⟨ba, 0, none⟩)] w fun _ v _ => v = u64 (rows.getD i default) := by
  refine enter_pur Tryd.func67 Tryd.ntmps67 rfl rfl ?_
  repeat (first | (show KP _ (wpList _ _ _ (⟨some _, _, _, _, _, none⟩ :: _)) _ _; refine wl_a (next := ?_)) | (show KP _ (wpList _ _ _ (⟨some _, _, _, _, _, some _⟩ :: _)) _ _; refine wl_ag (next := ?_)) | refine wl_nil ?_ | refine po_then ?_ | refine wc_seq ?_ | refine wc_region ?_ | refine wc_block ?_ | refine po_block ?_ | refine wc_ret ?_ | refine po_then_ret ?_ | refine po_block_ret ?_ | refine wc_exit ?_ | refine po_then_exit ?_ | refine po_block_exit ?_ | refine po_block_pass rfl ?_ | refine wc_skip ?_)
  exact pur_ret Tryd.results67 (.tmp rfl .nil) (.head _) fun w' hw => rfl

set_option maxHeartbeats 400000 in
theorem closed_spec (m : Nat) (sv : Value) (rows : List W) (w : World) (h : Sl All w encW 1 sv rows) (h64 : m ≤ 64) (hlen : rows.length = m) :
    Mk Tryd.prog 52 [.agg #[.int .i64 m, sv]] w fun _ v es _ => ∃ sv', SV sv' ∧ v = .agg #[.int .i64 m, sv'] ∧ es = [ownW sv' (closedL m rows)] := by
  refine enter_mk Tryd.func52 Tryd.ntmps52 rfl rfl ?_
  repeat (first | (show KP _ (wpList _ _ _ (⟨some _, _, _, _, _, none⟩ :: _)) _ _; refine wl_a (next := ?_)) | (show KP _ (wpList _ _ _ (⟨some _, _, _, _, _, some _⟩ :: _)) _ _; refine wl_ag (next := ?_)) | refine wl_nil ?_ | refine po_then ?_ | refine wc_seq ?_ | refine wc_region ?_ | refine wc_block ?_ | refine po_block ?_ | refine wc_ret ?_ | refine po_then_ret ?_ | refine po_block_ret ?_ | refine wc_exit ?_ | refine po_then_exit ?_ | refine po_block_exit ?_ | refine po_block_pass rfl ?_ | refine wc_skip ?_)
  refine wl_fx (fx_box (next := ?_)); intro ba
  repeat (first | (show KP _ (wpList _ _ _ (⟨some _, _, _, _, _, none⟩ :: _)) _ _; refine wl_a (next := ?_)) | (show KP _ (wpList _ _ _ (⟨some _, _, _, _, _, some _⟩ :: _)) _ _; refine wl_ag (next := ?_)) | refine wl_nil ?_ | refine po_then ?_ | refine wc_seq ?_ | refine wc_region ?_ | refine wc_block ?_ | refine po_block ?_ | refine wc_ret ?_ | refine po_then_ret ?_ | refine po_block_ret ?_ | refine wc_exit ?_ | refine po_then_exit ?_ | refine po_block_exit ?_ | refine po_block_pass rfl ?_ | refine wc_skip ?_)
  refine wl_fx (fx_alloc (next := ?_)); intro br
  repeat (first | (show KP _ (wpList _ _ _ (⟨some _, _, _, _, _, none⟩ :: _)) _ _; refine wl_a (next := ?_)) | (show KP _ (wpList _ _ _ (⟨some _, _, _, _, _, some _⟩ :: _)) _ _; refine wl_ag (next := ?_)) | refine wl_nil ?_ | refine po_then ?_ | refine wc_seq ?_ | refine wc_region ?_ | refine wc_block ?_ | refine po_block ?_ | refine wc_ret ?_ | refine po_then_ret ?_ | refine po_block_ret ?_ | refine wc_exit ?_ | refine po_then_exit ?_ | refine po_block_exit ?_ | refine po_block_pass rfl ?_ | refine wc_skip ?_)
  refine wl_fx (fx_call_mk (spec := fun w' hw => made_spec m 67 [.pointer (some ⟨ba, 0, none⟩)] (fun i => rows.getD i default) w' h64 (fun i w2 hi hw2 =>
    closed1_spec i m ba sv rows w2 (by omega) ((hw.bx (.tail _ (.head _)) trivial).mono (hw2.base _ (.head _)) (fun _ => trivial)) (hw2.now (hw.now h (.head _)) (.head _)))) (next := ?_))
  rintro v n es w1 ⟨s1, hs1, rfl, rfl⟩
  rw [map_getD m rows hlen]
  repeat (first | (show KP _ (wpList _ _ _ (⟨some _, _, _, _, _, none⟩ :: _)) _ _; refine wl_a (next := ?_)) | (show KP _ (wpList _ _ _ (⟨some _, _, _, _, _, some _⟩ :: _)) _ _; refine wl_ag (next := ?_)) | refine wl_nil ?_ | refine po_then ?_ | refine wc_seq ?_ | refine wc_region ?_ | refine wc_block ?_ | refine po_block ?_ | refine wc_ret ?_ | refine po_then_ret ?_ | refine po_block_ret ?_ | refine wc_exit ?_ | refine po_then_exit ?_ | refine po_block_exit ?_ | refine po_block_pass rfl ?_ | refine wc_skip ?_)
  refine wl_fx (fx_alloc (next := ?_)); intro bo
  repeat (first | (show KP _ (wpList _ _ _ (⟨some _, _, _, _, _, none⟩ :: _)) _ _; refine wl_a (next := ?_)) | (show KP _ (wpList _ _ _ (⟨some _, _, _, _, _, some _⟩ :: _)) _ _; refine wl_ag (next := ?_)) | refine wl_nil ?_ | refine po_then ?_ | refine wc_seq ?_ | refine wc_region ?_ | refine wc_block ?_ | refine po_block ?_ | refine wc_ret ?_ | refine po_then_ret ?_ | refine po_block_ret ?_ | refine wc_exit ?_ | refine po_then_exit ?_ | refine po_block_exit ?_ | refine po_block_pass rfl ?_ | refine wc_skip ?_)
  refine wl_fx (fx_store_box (i := 0) (hi := rfl) (next := ?_))
  repeat (first | (show KP _ (wpList _ _ _ (⟨some _, _, _, _, _, none⟩ :: _)) _ _; refine wl_a (next := ?_)) | (show KP _ (wpList _ _ _ (⟨some _, _, _, _, _, some _⟩ :: _)) _ _; refine wl_ag (next := ?_)) | refine wl_nil ?_ | refine po_then ?_ | refine wc_seq ?_ | refine wc_region ?_ | refine wc_block ?_ | refine po_block ?_ | refine wc_ret ?_ | refine po_then_ret ?_ | refine po_block_ret ?_ | refine wc_exit ?_ | refine po_then_exit ?_ | refine po_block_exit ?_ | refine po_block_pass rfl ?_ | refine wc_skip ?_)
  refine wc_loop (fun s : Nat × List W => s.1 ≤ m ∧ s.2.length = m ∧ s.2 = (List.range s.1).foldl (crow m) rows) (fun s => [(12, true, .int .i64 s.1), (11, true, .int .i64 m), (3, true, .pointer (some ⟨bo, 0, none⟩)), (2, true, .pointer (some ⟨br, 0, none⟩)), (1, true, .pointer (some ⟨ba, 0, none⟩))])
    (fun s => Mem [(w, All)] [.box bo [.int .i64 m, s1] 27, ownW s1 s.2, .box br [.int .i64 0, .slice none 0 0] 27, .box ba [.int .i64 m, sv] 27]) (fun s => m - s.1) (0, rows) ⟨by simp, hlen, rfl⟩ ⟨rfl, rfl, rfl, rfl, rfl, trivial⟩ (fun _ h => h.tailB) ?_
  rintro ⟨k, cur⟩ ⟨hk, hcl, hcur⟩
  dsimp only at hk hcl hcur ⊢
  repeat (first | (show KP _ (wpList _ _ _ (⟨some _, _, _, _, _, none⟩ :: _)) _ _; refine wl_a (next := ?_)) | (show KP _ (wpList _ _ _ (⟨some _, _, _, _, _, some _⟩ :: _)) _ _; refine wl_ag (next := ?_)) | refine wl_nil ?_ | refine po_then ?_ | refine wc_seq ?_ | refine wc_region ?_ | refine wc_block ?_ | refine po_block ?_ | refine wc_ret ?_ | refine po_then_ret ?_ | refine po_block_ret ?_ | refine wc_exit ?_ | refine po_then_exit ?_ | refine po_block_exit ?_ | refine po_block_pass rfl ?_ | refine wc_skip ?_)
  refine wc_cond_dec rfl (fun h2 => ?_) (fun h2 => ?_)
  · repeat (first | (show KP _ (wpList _ _ _ (⟨some _, _, _, _, _, none⟩ :: _)) _ _; refine wl_a (next := ?_)) | (show KP _ (wpList _ _ _ (⟨some _, _, _, _, _, some _⟩ :: _)) _ _; refine wl_ag (next := ?_)) | refine wl_nil ?_ | refine po_then ?_ | refine wc_seq ?_ | refine wc_region ?_ | refine wc_block ?_ | refine po_block ?_ | refine wc_ret ?_ | refine po_then_ret ?_ | refine po_block_ret ?_ | refine wc_exit ?_ | refine po_then_exit ?_ | refine po_block_exit ?_ | refine po_block_pass rfl ?_ | refine wc_skip ?_)
    refine wc_loop (fun s : Nat × List W => s.1 ≤ m ∧ s.2.length = m ∧ s.2 = (List.range s.1).foldl (cstep k) cur) (fun s => [(17, true, .int .i64 s.1), (16, true, .int .i64 m), (4, true, .int .i64 k), (12, true, .int .i64 k), (11, true, .int .i64 m), (3, true, .pointer (some ⟨bo, 0, none⟩)), (2, true, .pointer (some ⟨br, 0, none⟩)), (1, true, .pointer (some ⟨ba, 0, none⟩))])
      (fun s => Mem [(w, All)] [.box bo [.int .i64 m, s1] 27, ownW s1 s.2, .box br [.int .i64 0, .slice none 0 0] 27, .box ba [.int .i64 m, sv] 27]) (fun s => m - s.1) (0, cur) ⟨by simp, hcl, rfl⟩ ⟨rfl, rfl, rfl, rfl, rfl, rfl, rfl, rfl, trivial⟩ (fun _ h => h) ?_
    rintro ⟨i, c2⟩ ⟨hi, hc2l, hc2⟩
    dsimp only at hi hc2l hc2 ⊢
    repeat (first | (show KP _ (wpList _ _ _ (⟨some _, _, _, _, _, none⟩ :: _)) _ _; refine wl_a (next := ?_)) | (show KP _ (wpList _ _ _ (⟨some _, _, _, _, _, some _⟩ :: _)) _ _; refine wl_ag (next := ?_)) | refine wl_nil ?_ | refine po_then ?_ | refine wc_seq ?_ | refine wc_region ?_ | refine wc_block ?_ | refine po_block ?_ | refine wc_ret ?_ | refine po_then_ret ?_ | refine po_block_ret ?_ | refine wc_exit ?_ | refine po_then_exit ?_ | refine po_block_exit ?_ | refine po_block_pass rfl ?_ | refine wc_skip ?_)
    refine wc_cond_dec rfl (fun h3 => ?_) (fun h3 => ?_)
    · have hi2 : i < c2.length := by omega
      have hk2 : k < c2.length := by omega
      have hstep := foldl_succ (cstep k) cur i
      rw [← hc2] at hstep
      repeat (first | (show KP _ (wpList _ _ _ (⟨some _, _, _, _, _, none⟩ :: _)) _ _; refine wl_a (next := ?_)) | (show KP _ (wpList _ _ _ (⟨some _, _, _, _, _, some _⟩ :: _)) _ _; refine wl_ag (next := ?_)) | refine wl_nil ?_ | refine po_then ?_ | refine wc_seq ?_ | refine wc_region ?_ | refine wc_block ?_ | refine po_block ?_ | refine wc_ret ?_ | refine po_then_ret ?_ | refine po_block_ret ?_ | refine wc_exit ?_ | refine po_then_exit ?_ | refine po_block_exit ?_ | refine po_block_pass rfl ?_ | refine wc_skip ?_)
      refine wc_cond rfl (fun h4 => ?_) (fun h4 => ?_)
      · rw [dc_eq, bit_eq _ k (by omega)] at h4
        repeat (first | (show KP _ (wpList _ _ _ (⟨some _, _, _, _, _, none⟩ :: _)) _ _; refine wl_a (next := ?_)) | (show KP _ (wpList _ _ _ (⟨some _, _, _, _, _, some _⟩ :: _)) _ _; refine wl_ag (next := ?_)) | refine wl_nil ?_ | refine po_then ?_ | refine wc_seq ?_ | refine wc_region ?_ | refine wc_block ?_ | refine po_block ?_ | refine wc_ret ?_ | refine po_then_ret ?_ | refine po_block_ret ?_ | refine wc_exit ?_ | refine po_then_exit ?_ | refine po_block_exit ?_ | refine po_block_pass rfl ?_ | refine wc_skip ?_)
        refine wc_draw [0, 1, 2, 3, 4, 5, 6, 7, 8, 9, 10, 11, 12] mixed ?_
        repeat (first | refine kg_a (next := ?_) | refine kg_ag (next := ?_) | refine kg_end (h := ?_))
        refine kg_z (h := fx_store_own (k := 1) (hk := rfl) (next := ?_))
        repeat (first | (show KP _ (wpList _ _ _ (⟨some _, _, _, _, _, none⟩ :: _)) _ _; refine wl_a (next := ?_)) | (show KP _ (wpList _ _ _ (⟨some _, _, _, _, _, some _⟩ :: _)) _ _; refine wl_ag (next := ?_)) | refine wl_nil ?_ | refine po_then ?_ | refine wc_seq ?_ | refine wc_region ?_ | refine wc_block ?_ | refine po_block ?_ | refine wc_ret ?_ | refine po_then_ret ?_ | refine po_block_ret ?_ | refine wc_exit ?_ | refine po_then_exit ?_ | refine po_block_exit ?_ | refine po_block_pass rfl ?_ | refine wc_skip ?_)
        refine po_loop (i + 1, c2.set i (c2.getD i default ||| c2.getD k default)) ⟨by dsimp only; omega, by simp [hc2l], ?_⟩ (by dsimp only; omega) ⟨rfl, rfl, rfl, rfl, rfl, rfl, rfl, rfl, trivial⟩ (fun _ h => h)
        dsimp only
        rw [hstep]; unfold cstep; rw [if_pos h4]
      · rw [dc_eq, bit_eq _ k (by omega)] at h4
        repeat (first | (show KP _ (wpList _ _ _ (⟨some _, _, _, _, _, none⟩ :: _)) _ _; refine wl_a (next := ?_)) | (show KP _ (wpList _ _ _ (⟨some _, _, _, _, _, some _⟩ :: _)) _ _; refine wl_ag (next := ?_)) | refine wl_nil ?_ | refine po_then ?_ | refine wc_seq ?_ | refine wc_region ?_ | refine wc_block ?_ | refine po_block ?_ | refine wc_ret ?_ | refine po_then_ret ?_ | refine po_block_ret ?_ | refine wc_exit ?_ | refine po_then_exit ?_ | refine po_block_exit ?_ | refine po_block_pass rfl ?_ | refine wc_skip ?_)
        refine po_loop (i + 1, c2) ⟨by dsimp only; omega, hc2l, ?_⟩ (by dsimp only; omega) ⟨rfl, rfl, rfl, rfl, rfl, rfl, rfl, rfl, trivial⟩ (fun _ h => h)
        dsimp only
        rw [hstep]; unfold cstep; rw [if_neg (by rw [h4]; simp)]
    · repeat (first | (show KP _ (wpList _ _ _ (⟨some _, _, _, _, _, none⟩ :: _)) _ _; refine wl_a (next := ?_)) | (show KP _ (wpList _ _ _ (⟨some _, _, _, _, _, some _⟩ :: _)) _ _; refine wl_ag (next := ?_)) | refine wl_nil ?_ | refine po_then ?_ | refine wc_seq ?_ | refine wc_region ?_ | refine wc_block ?_ | refine po_block ?_ | refine wc_ret ?_ | refine po_then_ret ?_ | refine po_block_ret ?_ | refine wc_exit ?_ | refine po_then_exit ?_ | refine po_block_exit ?_ | refine po_block_pass rfl ?_ | refine wc_skip ?_)
      refine po_loop (k + 1, c2) ⟨by dsimp only; omega, hc2l, ?_⟩ (by dsimp only; omega) ⟨rfl, rfl, rfl, rfl, rfl, trivial⟩ (fun _ h => h)
      dsimp only
      rw [foldl_succ, ← hcur, hc2, show i = m from by omega]; rfl
  · repeat (first | (show KP _ (wpList _ _ _ (⟨some _, _, _, _, _, none⟩ :: _)) _ _; refine wl_a (next := ?_)) | (show KP _ (wpList _ _ _ (⟨some _, _, _, _, _, some _⟩ :: _)) _ _; refine wl_ag (next := ?_)) | refine wl_nil ?_ | refine po_then ?_ | refine wc_seq ?_ | refine wc_region ?_ | refine wc_block ?_ | refine po_block ?_ | refine wc_ret ?_ | refine po_then_ret ?_ | refine po_block_ret ?_ | refine wc_exit ?_ | refine po_then_exit ?_ | refine po_block_exit ?_ | refine po_block_pass rfl ?_ | refine wc_skip ?_)
    refine wl_fx (fx_store_box (i := 2) (hi := rfl) (next := ?_))
    repeat (first | (show KP _ (wpList _ _ _ (⟨some _, _, _, _, _, none⟩ :: _)) _ _; refine wl_a (next := ?_)) | (show KP _ (wpList _ _ _ (⟨some _, _, _, _, _, some _⟩ :: _)) _ _; refine wl_ag (next := ?_)) | refine wl_nil ?_ | refine po_then ?_ | refine wc_seq ?_ | refine wc_region ?_ | refine wc_block ?_ | refine po_block ?_ | refine wc_ret ?_ | refine po_then_ret ?_ | refine po_block_ret ?_ | refine wc_exit ?_ | refine po_then_exit ?_ | refine po_block_exit ?_ | refine po_block_pass rfl ?_ | refine wc_skip ?_)
    refine mk_ret Tryd.results52 (.cellN inferInstance rfl (.tail _ (.tail _ (.head _))) rfl .nil) (.head _) [ownW s1 cur] [1] rfl (by decide) fun w' hw => ?_
    refine ⟨s1, hs1, rfl, ?_⟩
    rw [hcur, show k = m from by omega]; rfl
end Go.Proofs.YtpncpbdfomgcgaaDoor
