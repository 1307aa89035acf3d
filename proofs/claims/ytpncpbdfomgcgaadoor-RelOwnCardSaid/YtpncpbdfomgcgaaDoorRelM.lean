/- The walks: mixed, Union, Both, Less, Then, Within (both). -/
import Derived.Test.YtpncpbdfomgcgaaDoorRelL
namespace Go.Rl
open Go.Eng
def thenRow (x : W) (rb : List W) : W := (bitsOf x).foldl (fun r j => r ||| rb.getD j default) 0#64
theorem foldl_or_bit (rb : List W) (js : List Nat) (r : W) (k : Nat) : (js.foldl (fun r j => r ||| rb.getD j default) r).getLsbD k = (r.getLsbD k || js.any fun j => bt rb j k) := by
  induction js generalizing r with
  | nil => simp
  | cons j js ih => rw [List.foldl_cons, ih, BitVec.getLsbD_or, List.any_cons, Bool.or_assoc]; rfl
theorem thenRow_bit (x : W) (rb : List W) (m k : Nat) (h : ∀ j, x.getLsbD j = true → j < m) : (thenRow x rb).getLsbD k = (List.range m).any fun j => x.getLsbD j && bt rb j k := by
  unfold thenRow
  rw [foldl_or_bit, BitVec.getLsbD_zero, Bool.false_or, Bool.eq_iff_iff, List.any_eq_true, List.any_eq_true]
  constructor
  · rintro ⟨j, hj, hb⟩
    rw [mem_bits] at hj
    exact ⟨j, List.mem_range.2 (h j hj), by rw [hj, hb]; rfl⟩
  · rintro ⟨j, _, hb⟩
    rw [Bool.and_eq_true] at hb
    exact ⟨j, (mem_bits x j).2 hb.1, hb.2⟩
def howB (how : Int) (x y : Bool) : Bool := (decide (how = 1) && (x || y)) || (decide (how = 2) && x && y) || (decide (how = 3) && x && !y)
end Go.Rl
namespace Go.Proofs.YtpncpbdfomgcgaaDoor
open Go Go.Eng Go.Rl
attribute [local irreducible] wpList Code.wp bodyPost Exit.then Exit.inBlock Calls

set_option maxHeartbeats 800000 in
theorem mixed1_spec (i : Nat) (a b : Int) (sa sb : Value) (ra rb : List W) (kf : Nat) [FN Tryd.prog kf] (cap : List Value) (z : W) (bf ba bb : Nat) (w : World) (hia : i < ra.length) (hib : i < rb.length) 
    (hf : Bx All w bf [.func (.func kf) #[] cap.toArray]) (hba : Bx All w ba [.int .i64 a, sa]) (hbb : Bx All w bb [.int .i64 b, sb]) (ha : Sl All w encW 1 sa ra) (hb : Sl All w encW 1 sb rb)
    (hk : ∀ w', Mem [(w, All)] [] w' → Pur Tryd.prog kf (u64 (ra.getD i default) :: u64 (rb.getD i default) :: cap) w' fun _ v _ => v = u64 z) :
    Pur Tryd.prog 68 [.int .i64 i, .pointer (some ⟨bf, 0, none⟩), .pointer (some ⟨ba, 0, none⟩), .pointer (some ⟨bb, 0, none⟩)] w fun _ v _ => v = u64 z := by
  refine enter_pur Tryd.func68 Tryd.ntmps68 rfl rfl ?_
  repeat (first | (show KP _ (wpList _ _ _ (⟨some _, _, _, _, _, none⟩ :: _)) _ _; refine wl_a (next := ?_)) | (show KP _ (wpList _ _ _ (⟨some _, _, _, _, _, some _⟩ :: _)) _ _; refine wl_ag (next := ?_)) | refine wl_nil ?_ | refine po_then ?_ | refine wc_seq ?_ | refine wc_region ?_ | refine wc_block ?_ | refine po_block ?_ | refine wc_ret ?_ | refine po_then_ret ?_ | refine po_block_ret ?_ | refine wc_exit ?_ | refine po_then_exit ?_ | refine po_block_exit ?_ | refine po_block_pass rfl ?_ | refine wc_skip ?_)
  refine wc_draw [0, 1, 2, 3, 4, 5, 6, 7, 8, 9, 10, 11, 12] mixed ?_
  repeat (first | refine kg_a (next := ?_) | refine kg_ag (next := ?_) | refine kg_end (h := ?_))
  refine kg_f _ (h := fx_call (spec := fun w' hw' => hk w' hw') (next := ?_)) (hSS := fun _ h => h)
  rintro v n2 w2 rfl hn2
  refine kp_S ?_ (fun _ h => h.tailB)
  repeat (first | refine kg_a (next := ?_) | refine kg_ag (next := ?_) | refine kg_end (h := ?_))
  repeat (first | (show KP _ (wpList _ _ _ (⟨some _, _, _, _, _, none⟩ :: _)) _ _; refine wl_a (next := ?_)) | (show KP _ (wpList _ _ _ (⟨some _, _, _, _, _, some _⟩ :: _)) _ _; refine wl_ag (next := ?_)) | refine wl_nil ?_ | refine po_then ?_ | refine wc_seq ?_ | refine wc_region ?_ | refine wc_block ?_ | refine po_block ?_ | refine wc_ret ?_ | refine po_then_ret ?_ | refine po_block_ret ?_ | refine wc_exit ?_ | refine po_then_exit ?_ | refine po_block_exit ?_ | refine po_block_pass rfl ?_ | refine wc_skip ?_)
  exact pur_ret Tryd.results68 (.tmp rfl .nil) (.tail _ (.head _)) fun w' hw => rfl

set_option maxHeartbeats 800000 in
theorem mixed_spec (a : Int) (sa : Value) (ra : List W) (b : Int) (sb : Value) (rb : List W) (kf : Nat) [FN Tryd.prog kf] (cap : List Value) (f : Nat → W) (p : Nat → Nat → Bool) (w : World) (ha : Sl All w encW 1 sa ra) (hb : Sl All w encW 1 sb rb)
    (hp : erTwo a ra b rb = 0 → ∀ i j, i < a.toNat → j < 64 → (f i).getLsbD j = (decide (j < a.toNat) && p i j))
    (hk : erTwo a ra b rb = 0 → ∀ i w', i < a.toNat → Mem [(w, All)] [] w' → Pur Tryd.prog kf (u64 (ra.getD i default) :: u64 (rb.getD i default) :: cap) w' fun _ v _ => v = u64 (f i)) :
    Mk Tryd.prog 55 [.agg #[.int .i64 a, sa], .agg #[.int .i64 b, sb], .func (.func kf) #[] cap.toArray] w (RelΨ (n2 (erTwo a ra b rb) a) (if erTwo a ra b rb = 0 then relOf a.toNat p else []) (erTwo a ra b rb)) := by
  refine enter_mk Tryd.func55 Tryd.ntmps55 rfl rfl ?_
  repeat (first | (show KP _ (wpList _ _ _ (⟨some _, _, _, _, _, none⟩ :: _)) _ _; refine wl_a (next := ?_)) | (show KP _ (wpList _ _ _ (⟨some _, _, _, _, _, some _⟩ :: _)) _ _; refine wl_ag (next := ?_)) | refine wl_nil ?_ | refine po_then ?_ | refine wc_seq ?_ | refine wc_region ?_ | refine wc_block ?_ | refine po_block ?_ | refine wc_ret ?_ | refine po_then_ret ?_ | refine po_block_ret ?_ | refine wc_exit ?_ | refine po_then_exit ?_ | refine po_block_exit ?_ | refine po_block_pass rfl ?_ | refine wc_skip ?_)
  refine wl_fx (fx_box (next := ?_)); intro ba
  repeat (first | (show KP _ (wpList _ _ _ (⟨some _, _, _, _, _, none⟩ :: _)) _ _; refine wl_a (next := ?_)) | (show KP _ (wpList _ _ _ (⟨some _, _, _, _, _, some _⟩ :: _)) _ _; refine wl_ag (next := ?_)) | refine wl_nil ?_ | refine po_then ?_ | refine wc_seq ?_ | refine wc_region ?_ | refine wc_block ?_ | refine po_block ?_ | refine wc_ret ?_ | refine po_then_ret ?_ | refine po_block_ret ?_ | refine wc_exit ?_ | refine po_then_exit ?_ | refine po_block_exit ?_ | refine po_block_pass rfl ?_ | refine wc_skip ?_)
  refine wl_fx (fx_box (next := ?_)); intro bb
  repeat (first | (show KP _ (wpList _ _ _ (⟨some _, _, _, _, _, none⟩ :: _)) _ _; refine wl_a (next := ?_)) | (show KP _ (wpList _ _ _ (⟨some _, _, _, _, _, some _⟩ :: _)) _ _; refine wl_ag (next := ?_)) | refine wl_nil ?_ | refine po_then ?_ | refine wc_seq ?_ | refine wc_region ?_ | refine wc_block ?_ | refine po_block ?_ | refine wc_ret ?_ | refine po_then_ret ?_ | refine po_block_ret ?_ | refine wc_exit ?_ | refine po_then_exit ?_ | refine po_block_exit ?_ | refine po_block_pass rfl ?_ | refine wc_skip ?_)
  refine wl_fx (fx_box (next := ?_)); intro bf
  repeat (first | (show KP _ (wpList _ _ _ (⟨some _, _, _, _, _, none⟩ :: _)) _ _; refine wl_a (next := ?_)) | (show KP _ (wpList _ _ _ (⟨some _, _, _, _, _, some _⟩ :: _)) _ _; refine wl_ag (next := ?_)) | refine wl_nil ?_ | refine po_then ?_ | refine wc_seq ?_ | refine wc_region ?_ | refine wc_block ?_ | refine po_block ?_ | refine wc_ret ?_ | refine po_then_ret ?_ | refine po_block_ret ?_ | refine wc_exit ?_ | refine po_then_exit ?_ | refine po_block_exit ?_ | refine po_block_pass rfl ?_ | refine wc_skip ?_)
  refine wl_fx (fx_alloc (next := ?_)); intro br
  repeat (first | (show KP _ (wpList _ _ _ (⟨some _, _, _, _, _, none⟩ :: _)) _ _; refine wl_a (next := ?_)) | (show KP _ (wpList _ _ _ (⟨some _, _, _, _, _, some _⟩ :: _)) _ _; refine wl_ag (next := ?_)) | refine wl_nil ?_ | refine po_then ?_ | refine wc_seq ?_ | refine wc_region ?_ | refine wc_block ?_ | refine po_block ?_ | refine wc_ret ?_ | refine po_then_ret ?_ | refine po_block_ret ?_ | refine wc_exit ?_ | refine po_then_exit ?_ | refine po_block_exit ?_ | refine po_block_pass rfl ?_ | refine wc_skip ?_)
  refine wl_fx (fx_call (spec := fun w' hw => two_spec a sa ra b sb rb w' (hw.now ha (.head _)) (hw.now hb (.head _))) (next := ?_))
  rintro v n1 w1 rfl hn1
  repeat (first | (show KP _ (wpList _ _ _ (⟨some _, _, _, _, _, none⟩ :: _)) _ _; refine wl_a (next := ?_)) | (show KP _ (wpList _ _ _ (⟨some _, _, _, _, _, some _⟩ :: _)) _ _; refine wl_ag (next := ?_)) | refine wl_nil ?_ | refine po_then ?_ | refine wc_seq ?_ | refine wc_region ?_ | refine wc_block ?_ | refine po_block ?_ | refine wc_ret ?_ | refine po_then_ret ?_ | refine po_block_ret ?_ | refine wc_exit ?_ | refine po_then_exit ?_ | refine po_block_exit ?_ | refine po_block_pass rfl ?_ | refine wc_skip ?_)
  refine wc_cond rfl (fun h1 => ?_) (fun h1 => ?_)
  · have h1' : ¬ erTwo a ra b rb = 0 := by simpa [dc_eq] using h1
    rw [if_neg h1', n2, if_neg h1']
    repeat (first | (show KP _ (wpList _ _ _ (⟨some _, _, _, _, _, none⟩ :: _)) _ _; refine wl_a (next := ?_)) | (show KP _ (wpList _ _ _ (⟨some _, _, _, _, _, some _⟩ :: _)) _ _; refine wl_ag (next := ?_)) | refine wl_nil ?_ | refine po_then ?_ | refine wc_seq ?_ | refine wc_region ?_ | refine wc_block ?_ | refine po_block ?_ | refine wc_ret ?_ | refine po_then_ret ?_ | refine po_block_ret ?_ | refine wc_exit ?_ | refine po_then_exit ?_ | refine po_block_exit ?_ | refine po_block_pass rfl ?_ | refine wc_skip ?_)
    refine wl_fx (fx_store_box (i := 0) (hi := rfl) (next := ?_))
    repeat (first | (show KP _ (wpList _ _ _ (⟨some _, _, _, _, _, none⟩ :: _)) _ _; refine wl_a (next := ?_)) | (show KP _ (wpList _ _ _ (⟨some _, _, _, _, _, some _⟩ :: _)) _ _; refine wl_ag (next := ?_)) | refine wl_nil ?_ | refine po_then ?_ | refine wc_seq ?_ | refine wc_region ?_ | refine wc_block ?_ | refine po_block ?_ | refine wc_ret ?_ | refine po_then_ret ?_ | refine po_block_ret ?_ | refine wc_exit ?_ | refine po_then_exit ?_ | refine po_block_exit ?_ | refine po_block_pass rfl ?_ | refine wc_skip ?_)
    refine kp_nil 38 1 encW ?_
    refine mk_ret Tryd.results55 (.cellN inferInstance rfl (.tail _ (.head _)) rfl (.tmp rfl .nil)) (.tail _ (.head _)) [_] [0] rfl (by decide) fun w' hw => ?_
    exact ⟨_, sv_nil, rfl, rfl⟩
  · have h1' : erTwo a ra b rb = 0 := by simpa [dc_eq] using h1
    rw [if_pos h1', n2, if_pos h1', h1']
    have hp2 := hp h1'
    have hk2 := hk h1'
    clear hp hk
    obtain ⟨hoa, hob, rfl⟩ := erTwo_zero h1'
    obtain ⟨m, rfl, hm64, hlen⟩ := relOk_nat hoa
    obtain ⟨m', hm', _, hlen'⟩ := relOk_nat hob
    obtain rfl : m = m' := by omega
    rw [Int.toNat_natCast] at hp2 hk2 ⊢
    repeat (first | (show KP _ (wpList _ _ _ (⟨some _, _, _, _, _, none⟩ :: _)) _ _; refine wl_a (next := ?_)) | (show KP _ (wpList _ _ _ (⟨some _, _, _, _, _, some _⟩ :: _)) _ _; refine wl_ag (next := ?_)) | refine wl_nil ?_ | refine po_then ?_ | refine wc_seq ?_ | refine wc_region ?_ | refine wc_block ?_ | refine po_block ?_ | refine wc_ret ?_ | refine po_then_ret ?_ | refine po_block_ret ?_ | refine wc_exit ?_ | refine po_then_exit ?_ | refine po_block_exit ?_ | refine po_block_pass rfl ?_ | refine wc_skip ?_)
    refine wl_fx (fx_call_mk (spec := fun w' hw => made_spec m 68 [.pointer (some ⟨bf, 0, none⟩), .pointer (some ⟨ba, 0, none⟩), .pointer (some ⟨bb, 0, none⟩)] f w' hm64 (fun i w2 hi hw2 =>
      mixed1_spec i m m sa sb ra rb kf cap (f i) bf ba bb w2 (by omega) (by omega) ((hw.bx (.tail _ (.head _)) trivial).mono (hw2.base _ (.head _)) (fun _ => trivial)) ((hw.bx (.tail _ (.tail _ (.tail _ (.head _)))) trivial).mono (hw2.base _ (.head _)) (fun _ => trivial))
        ((hw.bx (.tail _ (.tail _ (.head _))) trivial).mono (hw2.base _ (.head _)) (fun _ => trivial)) (hw2.now (hw.now ha (.tail _ (.head _))) (.head _)) (hw2.now (hw.now hb (.tail _ (.head _))) (.head _))
        (fun w3 hw3 => hk2 i w3 hi (mem_trans (hw.last rfl) hw2 hw3)))) (next := ?_))
    rintro v n es w1 ⟨s1, hs1, rfl, rfl⟩
    repeat (first | (show KP _ (wpList _ _ _ (⟨some _, _, _, _, _, none⟩ :: _)) _ _; refine wl_a (next := ?_)) | (show KP _ (wpList _ _ _ (⟨some _, _, _, _, _, some _⟩ :: _)) _ _; refine wl_ag (next := ?_)) | refine wl_nil ?_ | refine po_then ?_ | refine wc_seq ?_ | refine wc_region ?_ | refine wc_block ?_ | refine po_block ?_ | refine wc_ret ?_ | refine po_then_ret ?_ | refine po_block_ret ?_ | refine wc_exit ?_ | refine po_then_exit ?_ | refine po_block_exit ?_ | refine po_block_pass rfl ?_ | refine wc_skip ?_)
    refine wl_fx (fx_store_box (i := 1) (hi := rfl) (next := ?_))
    repeat (first | (show KP _ (wpList _ _ _ (⟨some _, _, _, _, _, none⟩ :: _)) _ _; refine wl_a (next := ?_)) | (show KP _ (wpList _ _ _ (⟨some _, _, _, _, _, some _⟩ :: _)) _ _; refine wl_ag (next := ?_)) | refine wl_nil ?_ | refine po_then ?_ | refine wc_seq ?_ | refine wc_region ?_ | refine wc_block ?_ | refine po_block ?_ | refine wc_ret ?_ | refine po_then_ret ?_ | refine po_block_ret ?_ | refine wc_exit ?_ | refine po_then_exit ?_ | refine po_block_exit ?_ | refine po_block_pass rfl ?_ | refine wc_skip ?_)
    refine mk_ret Tryd.results55 (.cellN inferInstance rfl (.tail _ (.head _)) rfl (.tmp rfl .nil)) (.tail _ (.tail _ (.head _))) [ownW s1 _] [0] rfl (by decide) fun w' hw => ?_
    refine ⟨s1, hs1, rfl, ?_⟩
    rw [map_relOf m f p hm64 hp2]

theorem union1_spec (x y : W) (w : World) : Pur Tryd.prog 58 [u64 x, u64 y] w fun _ v _ => v = u64 (x ||| y) := by
  refine enter_pur Tryd.func58 Tryd.ntmps58 rfl rfl ?_
  repeat (first | (show KP _ (wpList _ _ _ (⟨some _, _, _, _, _, none⟩ :: _)) _ _; refine wl_a (next := ?_)) | (show KP _ (wpList _ _ _ (⟨some _, _, _, _, _, some _⟩ :: _)) _ _; refine wl_ag (next := ?_)) | refine wl_nil ?_ | refine po_then ?_ | refine wc_seq ?_ | refine wc_region ?_ | refine wc_block ?_ | refine po_block ?_ | refine wc_ret ?_ | refine po_then_ret ?_ | refine po_block_ret ?_ | refine wc_exit ?_ | refine po_then_exit ?_ | refine po_block_exit ?_ | refine po_block_pass rfl ?_ | refine wc_skip ?_)
  exact pur_ret Tryd.results58 (.tmp rfl .nil) (.head _) fun w' hw => rfl
theorem both1_spec (x y : W) (w : World) : Pur Tryd.prog 59 [u64 x, u64 y] w fun _ v _ => v = u64 (x &&& y) := by
  refine enter_pur Tryd.func59 Tryd.ntmps59 rfl rfl ?_
  repeat (first | (show KP _ (wpList _ _ _ (⟨some _, _, _, _, _, none⟩ :: _)) _ _; refine wl_a (next := ?_)) | (show KP _ (wpList _ _ _ (⟨some _, _, _, _, _, some _⟩ :: _)) _ _; refine wl_ag (next := ?_)) | refine wl_nil ?_ | refine po_then ?_ | refine wc_seq ?_ | refine wc_region ?_ | refine wc_block ?_ | refine po_block ?_ | refine wc_ret ?_ | refine po_then_ret ?_ | refine po_block_ret ?_ | refine wc_exit ?_ | refine po_then_exit ?_ | refine po_block_exit ?_ | refine po_block_pass rfl ?_ | refine wc_skip ?_)
  exact pur_ret Tryd.results59 (.tmp rfl .nil) (.head _) fun w' hw => rfl
theorem less1_spec (x y : W) (w : World) : Pur Tryd.prog 61 [u64 x, u64 y] w fun _ v _ => v = u64 (x &&& ~~~ y) := by
  refine enter_pur Tryd.func61 Tryd.ntmps61 rfl rfl ?_
  repeat (first | (show KP _ (wpList _ _ _ (⟨some _, _, _, _, _, none⟩ :: _)) _ _; refine wl_a (next := ?_)) | (show KP _ (wpList _ _ _ (⟨some _, _, _, _, _, some _⟩ :: _)) _ _; refine wl_ag (next := ?_)) | refine wl_nil ?_ | refine po_then ?_ | refine wc_seq ?_ | refine wc_region ?_ | refine wc_block ?_ | refine po_block ?_ | refine wc_ret ?_ | refine po_then_ret ?_ | refine po_block_ret ?_ | refine wc_exit ?_ | refine po_then_exit ?_ | refine po_block_exit ?_ | refine po_block_pass rfl ?_ | refine wc_skip ?_)
  exact pur_ret Tryd.results61 (.tmp rfl .nil) (.head _) fun w' hw => rfl

theorem getLsb_not_high (ra : List W) (m i j : Nat) (h : relOk m ra = true) : (ra.getD i default).getLsbD j = (decide (j < m) && (ra.getD i default).getLsbD j) := by
  by_cases hj : j < m
  · simp [hj]
  · have := relOk_bt h i j (by omega); unfold bt at this; rw [this]; simp

set_option maxHeartbeats 800000 in
theorem union_all (a : Int) (sa : Value) (ra : List W) (b : Int) (sb : Value) (rb : List W) (w : World) (ha : Sl All w encW 1 sa ra) (hb : Sl All w encW 1 sb rb) :
    Mk Tryd.prog 30 [.agg #[.int .i64 a, sa], .agg #[.int .i64 b, sb]] w (RelΨ (n2 (erTwo a ra b rb) a) (mixS (· || ·) a ra b rb) (erTwo a ra b rb)) := by
  refine enter_mk Tryd.func30 Tryd.ntmps30 rfl rfl ?_
  repeat (first | (show KP _ (wpList _ _ _ (⟨some _, _, _, _, _, none⟩ :: _)) _ _; refine wl_a (next := ?_)) | (show KP _ (wpList _ _ _ (⟨some _, _, _, _, _, some _⟩ :: _)) _ _; refine wl_ag (next := ?_)) | refine wl_nil ?_ | refine po_then ?_ | refine wc_seq ?_ | refine wc_region ?_ | refine wc_block ?_ | refine po_block ?_ | refine wc_ret ?_ | refine po_then_ret ?_ | refine po_block_ret ?_ | refine wc_exit ?_ | refine po_then_exit ?_ | refine po_block_exit ?_ | refine po_block_pass rfl ?_ | refine wc_skip ?_)
  refine wl_fx (fx_box (next := ?_)); intro ba
  repeat (first | (show KP _ (wpList _ _ _ (⟨some _, _, _, _, _, none⟩ :: _)) _ _; refine wl_a (next := ?_)) | (show KP _ (wpList _ _ _ (⟨some _, _, _, _, _, some _⟩ :: _)) _ _; refine wl_ag (next := ?_)) | refine wl_nil ?_ | refine po_then ?_ | refine wc_seq ?_ | refine wc_region ?_ | refine wc_block ?_ | refine po_block ?_ | refine wc_ret ?_ | refine po_then_ret ?_ | refine po_block_ret ?_ | refine wc_exit ?_ | refine po_then_exit ?_ | refine po_block_exit ?_ | refine po_block_pass rfl ?_ | refine wc_skip ?_)
  refine wl_fx (fx_box (next := ?_)); intro bb
  repeat (first | (show KP _ (wpList _ _ _ (⟨some _, _, _, _, _, none⟩ :: _)) _ _; refine wl_a (next := ?_)) | (show KP _ (wpList _ _ _ (⟨some _, _, _, _, _, some _⟩ :: _)) _ _; refine wl_ag (next := ?_)) | refine wl_nil ?_ | refine po_then ?_ | refine wc_seq ?_ | refine wc_region ?_ | refine wc_block ?_ | refine po_block ?_ | refine wc_ret ?_ | refine po_then_ret ?_ | refine po_block_ret ?_ | refine wc_exit ?_ | refine po_then_exit ?_ | refine po_block_exit ?_ | refine po_block_pass rfl ?_ | refine wc_skip ?_)
  refine wl_fx (fx_alloc (next := ?_)); intro br
  repeat (first | (show KP _ (wpList _ _ _ (⟨some _, _, _, _, _, none⟩ :: _)) _ _; refine wl_a (next := ?_)) | (show KP _ (wpList _ _ _ (⟨some _, _, _, _, _, some _⟩ :: _)) _ _; refine wl_ag (next := ?_)) | refine wl_nil ?_ | refine po_then ?_ | refine wc_seq ?_ | refine wc_region ?_ | refine wc_block ?_ | refine po_block ?_ | refine wc_ret ?_ | refine po_then_ret ?_ | refine po_block_ret ?_ | refine wc_exit ?_ | refine po_then_exit ?_ | refine po_block_exit ?_ | refine po_block_pass rfl ?_ | refine wc_skip ?_)
  refine wl_fx (fx_call_mk (cap := []) (spec := fun w' hw => mixed_spec a sa ra b sb rb 58 [] (fun i => ra.getD i default ||| rb.getD i default) (fun i j => (· || ·) (bt ra i j) (bt rb i j)) w' (hw.now ha (.head _)) (hw.now hb (.head _)) (fun he i j hi hj => ?_) (fun _ i w2 _ _ => union1_spec _ _ w2)) (next := ?_))
  · obtain ⟨h1, h2, rfl⟩ := erTwo_zero he
    obtain ⟨m, rfl, hm64, hlen⟩ := relOk_nat h1
    rw [Int.toNat_natCast]
    simp only [bt]
    by_cases hj2 : j < m
    · simp [hj2, hj]
    · have e1 := getLsb_not_high ra m i j h1
      have e2 := getLsb_not_high rb m i j h2
      simp only [hj2, decide_false, Bool.false_and] at e1 e2
      simp only [BitVec.getLsbD_or, BitVec.getLsbD_and, BitVec.getLsbD_not, e1, e2, hj2]; simp
  rintro v n1 es w1 ⟨s1, hs1, rfl, rfl⟩
  repeat (first | (show KP _ (wpList _ _ _ (⟨some _, _, _, _, _, none⟩ :: _)) _ _; refine wl_a (next := ?_)) | (show KP _ (wpList _ _ _ (⟨some _, _, _, _, _, some _⟩ :: _)) _ _; refine wl_ag (next := ?_)) | refine wl_nil ?_ | refine po_then ?_ | refine wc_seq ?_ | refine wc_region ?_ | refine wc_block ?_ | refine po_block ?_ | refine wc_ret ?_ | refine po_then_ret ?_ | refine po_block_ret ?_ | refine wc_exit ?_ | refine po_then_exit ?_ | refine po_block_exit ?_ | refine po_block_pass rfl ?_ | refine wc_skip ?_)
  refine wl_fx (fx_store_box (i := 1) (hi := rfl) (next := ?_))
  repeat (first | (show KP _ (wpList _ _ _ (⟨some _, _, _, _, _, none⟩ :: _)) _ _; refine wl_a (next := ?_)) | (show KP _ (wpList _ _ _ (⟨some _, _, _, _, _, some _⟩ :: _)) _ _; refine wl_ag (next := ?_)) | refine wl_nil ?_ | refine po_then ?_ | refine wc_seq ?_ | refine wc_region ?_ | refine wc_block ?_ | refine po_block ?_ | refine wc_ret ?_ | refine po_then_ret ?_ | refine po_block_ret ?_ | refine wc_exit ?_ | refine po_then_exit ?_ | refine po_block_exit ?_ | refine po_block_pass rfl ?_ | refine wc_skip ?_)
  exact mk_ret Tryd.results30 (.cellN inferInstance rfl (.tail _ (.head _)) rfl (.tmp rfl .nil)) (.tail _ (.head _)) [ownW s1 _] [0] rfl (by decide) fun w' hw => ⟨s1, hs1, rfl, rfl⟩

set_option maxHeartbeats 800000 in
theorem both_all (a : Int) (sa : Value) (ra : List W) (b : Int) (sb : Value) (rb : List W) (w : World) (ha : Sl All w encW 1 sa ra) (hb : Sl All w encW 1 sb rb) :
    Mk Tryd.prog 31 [.agg #[.int .i64 a, sa], .agg #[.int .i64 b, sb]] w (RelΨ (n2 (erTwo a ra b rb) a) (mixS (· && ·) a ra b rb) (erTwo a ra b rb)) := by
  refine enter_mk Tryd.func31 Tryd.ntmps31 rfl rfl ?_
  repeat (first | (show KP _ (wpList _ _ _ (⟨some _, _, _, _, _, none⟩ :: _)) _ _; refine wl_a (next := ?_)) | (show KP _ (wpList _ _ _ (⟨some _, _, _, _, _, some _⟩ :: _)) _ _; refine wl_ag (next := ?_)) | refine wl_nil ?_ | refine po_then ?_ | refine wc_seq ?_ | refine wc_region ?_ | refine wc_block ?_ | refine po_block ?_ | refine wc_ret ?_ | refine po_then_ret ?_ | refine po_block_ret ?_ | refine wc_exit ?_ | refine po_then_exit ?_ | refine po_block_exit ?_ | refine po_block_pass rfl ?_ | refine wc_skip ?_)
  refine wl_fx (fx_box (next := ?_)); intro ba
  repeat (first | (show KP _ (wpList _ _ _ (⟨some _, _, _, _, _, none⟩ :: _)) _ _; refine wl_a (next := ?_)) | (show KP _ (wpList _ _ _ (⟨some _, _, _, _, _, some _⟩ :: _)) _ _; refine wl_ag (next := ?_)) | refine wl_nil ?_ | refine po_then ?_ | refine wc_seq ?_ | refine wc_region ?_ | refine wc_block ?_ | refine po_block ?_ | refine wc_ret ?_ | refine po_then_ret ?_ | refine po_block_ret ?_ | refine wc_exit ?_ | refine po_then_exit ?_ | refine po_block_exit ?_ | refine po_block_pass rfl ?_ | refine wc_skip ?_)
  refine wl_fx (fx_box (next := ?_)); intro bb
  repeat (first | (show KP _ (wpList _ _ _ (⟨some _, _, _, _, _, none⟩ :: _)) _ _; refine wl_a (next := ?_)) | (show KP _ (wpList _ _ _ (⟨some _, _, _, _, _, some _⟩ :: _)) _ _; refine wl_ag (next := ?_)) | refine wl_nil ?_ | refine po_then ?_ | refine wc_seq ?_ | refine wc_region ?_ | refine wc_block ?_ | refine po_block ?_ | refine wc_ret ?_ | refine po_then_ret ?_ | refine po_block_ret ?_ | refine wc_exit ?_ | refine po_then_exit ?_ | refine po_block_exit ?_ | refine po_block_pass rfl ?_ | refine wc_skip ?_)
  refine wl_fx (fx_alloc (next := ?_)); intro br
  repeat (first | (show KP _ (wpList _ _ _ (⟨some _, _, _, _, _, none⟩ :: _)) _ _; refine wl_a (next := ?_)) | (show KP _ (wpList _ _ _ (⟨some _, _, _, _, _, some _⟩ :: _)) _ _; refine wl_ag (next := ?_)) | refine wl_nil ?_ | refine po_then ?_ | refine wc_seq ?_ | refine wc_region ?_ | refine wc_block ?_ | refine po_block ?_ | refine wc_ret ?_ | refine po_then_ret ?_ | refine po_block_ret ?_ | refine wc_exit ?_ | refine po_then_exit ?_ | refine po_block_exit ?_ | refine po_block_pass rfl ?_ | refine wc_skip ?_)
  refine wl_fx (fx_call_mk (cap := []) (spec := fun w' hw => mixed_spec a sa ra b sb rb 59 [] (fun i => ra.getD i default &&& rb.getD i default) (fun i j => (· && ·) (bt ra i j) (bt rb i j)) w' (hw.now ha (.head _)) (hw.now hb (.head _)) (fun he i j hi hj => ?_) (fun _ i w2 _ _ => both1_spec _ _ w2)) (next := ?_))
  · obtain ⟨h1, h2, rfl⟩ := erTwo_zero he
    obtain ⟨m, rfl, hm64, hlen⟩ := relOk_nat h1
    rw [Int.toNat_natCast]
    simp only [bt]
    by_cases hj2 : j < m
    · simp [hj2, hj]
    · have e1 := getLsb_not_high ra m i j h1
      have e2 := getLsb_not_high rb m i j h2
      simp only [hj2, decide_false, Bool.false_and] at e1 e2
      simp only [BitVec.getLsbD_or, BitVec.getLsbD_and, BitVec.getLsbD_not, e1, e2, hj2]; simp
  rintro v n1 es w1 ⟨s1, hs1, rfl, rfl⟩
  repeat (first | (show KP _ (wpList _ _ _ (⟨some _, _, _, _, _, none⟩ :: _)) _ _; refine wl_a (next := ?_)) | (show KP _ (wpList _ _ _ (⟨some _, _, _, _, _, some _⟩ :: _)) _ _; refine wl_ag (next := ?_)) | refine wl_nil ?_ | refine po_then ?_ | refine wc_seq ?_ | refine wc_region ?_ | refine wc_block ?_ | refine po_block ?_ | refine wc_ret ?_ | refine po_then_ret ?_ | refine po_block_ret ?_ | refine wc_exit ?_ | refine po_then_exit ?_ | refine po_block_exit ?_ | refine po_block_pass rfl ?_ | refine wc_skip ?_)
  refine wl_fx (fx_store_box (i := 1) (hi := rfl) (next := ?_))
  repeat (first | (show KP _ (wpList _ _ _ (⟨some _, _, _, _, _, none⟩ :: _)) _ _; refine wl_a (next := ?_)) | (show KP _ (wpList _ _ _ (⟨some _, _, _, _, _, some _⟩ :: _)) _ _; refine wl_ag (next := ?_)) | refine wl_nil ?_ | refine po_then ?_ | refine wc_seq ?_ | refine wc_region ?_ | refine wc_block ?_ | refine po_block ?_ | refine wc_ret ?_ | refine po_then_ret ?_ | refine po_block_ret ?_ | refine wc_exit ?_ | refine po_then_exit ?_ | refine po_block_exit ?_ | refine po_block_pass rfl ?_ | refine wc_skip ?_)
  exact mk_ret Tryd.results31 (.cellN inferInstance rfl (.tail _ (.head _)) rfl (.tmp rfl .nil)) (.tail _ (.head _)) [ownW s1 _] [0] rfl (by decide) fun w' hw => ⟨s1, hs1, rfl, rfl⟩

set_option maxHeartbeats 800000 in
theorem less_all (a : Int) (sa : Value) (ra : List W) (b : Int) (sb : Value) (rb : List W) (w : World) (ha : Sl All w encW 1 sa ra) (hb : Sl All w encW 1 sb rb) :
    Mk Tryd.prog 34 [.agg #[.int .i64 a, sa], .agg #[.int .i64 b, sb]] w (RelΨ (n2 (erTwo a ra b rb) a) (mixS (fun x y => x && !y) a ra b rb) (erTwo a ra b rb)) := by
  refine enter_mk Tryd.func34 Tryd.ntmps34 rfl rfl ?_
  repeat (first | (show KP _ (wpList _ _ _ (⟨some _, _, _, _, _, none⟩ :: _)) _ _; refine wl_a (next := ?_)) | (show KP _ (wpList _ _ _ (⟨some _, _, _, _, _, some _⟩ :: _)) _ _; refine wl_ag (next := ?_)) | refine wl_nil ?_ | refine po_then ?_ | refine wc_seq ?_ | refine wc_region ?_ | refine wc_block ?_ | refine po_block ?_ | refine wc_ret ?_ | refine po_then_ret ?_ | refine po_block_ret ?_ | refine wc_exit ?_ | refine po_then_exit ?_ | refine po_block_exit ?_ | refine po_block_pass rfl ?_ | refine wc_skip ?_)
  refine wl_fx (fx_box (next := ?_)); intro ba
  repeat (first | (show KP _ (wpList _ _ _ (⟨some _, _, _, _, _, none⟩ :: _)) _ _; refine wl_a (next := ?_)) | (show KP _ (wpList _ _ _ (⟨some _, _, _, _, _, some _⟩ :: _)) _ _; refine wl_ag (next := ?_)) | refine wl_nil ?_ | refine po_then ?_ | refine wc_seq ?_ | refine wc_region ?_ | refine wc_block ?_ | refine po_block ?_ | refine wc_ret ?_ | refine po_then_ret ?_ | refine po_block_ret ?_ | refine wc_exit ?_ | refine po_then_exit ?_ | refine po_block_exit ?_ | refine po_block_pass rfl ?_ | refine wc_skip ?_)
  refine wl_fx (fx_box (next := ?_)); intro bb
  repeat (first | (show KP _ (wpList _ _ _ (⟨some _, _, _, _, _, none⟩ :: _)) _ _; refine wl_a (next := ?_)) | (show KP _ (wpList _ _ _ (⟨some _, _, _, _, _, some _⟩ :: _)) _ _; refine wl_ag (next := ?_)) | refine wl_nil ?_ | refine po_then ?_ | refine wc_seq ?_ | refine wc_region ?_ | refine wc_block ?_ | refine po_block ?_ | refine wc_ret ?_ | refine po_then_ret ?_ | refine po_block_ret ?_ | refine wc_exit ?_ | refine po_then_exit ?_ | refine po_block_exit ?_ | refine po_block_pass rfl ?_ | refine wc_skip ?_)
  refine wl_fx (fx_alloc (next := ?_)); intro br
  repeat (first | (show KP _ (wpList _ _ _ (⟨some _, _, _, _, _, none⟩ :: _)) _ _; refine wl_a (next := ?_)) | (show KP _ (wpList _ _ _ (⟨some _, _, _, _, _, some _⟩ :: _)) _ _; refine wl_ag (next := ?_)) | refine wl_nil ?_ | refine po_then ?_ | refine wc_seq ?_ | refine wc_region ?_ | refine wc_block ?_ | refine po_block ?_ | refine wc_ret ?_ | refine po_then_ret ?_ | refine po_block_ret ?_ | refine wc_exit ?_ | refine po_then_exit ?_ | refine po_block_exit ?_ | refine po_block_pass rfl ?_ | refine wc_skip ?_)
  refine wl_fx (fx_call_mk (cap := []) (spec := fun w' hw => mixed_spec a sa ra b sb rb 61 [] (fun i => ra.getD i default &&& ~~~ rb.getD i default) (fun i j => (fun x y => x && !y) (bt ra i j) (bt rb i j)) w' (hw.now ha (.head _)) (hw.now hb (.head _)) (fun he i j hi hj => ?_) (fun _ i w2 _ _ => less1_spec _ _ w2)) (next := ?_))
  · obtain ⟨h1, h2, rfl⟩ := erTwo_zero he
    obtain ⟨m, rfl, hm64, hlen⟩ := relOk_nat h1
    rw [Int.toNat_natCast]
    simp only [bt]
    by_cases hj2 : j < m
    · simp [hj2, hj]
    · have e1 := getLsb_not_high ra m i j h1
      have e2 := getLsb_not_high rb m i j h2
      simp only [hj2, decide_false, Bool.false_and] at e1 e2
      simp only [BitVec.getLsbD_or, BitVec.getLsbD_and, BitVec.getLsbD_not, e1, e2, hj2]; simp
  rintro v n1 es w1 ⟨s1, hs1, rfl, rfl⟩
  repeat (first | (show KP _ (wpList _ _ _ (⟨some _, _, _, _, _, none⟩ :: _)) _ _; refine wl_a (next := ?_)) | (show KP _ (wpList _ _ _ (⟨some _, _, _, _, _, some _⟩ :: _)) _ _; refine wl_ag (next := ?_)) | refine wl_nil ?_ | refine po_then ?_ | refine wc_seq ?_ | refine wc_region ?_ | refine wc_block ?_ | refine po_block ?_ | refine wc_ret ?_ | refine po_then_ret ?_ | refine po_block_ret ?_ | refine wc_exit ?_ | refine po_then_exit ?_ | refine po_block_exit ?_ | refine po_block_pass rfl ?_ | refine wc_skip ?_)
  refine wl_fx (fx_store_box (i := 1) (hi := rfl) (next := ?_))
  repeat (first | (show KP _ (wpList _ _ _ (⟨some _, _, _, _, _, none⟩ :: _)) _ _; refine wl_a (next := ?_)) | (show KP _ (wpList _ _ _ (⟨some _, _, _, _, _, some _⟩ :: _)) _ _; refine wl_ag (next := ?_)) | refine wl_nil ?_ | refine po_then ?_ | refine wc_seq ?_ | refine wc_region ?_ | refine wc_block ?_ | refine po_block ?_ | refine wc_ret ?_ | refine po_then_ret ?_ | refine po_block_ret ?_ | refine wc_exit ?_ | refine po_then_exit ?_ | refine po_block_exit ?_ | refine po_block_pass rfl ?_ | refine wc_skip ?_)
  exact mk_ret Tryd.results34 (.cellN inferInstance rfl (.tail _ (.head _)) rfl (.tmp rfl .nil)) (.tail _ (.head _)) [ownW s1 _] [0] rfl (by decide) fun w' hw => ⟨s1, hs1, rfl, rfl⟩

/-- the closure of Then: one row more -/
theorem then11_spec (j : Nat) (r : W) (brow bb : Nat) (b : Int) (sb : Value) (rb : List W) (w : World) (hj : j < rb.length) (hbb : Bx (OffL [.box brow [u64 r] 38]) w bb [.int .i64 b, sb])
    (hb : Sl (OffL [.box brow [u64 r] 38]) w encW 1 sb rb) (hw : Mem [] [.box brow [u64 r] 38] w) :
    Mus Tryd.prog 57 [.int .i64 j, .pointer (some ⟨brow, 0, none⟩), .pointer (some ⟨bb, 0, none⟩)] [.box brow [u64 r] 38] w fun _ u es _ => u = .tuple #[] ∧ es = [.box brow [u64 (r ||| rb.getD j default)] 38] := by
  refine enter_mus Tryd.func57 Tryd.ntmps57 rfl rfl hw ?_
  repeat (first | (show KP _ (wpList _ _ _ (⟨some _, _, _, _, _, none⟩ :: _)) _ _; refine wl_a (next := ?_)) | (show KP _ (wpList _ _ _ (⟨some _, _, _, _, _, some _⟩ :: _)) _ _; refine wl_ag (next := ?_)) | refine wl_nil ?_ | refine po_then ?_ | refine wc_seq ?_ | refine wc_region ?_ | refine wc_block ?_ | refine po_block ?_ | refine wc_ret ?_ | refine po_then_ret ?_ | refine po_block_ret ?_ | refine wc_exit ?_ | refine po_then_exit ?_ | refine po_block_exit ?_ | refine po_block_pass rfl ?_ | refine wc_skip ?_)
  refine wc_draw [0, 1, 2, 3, 4, 5, 6, 7] mixed ?_
  repeat (first | refine kg_a (next := ?_) | refine kg_ag (next := ?_) | refine kg_end (h := ?_))
  refine kg_z (h := fx_store_box (i := 0) (hi := rfl) (next := ?_))
  repeat (first | (show KP _ (wpList _ _ _ (⟨some _, _, _, _, _, none⟩ :: _)) _ _; refine wl_a (next := ?_)) | (show KP _ (wpList _ _ _ (⟨some _, _, _, _, _, some _⟩ :: _)) _ _; refine wl_ag (next := ?_)) | refine wl_nil ?_ | refine po_then ?_ | refine wc_seq ?_ | refine wc_region ?_ | refine wc_block ?_ | refine po_block ?_ | refine wc_ret ?_ | refine po_then_ret ?_ | refine po_block_ret ?_ | refine wc_exit ?_ | refine po_then_exit ?_ | refine po_block_exit ?_ | refine po_block_pass rfl ?_ | refine wc_skip ?_)
  exact mus_end Tryd.results57 .nil (.head _) [_] [0] rfl (by decide) fun w' hw => ⟨rfl, rfl⟩

set_option maxHeartbeats 800000 in
theorem then1_spec (x y : W) (bb : Nat) (b : Int) (sb : Value) (rb : List W) (w : World) (hT : Tab w) (hx : ∀ j, x.getLsbD j = true → j < rb.length) (hbb : Bx All w bb [.int .i64 b, sb]) (hb : Sl All w encW 1 sb rb) :
    Pur Tryd.prog 56 [u64 x, u64 y, .pointer (some ⟨bb, 0, none⟩)] w fun _ v _ => v = u64 (thenRow x rb) := by
  refine enter_pur Tryd.func56 Tryd.ntmps56 rfl rfl ?_
  repeat (first | (show KP _ (wpList _ _ _ (⟨some _, _, _, _, _, none⟩ :: _)) _ _; refine wl_a (next := ?_)) | (show KP _ (wpList _ _ _ (⟨some _, _, _, _, _, some _⟩ :: _)) _ _; refine wl_ag (next := ?_)) | refine wl_nil ?_ | refine po_then ?_ | refine wc_seq ?_ | refine wc_region ?_ | refine wc_block ?_ | refine po_block ?_ | refine wc_ret ?_ | refine po_then_ret ?_ | refine po_block_ret ?_ | refine wc_exit ?_ | refine po_then_exit ?_ | refine po_block_exit ?_ | refine po_block_pass rfl ?_ | refine wc_skip ?_)
  refine wl_fx (fx_alloc (next := ?_)); intro brow
  repeat (first | (show KP _ (wpList _ _ _ (⟨some _, _, _, _, _, none⟩ :: _)) _ _; refine wl_a (next := ?_)) | (show KP _ (wpList _ _ _ (⟨some _, _, _, _, _, some _⟩ :: _)) _ _; refine wl_ag (next := ?_)) | refine wl_nil ?_ | refine po_then ?_ | refine wc_seq ?_ | refine wc_region ?_ | refine wc_block ?_ | refine po_block ?_ | refine wc_ret ?_ | refine po_then_ret ?_ | refine po_block_ret ?_ | refine wc_exit ?_ | refine po_then_exit ?_ | refine po_block_exit ?_ | refine po_block_pass rfl ?_ | refine wc_skip ?_)
  refine wl_fx (fx_call_mus (es := [.box brow [u64 0#64] 38]) (H := []) (spec := fun w' hw' =>
    each_spec x 57 [.pointer (some ⟨brow, 0, none⟩), .pointer (some ⟨bb, 0, none⟩)] (fun js es => es = [.box brow [u64 (js.foldl (fun r j => r ||| rb.getD j default) 0#64)] 38]) _ w' hw'.app_l.nob rfl
      (hw'.slOff hT (.head _) (fun e he => he)) ?_) (next := ?_))
  · rintro js j e w2 rfl hj hbit _ hm
    refine (then11_spec j _ brow bb b sb rb w2 (hx j hbit) (hm.bxOff (hw'.bxOff hbb (.head _) (fun e he => he)) (.head _) (fun e he => he)) (hm.slOff (hw'.slOff hb (.head _) (fun e he => he)) (.head _) (fun e he => he)) hm.nob).mono ?_
    rintro n u es w3 ⟨rfl, rfl⟩
    exact ⟨rfl, by rw [List.foldl_append]; rfl⟩
  · rintro u n es w2 ⟨rfl, rfl⟩
    repeat (first | (show KP _ (wpList _ _ _ (⟨some _, _, _, _, _, none⟩ :: _)) _ _; refine wl_a (next := ?_)) | (show KP _ (wpList _ _ _ (⟨some _, _, _, _, _, some _⟩ :: _)) _ _; refine wl_ag (next := ?_)) | refine wl_nil ?_ | refine po_then ?_ | refine wc_seq ?_ | refine wc_region ?_ | refine wc_block ?_ | refine po_block ?_ | refine wc_ret ?_ | refine po_then_ret ?_ | refine po_block_ret ?_ | refine wc_exit ?_ | refine po_then_exit ?_ | refine po_block_exit ?_ | refine po_block_pass rfl ?_ | refine wc_skip ?_)
    exact pur_ret Tryd.results56 (.tmp rfl .nil) (.head _) fun w' hw => rfl

set_option maxHeartbeats 800000 in
theorem then_all (a : Int) (sa : Value) (ra : List W) (b : Int) (sb : Value) (rb : List W) (w : World) (ha : Sl All w encW 1 sa ra) (hb : Sl All w encW 1 sb rb) (hT : Tab w) :
    Mk Tryd.prog 29 [.agg #[.int .i64 a, sa], .agg #[.int .i64 b, sb]] w (RelΨ (n2 (erTwo a ra b rb) a) (thenS a ra b rb) (erTwo a ra b rb)) := by
  refine enter_mk Tryd.func29 Tryd.ntmps29 rfl rfl ?_
  repeat (first | (show KP _ (wpList _ _ _ (⟨some _, _, _, _, _, none⟩ :: _)) _ _; refine wl_a (next := ?_)) | (show KP _ (wpList _ _ _ (⟨some _, _, _, _, _, some _⟩ :: _)) _ _; refine wl_ag (next := ?_)) | refine wl_nil ?_ | refine po_then ?_ | refine wc_seq ?_ | refine wc_region ?_ | refine wc_block ?_ | refine po_block ?_ | refine wc_ret ?_ | refine po_then_ret ?_ | refine po_block_ret ?_ | refine wc_exit ?_ | refine po_then_exit ?_ | refine po_block_exit ?_ | refine po_block_pass rfl ?_ | refine wc_skip ?_)
  refine wl_fx (fx_box (next := ?_)); intro ba
  repeat (first | (show KP _ (wpList _ _ _ (⟨some _, _, _, _, _, none⟩ :: _)) _ _; refine wl_a (next := ?_)) | (show KP _ (wpList _ _ _ (⟨some _, _, _, _, _, some _⟩ :: _)) _ _; refine wl_ag (next := ?_)) | refine wl_nil ?_ | refine po_then ?_ | refine wc_seq ?_ | refine wc_region ?_ | refine wc_block ?_ | refine po_block ?_ | refine wc_ret ?_ | refine po_then_ret ?_ | refine po_block_ret ?_ | refine wc_exit ?_ | refine po_then_exit ?_ | refine po_block_exit ?_ | refine po_block_pass rfl ?_ | refine wc_skip ?_)
  refine wl_fx (fx_box (next := ?_)); intro bb
  repeat (first | (show KP _ (wpList _ _ _ (⟨some _, _, _, _, _, none⟩ :: _)) _ _; refine wl_a (next := ?_)) | (show KP _ (wpList _ _ _ (⟨some _, _, _, _, _, some _⟩ :: _)) _ _; refine wl_ag (next := ?_)) | refine wl_nil ?_ | refine po_then ?_ | refine wc_seq ?_ | refine wc_region ?_ | refine wc_block ?_ | refine po_block ?_ | refine wc_ret ?_ | refine po_then_ret ?_ | refine po_block_ret ?_ | refine wc_exit ?_ | refine po_then_exit ?_ | refine po_block_exit ?_ | refine po_block_pass rfl ?_ | refine wc_skip ?_)
  refine wl_fx (fx_alloc (next := ?_)); intro br
  repeat (first | (show KP _ (wpList _ _ _ (⟨some _, _, _, _, _, none⟩ :: _)) _ _; refine wl_a (next := ?_)) | (show KP _ (wpList _ _ _ (⟨some _, _, _, _, _, some _⟩ :: _)) _ _; refine wl_ag (next := ?_)) | refine wl_nil ?_ | refine po_then ?_ | refine wc_seq ?_ | refine wc_region ?_ | refine wc_block ?_ | refine po_block ?_ | refine wc_ret ?_ | refine po_then_ret ?_ | refine po_block_ret ?_ | refine wc_exit ?_ | refine po_then_exit ?_ | refine po_block_exit ?_ | refine po_block_pass rfl ?_ | refine wc_skip ?_)
  refine wl_fx (fx_call_mk (spec := fun w' hw => mixed_spec a sa ra b sb rb 56 [.pointer (some ⟨bb, 0, none⟩)] (fun i => thenRow (ra.getD i default) rb) (thenP a.toNat ra rb) w' (hw.now ha (.head _)) (hw.now hb (.head _)) (fun he i j hi hj => ?_) (fun he i w2 hi hw2 => 
    then1_spec _ _ bb b sb rb w2 (hw2.now (hw.now hT (.head _)) (.head _)) ?_ ((hw.bx (.tail _ (.head _)) trivial).mono (hw2.base _ (.head _)) (fun _ => trivial)) (hw2.now (hw.now hb (.head _)) (.head _)))) (next := ?_))
  · obtain ⟨h1, h2, rfl⟩ := erTwo_zero he
    obtain ⟨m, rfl, hm64, hlen⟩ := relOk_nat h1
    rw [Int.toNat_natCast]
    rw [thenRow_bit _ _ m j (fun q hq => by rcases Nat.lt_or_ge q m with h | h; exact h; rw [relOk_high h1 i q h] at hq; cases hq)]
    by_cases hj2 : j < m
    · simp [hj2]; rfl
    · simp only [hj2, decide_false, Bool.false_and]
      rw [List.any_eq_false]
      intro q _
      rw [relOk_bt h2 q j (by omega)]; simp
  · obtain ⟨h1, h2, rfl⟩ := erTwo_zero he
    obtain ⟨m, rfl, hm64, hlen⟩ := relOk_nat h1
    obtain ⟨m', hm', _, hlen'⟩ := relOk_nat h2
    intro q hq
    rcases Nat.lt_or_ge q m with h | h
    · omega
    · rw [relOk_high h1 i q h] at hq; cases hq
  rintro v n1 es w1 ⟨s1, hs1, rfl, rfl⟩
  repeat (first | (show KP _ (wpList _ _ _ (⟨some _, _, _, _, _, none⟩ :: _)) _ _; refine wl_a (next := ?_)) | (show KP _ (wpList _ _ _ (⟨some _, _, _, _, _, some _⟩ :: _)) _ _; refine wl_ag (next := ?_)) | refine wl_nil ?_ | refine po_then ?_ | refine wc_seq ?_ | refine wc_region ?_ | refine wc_block ?_ | refine po_block ?_ | refine wc_ret ?_ | refine po_then_ret ?_ | refine po_block_ret ?_ | refine wc_exit ?_ | refine po_then_exit ?_ | refine po_block_exit ?_ | refine po_block_pass rfl ?_ | refine wc_skip ?_)
  refine wl_fx (fx_store_box (i := 1) (hi := rfl) (next := ?_))
  repeat (first | (show KP _ (wpList _ _ _ (⟨some _, _, _, _, _, none⟩ :: _)) _ _; refine wl_a (next := ?_)) | (show KP _ (wpList _ _ _ (⟨some _, _, _, _, _, some _⟩ :: _)) _ _; refine wl_ag (next := ?_)) | refine wl_nil ?_ | refine po_then ?_ | refine wc_seq ?_ | refine wc_region ?_ | refine wc_block ?_ | refine po_block ?_ | refine wc_ret ?_ | refine po_then_ret ?_ | refine po_block_ret ?_ | refine wc_exit ?_ | refine po_then_exit ?_ | refine po_block_exit ?_ | refine po_block_pass rfl ?_ | refine wc_skip ?_)
  exact mk_ret Tryd.results29 (.cellN inferInstance rfl (.tail _ (.head _)) rfl (.tmp rfl .nil)) (.tail _ (.head _)) [ownW s1 _] [0] rfl (by decide) fun w' hw => ⟨s1, hs1, rfl, rfl⟩
end Go.Proofs.YtpncpbdfomgcgaaDoor
