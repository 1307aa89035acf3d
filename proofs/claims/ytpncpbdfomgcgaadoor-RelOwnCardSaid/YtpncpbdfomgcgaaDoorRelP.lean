/- The walk of the reference's Plus (by search). -/
import Derived.Test.YtpncpbdfomgcgaaDoorRelO
import Derived.Test.YtpncpbdfomgcgaaDoorRelV
namespace Go.Eng
open Go Go.RowKit
theorem kp_mem {N : Nat} {K : Act → World → Prop} {tm : Tm} {A A' : World → Prop} (hA : ∀ w, A w → A' w) (h : KP N K tm A') : KP N K tm A := by
  unfold KP at *; exact fun a w hs hw => h a w hs (hA w hw)
/-- the first so many of what is ours, and no more of it -/
theorem Mem.cutOwn {τ : Type} {enc : τ → List Value} {sz tt : Nat} {v : Value} {xs : List τ} {bs : List Base} {H : List Ent} {w : World} [he : Enc enc sz] (hw : Mem bs H w) (k : Nat) (hk : H[k]? = some (.own v tt sz enc xs)) (n : Nat) (hn : n ≤ xs.length) :
    Mem bs (H.set k (.own (cutV n v) tt sz enc (xs.take n))) w := by
  have ho : (Ent.own v tt sz enc xs).ok w := hw.own _ (List.mem_of_getElem? hk)
  have hfp : (Ent.own (cutV n v) tt sz enc (xs.take n)).fp = (Ent.own v tt sz enc xs).fp := by
    cases v with
    | slice a _ _ => cases a <;> rfl
    | _ => rfl
  refine hw.upd hk rfl rfl rfl (Nat.le_refl _) (fun _ _ _ => rfl) ?_ (fun q hq => ?_) (fun q hq => .inl (by rw [← hfp]; exact hq))
  · obtain ⟨h1, h2⟩ := ho
    have hlen : (xs.take n).length = n := by rw [List.length_take]; omega
    refine ⟨by rw [flatMap_length], ?_⟩
    rcases h2 with ⟨hv, h0⟩ | ⟨g, cap, cur, hv, hg, hh, h3, h4, h5, h6⟩
    · subst hv
      rw [hlen]
      obtain rfl : n = 0 := by omega
      exact .inl ⟨rfl, rfl⟩
    · subst hv
      rw [hlen]
      refine .inr ⟨g, cap, cur, rfl, hg, hh, by omega, h4, h5, ?_⟩
      rw [← flatMap_take xs n hn, ← h6, List.take_take, Nat.min_eq_left (Nat.mul_le_mul_right _ hn)]
  · rw [hfp] at hq; exact hw.inb _ (List.mem_of_getElem? hk) q hq
end Go.Eng
namespace Go.Proofs.YtpncpbdfomgcgaaDoor
open Go Go.Eng Go.Rl
attribute [local irreducible] wpList Code.wp bodyPost Exit.then Exit.inBlock Calls

def ints (ts : List Nat) : List Int := ts.map fun (t : Nat) => (t : Int)

theorem ints_snoc (us : List Nat) (j : Nat) : ints (us ++ [j]) = ints us ++ [(j : Int)] := by simp [ints]

set_option maxHeartbeats 1600000 in
theorem rplus_all (n : Int) (sv : Value) (rows : List W) (w : World) (h : Sl All w encW 1 sv rows) :
    Mk Tryd.prog 22 [.agg #[.int .i64 n, sv]] w (RelΨ (nOf (relOk n rows) n) (plusS n rows) (erOf (relOk n rows))) := by
  unfold nOf erOf plusS
  refine enter_mk Tryd.func22 Tryd.ntmps22 rfl rfl ?_
  repeat (first | (show KP _ (wpList _ _ _ (⟨some _, _, _, _, _, none⟩ :: _)) _ _; refine wl_a (next := ?_)) | (show KP _ (wpList _ _ _ (⟨some _, _, _, _, _, some _⟩ :: _)) _ _; refine wl_ag (next := ?_)) | refine wl_nil ?_ | refine po_then ?_ | refine wc_seq ?_ | refine wc_region ?_ | refine wc_block ?_ | refine po_block ?_ | refine wc_ret ?_ | refine po_then_ret ?_ | refine po_block_ret ?_ | refine wc_exit ?_ | refine po_then_exit ?_ | refine po_block_exit ?_ | refine po_block_pass rfl ?_ | refine wc_skip ?_)
  refine wl_fx (fx_box (next := ?_)); intro ba
  repeat (first | (show KP _ (wpList _ _ _ (⟨some _, _, _, _, _, none⟩ :: _)) _ _; refine wl_a (next := ?_)) | (show KP _ (wpList _ _ _ (⟨some _, _, _, _, _, some _⟩ :: _)) _ _; refine wl_ag (next := ?_)) | refine wl_nil ?_ | refine po_then ?_ | refine wc_seq ?_ | refine wc_region ?_ | refine wc_block ?_ | refine po_block ?_ | refine wc_ret ?_ | refine po_then_ret ?_ | refine po_block_ret ?_ | refine wc_exit ?_ | refine po_then_exit ?_ | refine po_block_exit ?_ | refine po_block_pass rfl ?_ | refine wc_skip ?_)
  refine wl_fx (fx_alloc (next := ?_)); intro br2
  repeat (first | (show KP _ (wpList _ _ _ (⟨some _, _, _, _, _, none⟩ :: _)) _ _; refine wl_a (next := ?_)) | (show KP _ (wpList _ _ _ (⟨some _, _, _, _, _, some _⟩ :: _)) _ _; refine wl_ag (next := ?_)) | refine wl_nil ?_ | refine po_then ?_ | refine wc_seq ?_ | refine wc_region ?_ | refine wc_block ?_ | refine po_block ?_ | refine wc_ret ?_ | refine po_then_ret ?_ | refine po_block_ret ?_ | refine wc_exit ?_ | refine po_then_exit ?_ | refine po_block_exit ?_ | refine po_block_pass rfl ?_ | refine wc_skip ?_)
  refine wl_fx (fx_call (spec := fun w' hw => may_spec n sv rows w' (hw.now h (.head _))) (next := ?_))
  rintro v n1 w1 rfl hn1
  repeat (first | (show KP _ (wpList _ _ _ (⟨some _, _, _, _, _, none⟩ :: _)) _ _; refine wl_a (next := ?_)) | (show KP _ (wpList _ _ _ (⟨some _, _, _, _, _, some _⟩ :: _)) _ _; refine wl_ag (next := ?_)) | refine wl_nil ?_ | refine po_then ?_ | refine wc_seq ?_ | refine wc_region ?_ | refine wc_block ?_ | refine po_block ?_ | refine wc_ret ?_ | refine po_then_ret ?_ | refine po_block_ret ?_ | refine wc_exit ?_ | refine po_then_exit ?_ | refine po_block_exit ?_ | refine po_block_pass rfl ?_ | refine wc_skip ?_)
  refine wc_cond rfl (fun h1 => ?_) (fun h1 => ?_)
  · repeat (first | (show KP _ (wpList _ _ _ (⟨some _, _, _, _, _, none⟩ :: _)) _ _; refine wl_a (next := ?_)) | (show KP _ (wpList _ _ _ (⟨some _, _, _, _, _, some _⟩ :: _)) _ _; refine wl_ag (next := ?_)) | refine wl_nil ?_ | refine po_then ?_ | refine wc_seq ?_ | refine wc_region ?_ | refine wc_block ?_ | refine po_block ?_ | refine wc_ret ?_ | refine po_then_ret ?_ | refine po_block_ret ?_ | refine wc_exit ?_ | refine po_then_exit ?_ | refine po_block_exit ?_ | refine po_block_pass rfl ?_ | refine wc_skip ?_)
    refine wl_fx (fx_store_box (i := 0) (hi := rfl) (next := ?_))
    repeat (first | (show KP _ (wpList _ _ _ (⟨some _, _, _, _, _, none⟩ :: _)) _ _; refine wl_a (next := ?_)) | (show KP _ (wpList _ _ _ (⟨some _, _, _, _, _, some _⟩ :: _)) _ _; refine wl_ag (next := ?_)) | refine wl_nil ?_ | refine po_then ?_ | refine wc_seq ?_ | refine wc_region ?_ | refine wc_block ?_ | refine po_block ?_ | refine wc_ret ?_ | refine po_then_ret ?_ | refine po_block_ret ?_ | refine wc_exit ?_ | refine po_then_exit ?_ | refine po_block_exit ?_ | refine po_block_pass rfl ?_ | refine wc_skip ?_)
    refine kp_nil 38 1 encW ?_
    refine mk_ret Tryd.results22 (.cellN inferInstance rfl (.tail _ (.head _)) rfl (.tmp rfl .nil)) (.tail _ (.head _)) [_] [0] rfl (by decide) fun w' hw => ?_
    simp only [Bool.not_eq_true'] at h1
    rw [h1]; exact ⟨_, sv_nil, rfl, rfl⟩
  · simp only [Bool.not_eq_false'] at h1
    rw [if_pos h1, if_pos h1, if_pos h1]
    obtain ⟨m, rfl, hm64, hlen⟩ := relOk_nat h1
    repeat (first | (show KP _ (wpList _ _ _ (⟨some _, _, _, _, _, none⟩ :: _)) _ _; refine wl_a (next := ?_)) | (show KP _ (wpList _ _ _ (⟨some _, _, _, _, _, some _⟩ :: _)) _ _; refine wl_ag (next := ?_)) | refine wl_nil ?_ | refine po_then ?_ | refine wc_seq ?_ | refine wc_region ?_ | refine wc_block ?_ | refine po_block ?_ | refine wc_ret ?_ | refine po_then_ret ?_ | refine po_block_ret ?_ | refine wc_exit ?_ | refine po_then_exit ?_ | refine po_block_exit ?_ | refine po_block_pass rfl ?_ | refine wc_skip ?_)
    refine wl_fx (fx_call_mk (spec := fun w' _ => none_own m w' (by omega)) (next := ?_))
    rintro v n' es w1 ⟨sr, hsr, rfl, rfl⟩
    repeat (first | (show KP _ (wpList _ _ _ (⟨some _, _, _, _, _, none⟩ :: _)) _ _; refine wl_a (next := ?_)) | (show KP _ (wpList _ _ _ (⟨some _, _, _, _, _, some _⟩ :: _)) _ _; refine wl_ag (next := ?_)) | refine wl_nil ?_ | refine po_then ?_ | refine wc_seq ?_ | refine wc_region ?_ | refine wc_block ?_ | refine po_block ?_ | refine wc_ret ?_ | refine po_then_ret ?_ | refine po_block_ret ?_ | refine wc_exit ?_ | refine po_then_exit ?_ | refine po_block_exit ?_ | refine po_block_pass rfl ?_ | refine wc_skip ?_)
    refine wl_fx (fx_alloc (next := ?_)); intro br
    repeat (first | (show KP _ (wpList _ _ _ (⟨some _, _, _, _, _, none⟩ :: _)) _ _; refine wl_a (next := ?_)) | (show KP _ (wpList _ _ _ (⟨some _, _, _, _, _, some _⟩ :: _)) _ _; refine wl_ag (next := ?_)) | refine wl_nil ?_ | refine po_then ?_ | refine wc_seq ?_ | refine wc_region ?_ | refine wc_block ?_ | refine po_block ?_ | refine wc_ret ?_ | refine po_then_ret ?_ | refine po_block_ret ?_ | refine wc_exit ?_ | refine po_then_exit ?_ | refine po_block_exit ?_ | refine po_block_pass rfl ?_ | refine wc_skip ?_)
    refine wl_fx (fx_store_box (i := 0) (hi := rfl) (next := ?_))
    repeat (first | (show KP _ (wpList _ _ _ (⟨some _, _, _, _, _, none⟩ :: _)) _ _; refine wl_a (next := ?_)) | (show KP _ (wpList _ _ _ (⟨some _, _, _, _, _, some _⟩ :: _)) _ _; refine wl_ag (next := ?_)) | refine wl_nil ?_ | refine po_then ?_ | refine wc_seq ?_ | refine wc_region ?_ | refine wc_block ?_ | refine po_block ?_ | refine wc_ret ?_ | refine po_then_ret ?_ | refine po_block_ret ?_ | refine wc_exit ?_ | refine po_then_exit ?_ | refine po_block_exit ?_ | refine po_block_pass rfl ?_ | refine wc_skip ?_)
    let cl : Nat → Nat → Bool := bt (closedL m rows)
    rw [upTo_zero m cl]
    refine wc_loop (fun s : Nat => s ≤ m) (fun s => [(5, true, .int .i64 s), (4, true, .pointer (some ⟨br, 0, none⟩)), (2, true, .pointer (some ⟨br2, 0, none⟩)), (1, true, .pointer (some ⟨ba, 0, none⟩))])
      (fun s => Mem [(w, All)] [.box br [.int .i64 m, sr] 27, ownW sr (relOf m (upTo cl s)), .box br2 [.int .i64 0, .slice none 0 0] 27, .box ba [.int .i64 m, sv] 27]) (fun s => m - s) (0) (Nat.zero_le _) ⟨rfl, rfl, rfl, rfl, trivial⟩ (fun _ h => h.last rfl) ?_
    rintro i hi
    repeat (first | (show KP _ (wpList _ _ _ (⟨some _, _, _, _, _, none⟩ :: _)) _ _; refine wl_a (next := ?_)) | (show KP _ (wpList _ _ _ (⟨some _, _, _, _, _, some _⟩ :: _)) _ _; refine wl_ag (next := ?_)) | refine wl_nil ?_ | refine po_then ?_ | refine wc_seq ?_ | refine wc_region ?_ | refine wc_block ?_ | refine po_block ?_ | refine wc_ret ?_ | refine po_then_ret ?_ | refine po_block_ret ?_ | refine wc_exit ?_ | refine po_then_exit ?_ | refine po_block_exit ?_ | refine po_block_pass rfl ?_ | refine wc_skip ?_)
    refine wc_cond_dec rfl (fun h2 => ?_) (fun h2 => ?_)
    · rw [show relOf m (upTo cl i) = relOf m (srch m i cl (fun _ => false)) from relOf_ext fun a b _ _ => by unfold upTo srch; by_cases ha : a < i <;> simp [ha]]
      repeat (first | (show KP _ (wpList _ _ _ (⟨some _, _, _, _, _, none⟩ :: _)) _ _; refine wl_a (next := ?_)) | (show KP _ (wpList _ _ _ (⟨some _, _, _, _, _, some _⟩ :: _)) _ _; refine wl_ag (next := ?_)) | refine wl_nil ?_ | refine po_then ?_ | refine wc_seq ?_ | refine wc_region ?_ | refine wc_block ?_ | refine po_block ?_ | refine wc_ret ?_ | refine po_then_ret ?_ | refine po_block_ret ?_ | refine wc_exit ?_ | refine po_then_exit ?_ | refine po_block_exit ?_ | refine po_block_pass rfl ?_ | refine wc_skip ?_)
      refine wl_fx (fx_lit (next := ?_))
      intro v23 hv23
      repeat (first | (show KP _ (wpList _ _ _ (⟨some _, _, _, _, _, none⟩ :: _)) _ _; refine wl_a (next := ?_)) | (show KP _ (wpList _ _ _ (⟨some _, _, _, _, _, some _⟩ :: _)) _ _; refine wl_ag (next := ?_)) | refine wl_nil ?_ | refine po_then ?_ | refine wc_seq ?_ | refine wc_region ?_ | refine wc_block ?_ | refine po_block ?_ | refine wc_ret ?_ | refine po_then_ret ?_ | refine po_block_ret ?_ | refine wc_exit ?_ | refine po_then_exit ?_ | refine po_block_exit ?_ | refine po_block_pass rfl ?_ | refine wc_skip ?_)
      refine wc_loop (fun s : Value × List Nat × (Nat → Bool) => SV s.1 ∧ Sr (bt rows) m i s.2.1 s.2.2 ∧ s.2.1.length + left m s.2.2 ≤ m + 1) (fun s => [(6, true, s.1), (5, true, .int .i64 i), (4, true, .pointer (some ⟨br, 0, none⟩)), (2, true, .pointer (some ⟨br2, 0, none⟩)), (1, true, .pointer (some ⟨ba, 0, none⟩))])
        (fun s => Mem [(w, All)] [ownI s.1 (ints s.2.1), .box br [.int .i64 m, sr] 27, ownW sr (relOf m (srch m i cl s.2.2)), .box br2 [.int .i64 0, .slice none 0 0] 27, .box ba [.int .i64 m, sv] 27]) (fun s => s.2.1.length + left m s.2.2) (v23, [i], fun _ => false) ⟨hv23, Sr.start _ m i (by omega), by have := left_le m (fun _ => false); simp; omega⟩ ⟨rfl, rfl, rfl, rfl, rfl, trivial⟩ (fun _ h => h.last rfl) ?_
      rintro ⟨tv, ts, V⟩ ⟨htv, hS, hb⟩
      dsimp only at htv hS hb ⊢
      have hil : (ints ts).length = ts.length := by simp [ints]
      repeat (first | (show KP _ (wpList _ _ _ (⟨some _, _, _, _, _, none⟩ :: _)) _ _; refine wl_a (next := ?_)) | (show KP _ (wpList _ _ _ (⟨some _, _, _, _, _, some _⟩ :: _)) _ _; refine wl_ag (next := ?_)) | refine wl_nil ?_ | refine po_then ?_ | refine wc_seq ?_ | refine wc_region ?_ | refine wc_block ?_ | refine po_block ?_ | refine wc_ret ?_ | refine po_then_ret ?_ | refine po_block_ret ?_ | refine wc_exit ?_ | refine po_then_exit ?_ | refine po_block_exit ?_ | refine po_block_pass rfl ?_ | refine wc_skip ?_)
      refine wc_cond_dec rfl (fun h3 => ?_) (fun h3 => ?_)
      · obtain ⟨ts, x, rfl⟩ : ∃ us x, ts = us ++ [x] := by
          rcases List.eq_nil_or_concat ts with rfl | ⟨us, x, rfl⟩
          · simp [ints] at h3
          · exact ⟨us, x, by simp⟩
        have hx : x < m := (hS.todo x (by simp)).1
        have hl2 : (ints (ts ++ [x])).length = ts.length + 1 := by simp [ints]
        have hx2 : x < rows.length := by omega
        simp only [List.length_append, List.length_singleton] at hb
        repeat (first | (show KP _ (wpList _ _ _ (⟨some _, _, _, _, _, none⟩ :: _)) _ _; refine wl_a (next := ?_)) | (show KP _ (wpList _ _ _ (⟨some _, _, _, _, _, some _⟩ :: _)) _ _; refine wl_ag (next := ?_)) | refine wl_nil ?_ | refine po_then ?_ | refine wc_seq ?_ | refine wc_region ?_ | refine wc_block ?_ | refine po_block ?_ | refine wc_ret ?_ | refine po_then_ret ?_ | refine po_block_ret ?_ | refine wc_exit ?_ | refine po_then_exit ?_ | refine po_block_exit ?_ | refine po_block_pass rfl ?_ | refine wc_skip ?_)
        have e1 : (ints (ts ++ [x])).getD (((ints (ts ++ [x])).length : Int) - 1).toNat default = x := by
          rw [hl2, show ((ts.length + 1 : Nat) : Int) - 1 = (ts.length : Nat) from by omega, Int.toNat_natCast]
          simp [ints, List.getD_eq_getElem?_getD]
        rw [e1]
        have e2 : ((ints (ts ++ [x])).length : Int) - 1 = (ts.length : Nat) := by rw [hl2]; omega
        refine wl_a (h := qy_cut_own (n := ts.length) (tt := 3) (xs := ints (ts ++ [x])) (enc := encI) ⟨_, rfl, fun _ => rfl⟩ ⟨_, by rw [← e2]; rfl, fun _ => rfl⟩ (.head _) (fun _ => by omega)) (next := ?_)
        refine kp_mem (fun _ h => h.cutOwn (τ := Int) 0 rfl ts.length (by omega)) ?_
        rw [show (ints (ts ++ [x])).take ts.length = ints ts from by simp [ints]]
        repeat (first | (show KP _ (wpList _ _ _ (⟨some _, _, _, _, _, none⟩ :: _)) _ _; refine wl_a (next := ?_)) | (show KP _ (wpList _ _ _ (⟨some _, _, _, _, _, some _⟩ :: _)) _ _; refine wl_ag (next := ?_)) | refine wl_nil ?_ | refine po_then ?_ | refine wc_seq ?_ | refine wc_region ?_ | refine wc_block ?_ | refine po_block ?_ | refine wc_ret ?_ | refine po_then_ret ?_ | refine po_block_ret ?_ | refine wc_exit ?_ | refine po_then_exit ?_ | refine po_block_exit ?_ | refine po_block_pass rfl ?_ | refine wc_skip ?_)
        refine wc_loop (fun s : Nat × Value × List Nat × (Nat → Bool) => s.1 ≤ m ∧ SV s.2.1 ∧ Sr2 (bt rows) m i x s.1 s.2.2.1 s.2.2.2 ∧ s.2.2.1.length + left m s.2.2.2 = ts.length + left m V) (fun s => [(8, true, .int .i64 s.1), (7, true, .int .i64 x), (6, true, s.2.1), (5, true, .int .i64 i), (4, true, .pointer (some ⟨br, 0, none⟩)), (2, true, .pointer (some ⟨br2, 0, none⟩)), (1, true, .pointer (some ⟨ba, 0, none⟩))])
          (fun s => Mem [(w, All)] [ownI s.2.1 (ints s.2.2.1), .box br [.int .i64 m, sr] 27, ownW sr (relOf m (srch m i cl s.2.2.2)), .box br2 [.int .i64 0, .slice none 0 0] 27, .box ba [.int .i64 m, sv] 27]) (fun s => m - s.1) (0, cutV ts.length tv, ts, V) ⟨Nat.zero_le _, htv.cut _, hS.pop, rfl⟩ ⟨rfl, rfl, rfl, rfl, rfl, rfl, rfl, trivial⟩ (fun _ h => h.last rfl) ?_
        rintro ⟨j, tv2, us, U⟩ ⟨hj, htv2, hS2, hb2⟩
        dsimp only at hj htv2 hS2 hb2 ⊢
        have hul : (ints us).length = us.length := by simp [ints]
        repeat (first | (show KP _ (wpList _ _ _ (⟨some _, _, _, _, _, none⟩ :: _)) _ _; refine wl_a (next := ?_)) | (show KP _ (wpList _ _ _ (⟨some _, _, _, _, _, some _⟩ :: _)) _ _; refine wl_ag (next := ?_)) | refine wl_nil ?_ | refine po_then ?_ | refine wc_seq ?_ | refine wc_region ?_ | refine wc_block ?_ | refine po_block ?_ | refine wc_ret ?_ | refine po_then_ret ?_ | refine po_block_ret ?_ | refine wc_exit ?_ | refine po_then_exit ?_ | refine po_block_exit ?_ | refine po_block_pass rfl ?_ | refine wc_skip ?_)
        refine wc_cond_dec rfl (fun h4 => ?_) (fun h4 => ?_)
        · have hrl : i < (relOf m (srch m i cl U)).length := by rw [relOf_length]; omega
          have hju : bt (relOf m (srch m i cl U)) i j = U j := by
            rw [relOf_bit _ _ hm64]; simp [srch, show i < m from by omega, show j < m from by omega]
          repeat (first | (show KP _ (wpList _ _ _ (⟨some _, _, _, _, _, none⟩ :: _)) _ _; refine wl_a (next := ?_)) | (show KP _ (wpList _ _ _ (⟨some _, _, _, _, _, some _⟩ :: _)) _ _; refine wl_ag (next := ?_)) | refine wl_nil ?_ | refine po_then ?_ | refine wc_seq ?_ | refine wc_region ?_ | refine wc_block ?_ | refine po_block ?_ | refine wc_ret ?_ | refine po_then_ret ?_ | refine po_block_ret ?_ | refine wc_exit ?_ | refine po_then_exit ?_ | refine po_block_exit ?_ | refine po_block_pass rfl ?_ | refine wc_skip ?_)
          refine wl_fx (fx_call (spec := fun w' _ => bit_spec _ j w' (by omega)) (next := ?_))
          rintro v n3 w3 rfl hn3
          repeat (first | (show KP _ (wpList _ _ _ (⟨some _, _, _, _, _, none⟩ :: _)) _ _; refine wl_a (next := ?_)) | (show KP _ (wpList _ _ _ (⟨some _, _, _, _, _, some _⟩ :: _)) _ _; refine wl_ag (next := ?_)) | refine wl_nil ?_ | refine po_then ?_ | refine wc_seq ?_ | refine wc_region ?_ | refine wc_block ?_ | refine po_block ?_ | refine wc_ret ?_ | refine po_then_ret ?_ | refine po_block_ret ?_ | refine wc_exit ?_ | refine po_then_exit ?_ | refine po_block_exit ?_ | refine po_block_pass rfl ?_ | refine wc_skip ?_)
          refine wl_gx (h := gx_call (spec := fun _ w' _ => bit_spec _ j w' (by omega))) (next := ?_)
          rw [show ((relOf m (srch m i cl U)).getD i default).getLsbD j = U j from hju]
          repeat (first | (show KP _ (wpList _ _ _ (⟨some _, _, _, _, _, none⟩ :: _)) _ _; refine wl_a (next := ?_)) | (show KP _ (wpList _ _ _ (⟨some _, _, _, _, _, some _⟩ :: _)) _ _; refine wl_ag (next := ?_)) | refine wl_nil ?_ | refine po_then ?_ | refine wc_seq ?_ | refine wc_region ?_ | refine wc_block ?_ | refine po_block ?_ | refine wc_ret ?_ | refine po_then_ret ?_ | refine po_block_ret ?_ | refine wc_exit ?_ | refine po_then_exit ?_ | refine po_block_exit ?_ | refine po_block_pass rfl ?_ | refine wc_skip ?_)
          refine wc_cond rfl (fun h5 => ?_) (fun h5 => ?_)
          · simp only [Bool.and_eq_true, Bool.not_eq_true'] at h5
            have hla := left_add m U j (by omega) h5.2
            repeat (first | (show KP _ (wpList _ _ _ (⟨some _, _, _, _, _, none⟩ :: _)) _ _; refine wl_a (next := ?_)) | (show KP _ (wpList _ _ _ (⟨some _, _, _, _, _, some _⟩ :: _)) _ _; refine wl_ag (next := ?_)) | refine wl_nil ?_ | refine po_then ?_ | refine wc_seq ?_ | refine wc_region ?_ | refine wc_block ?_ | refine po_block ?_ | refine wc_ret ?_ | refine po_then_ret ?_ | refine po_block_ret ?_ | refine wc_exit ?_ | refine po_then_exit ?_ | refine po_block_exit ?_ | refine po_block_pass rfl ?_ | refine wc_skip ?_)
            refine wl_fx (fx_call_mu 2 rfl (spec := fun w' hw => with_spec m sr _ i j w' hrl (by omega) hsr (hw.only (.tail _ (.tail _ (.head _))))) (next := ?_))
            rintro v n4 e' w4 ⟨rfl, rfl⟩
            repeat (first | (show KP _ (wpList _ _ _ (⟨some _, _, _, _, _, none⟩ :: _)) _ _; refine wl_a (next := ?_)) | (show KP _ (wpList _ _ _ (⟨some _, _, _, _, _, some _⟩ :: _)) _ _; refine wl_ag (next := ?_)) | refine wl_nil ?_ | refine po_then ?_ | refine wc_seq ?_ | refine wc_region ?_ | refine wc_block ?_ | refine po_block ?_ | refine wc_ret ?_ | refine po_then_ret ?_ | refine po_block_ret ?_ | refine wc_exit ?_ | refine po_then_exit ?_ | refine po_block_exit ?_ | refine po_block_pass rfl ?_ | refine wc_skip ?_)
            refine wl_fx (fx_store_box (i := 1) (hi := rfl) (next := ?_))
            repeat (first | (show KP _ (wpList _ _ _ (⟨some _, _, _, _, _, none⟩ :: _)) _ _; refine wl_a (next := ?_)) | (show KP _ (wpList _ _ _ (⟨some _, _, _, _, _, some _⟩ :: _)) _ _; refine wl_ag (next := ?_)) | refine wl_nil ?_ | refine po_then ?_ | refine wc_seq ?_ | refine wc_region ?_ | refine wc_block ?_ | refine po_block ?_ | refine wc_ret ?_ | refine po_then_ret ?_ | refine po_block_ret ?_ | refine wc_exit ?_ | refine po_then_exit ?_ | refine po_block_exit ?_ | refine po_block_pass rfl ?_ | refine wc_skip ?_)
            rw [srch_put m i cl U hm64 j (by omega) (by omega)]
            refine wl_fx (fx_lit (next := ?_))
            intro v67 hv67
            repeat (first | (show KP _ (wpList _ _ _ (⟨some _, _, _, _, _, none⟩ :: _)) _ _; refine wl_a (next := ?_)) | (show KP _ (wpList _ _ _ (⟨some _, _, _, _, _, some _⟩ :: _)) _ _; refine wl_ag (next := ?_)) | refine wl_nil ?_ | refine po_then ?_ | refine wc_seq ?_ | refine wc_region ?_ | refine wc_block ?_ | refine po_block ?_ | refine wc_ret ?_ | refine po_then_ret ?_ | refine po_block_ret ?_ | refine wc_exit ?_ | refine po_then_exit ?_ | refine po_block_exit ?_ | refine po_block_pass rfl ?_ | refine wc_skip ?_)
            refine wl_fx (fx_append_own (k := 1) (hk := rfl) (hlen := by rw [hul]; simp; omega) (next := ?_))
            intro v68 hv68
            repeat (first | (show KP _ (wpList _ _ _ (⟨some _, _, _, _, _, none⟩ :: _)) _ _; refine wl_a (next := ?_)) | (show KP _ (wpList _ _ _ (⟨some _, _, _, _, _, some _⟩ :: _)) _ _; refine wl_ag (next := ?_)) | refine wl_nil ?_ | refine po_then ?_ | refine wc_seq ?_ | refine wc_region ?_ | refine wc_block ?_ | refine po_block ?_ | refine wc_ret ?_ | refine po_then_ret ?_ | refine po_block_ret ?_ | refine wc_exit ?_ | refine po_then_exit ?_ | refine po_block_exit ?_ | refine po_block_pass rfl ?_ | refine wc_skip ?_)
            refine po_loop (j + 1, v68, us ++ [j], fun b => U b || decide (b = j)) ⟨by dsimp only; omega, hv68, hS2.push (by omega) h5.1, by dsimp only; rw [List.length_append, List.length_singleton]; omega⟩ (by dsimp only; omega) ⟨rfl, rfl, rfl, rfl, rfl, rfl, rfl, trivial⟩ (fun _ h => by dsimp only; rw [ints_snoc]; exact (h.last rfl).sel [1, 2, 3, 4, 5] rfl (by decide))
          · repeat (first | (show KP _ (wpList _ _ _ (⟨some _, _, _, _, _, none⟩ :: _)) _ _; refine wl_a (next := ?_)) | (show KP _ (wpList _ _ _ (⟨some _, _, _, _, _, some _⟩ :: _)) _ _; refine wl_ag (next := ?_)) | refine wl_nil ?_ | refine po_then ?_ | refine wc_seq ?_ | refine wc_region ?_ | refine wc_block ?_ | refine po_block ?_ | refine wc_ret ?_ | refine po_then_ret ?_ | refine po_block_ret ?_ | refine wc_exit ?_ | refine po_then_exit ?_ | refine po_block_exit ?_ | refine po_block_pass rfl ?_ | refine wc_skip ?_)
            exact po_loop (j + 1, tv2, us, U) ⟨by dsimp only; omega, htv2, hS2.skip h5, hb2⟩ (by dsimp only; omega) ⟨rfl, rfl, rfl, rfl, rfl, rfl, rfl, trivial⟩ (fun _ h => h.last rfl)
        · obtain rfl : j = m := by omega
          repeat (first | (show KP _ (wpList _ _ _ (⟨some _, _, _, _, _, none⟩ :: _)) _ _; refine wl_a (next := ?_)) | (show KP _ (wpList _ _ _ (⟨some _, _, _, _, _, some _⟩ :: _)) _ _; refine wl_ag (next := ?_)) | refine wl_nil ?_ | refine po_then ?_ | refine wc_seq ?_ | refine wc_region ?_ | refine wc_block ?_ | refine po_block ?_ | refine wc_ret ?_ | refine po_then_ret ?_ | refine po_block_ret ?_ | refine wc_exit ?_ | refine po_then_exit ?_ | refine po_block_exit ?_ | refine po_block_pass rfl ?_ | refine wc_skip ?_)
          refine po_loop (tv2, us, U) ⟨htv2, hS2.done, by dsimp only; omega⟩ (by dsimp only; rw [List.length_append, List.length_singleton]; omega) ⟨rfl, rfl, rfl, rfl, rfl, trivial⟩ (fun _ h => h.last rfl)
      · obtain rfl : ts = [] := by
          cases ts with
          | nil => rfl
          | cons t ts => simp [ints] at h3
        have hV : relOf m (srch m i cl V) = relOf m (upTo cl (i + 1)) := relOf_ext fun a b _ _ => by
          unfold srch upTo
          by_cases ha : a < i
          · simp [ha, show a < i + 1 from by omega]
          · by_cases ha2 : a = i
            · subst ha2
              have := hS.all (fun a b hp => by rcases Nat.lt_or_ge b m with h | h; exact h; rw [relOk_bt h1 a b h] at hp; cases hp) b
              rw [← closedL_bt h1] at this
              simp only [Nat.lt_irrefl, if_false, decide_true, Bool.true_and, Nat.lt_succ_self]
              exact Bool.eq_iff_iff.2 this
            · simp [ha, ha2, show ¬ a < i + 1 from by omega]
        rw [hV]
        repeat (first | (show KP _ (wpList _ _ _ (⟨some _, _, _, _, _, none⟩ :: _)) _ _; refine wl_a (next := ?_)) | (show KP _ (wpList _ _ _ (⟨some _, _, _, _, _, some _⟩ :: _)) _ _; refine wl_ag (next := ?_)) | refine wl_nil ?_ | refine po_then ?_ | refine wc_seq ?_ | refine wc_region ?_ | refine wc_block ?_ | refine po_block ?_ | refine wc_ret ?_ | refine po_then_ret ?_ | refine po_block_ret ?_ | refine wc_exit ?_ | refine po_then_exit ?_ | refine po_block_exit ?_ | refine po_block_pass rfl ?_ | refine wc_skip ?_)
        exact po_loop (i + 1) (by omega) (by omega) ⟨rfl, rfl, rfl, rfl, trivial⟩ (fun _ h => (h.sel [1, 2, 3, 4] rfl (by decide)).last rfl)
    · repeat (first | (show KP _ (wpList _ _ _ (⟨some _, _, _, _, _, none⟩ :: _)) _ _; refine wl_a (next := ?_)) | (show KP _ (wpList _ _ _ (⟨some _, _, _, _, _, some _⟩ :: _)) _ _; refine wl_ag (next := ?_)) | refine wl_nil ?_ | refine po_then ?_ | refine wc_seq ?_ | refine wc_region ?_ | refine wc_block ?_ | refine po_block ?_ | refine wc_ret ?_ | refine po_then_ret ?_ | refine po_block_ret ?_ | refine wc_exit ?_ | refine po_then_exit ?_ | refine po_block_exit ?_ | refine po_block_pass rfl ?_ | refine wc_skip ?_)
      obtain rfl : i = m := by omega
      rw [upTo_all]
      refine wl_fx (fx_store_box (i := 2) (hi := rfl) (next := ?_))
      repeat (first | (show KP _ (wpList _ _ _ (⟨some _, _, _, _, _, none⟩ :: _)) _ _; refine wl_a (next := ?_)) | (show KP _ (wpList _ _ _ (⟨some _, _, _, _, _, some _⟩ :: _)) _ _; refine wl_ag (next := ?_)) | refine wl_nil ?_ | refine po_then ?_ | refine wc_seq ?_ | refine wc_region ?_ | refine wc_block ?_ | refine po_block ?_ | refine wc_ret ?_ | refine po_then_ret ?_ | refine po_block_ret ?_ | refine wc_exit ?_ | refine po_then_exit ?_ | refine po_block_exit ?_ | refine po_block_pass rfl ?_ | refine wc_skip ?_)
      refine mk_ret Tryd.results22 (.cellN inferInstance rfl (.tail _ (.tail _ (.head _))) rfl (.tmp rfl .nil)) (.head _) [ownW sr _] [1] rfl (by decide) fun w' hw => ?_
      refine ⟨sr, hsr, rfl, ?_⟩
      rw [Int.toNat_natCast, closedL_ok h1]
end Go.Proofs.YtpncpbdfomgcgaaDoor
