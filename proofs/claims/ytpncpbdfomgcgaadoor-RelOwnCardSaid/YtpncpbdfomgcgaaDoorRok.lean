/- THE WALK of RelOwn: printed by wip/gen_own.py. -/
import Derived.Test.YtpncpbdfomgcgaaDoorRelW
import Derived.Test.YtpncpbdfomgcgaaDoorRoh
namespace Go.Proofs.YtpncpbdfomgcgaaDoor
open Go Go.Eng Go.Rl
attribute [local irreducible] wpList Code.wp bodyPost Exit.then Exit.inBlock Calls

set_option maxHeartbeats 800000 in
theorem spoil_spec (n : Int) (sv : Value) (rows : List W) (k : Int) (w : World) (hv : SV sv) (hw : Mem [] [ownW sv rows] w) :
    Mu Tryd.prog 43 [.agg #[.int .i64 n, sv], .int .i64 k] (ownW sv rows) w fun _ v e' _ => v = .tuple #[] ∧ ∃ rows', e' = ownW sv rows' := by
  obtain ⟨_, cap, _, _, hl1, hl2⟩ := own_is (hw.own _ (.head _))
  unfold maxLen at hl2
  refine enter_mu Tryd.func43 Tryd.ntmps43 rfl rfl hw ?_
  repeat (first | (show KP _ (wpList _ _ _ (⟨some _, _, _, _, _, none⟩ :: _)) _ _; refine wl_a (next := ?_)) | (show KP _ (wpList _ _ _ (⟨some _, _, _, _, _, some _⟩ :: _)) _ _; refine wl_ag (next := ?_)) | refine wl_nil ?_ | refine po_then ?_ | refine wc_seq ?_ | refine wc_region ?_ | refine wc_block ?_ | refine po_block ?_ | refine wc_ret ?_ | refine po_then_ret ?_ | refine po_block_ret ?_ | refine wc_exit ?_ | refine po_then_exit ?_ | refine po_block_exit ?_ | refine po_block_pass rfl ?_ | refine wc_skip ?_)
  refine wl_fx (fx_box (next := ?_)); intro br
  repeat (first | (show KP _ (wpList _ _ _ (⟨some _, _, _, _, _, none⟩ :: _)) _ _; refine wl_a (next := ?_)) | (show KP _ (wpList _ _ _ (⟨some _, _, _, _, _, some _⟩ :: _)) _ _; refine wl_ag (next := ?_)) | refine wl_nil ?_ | refine po_then ?_ | refine wc_seq ?_ | refine wc_region ?_ | refine wc_block ?_ | refine po_block ?_ | refine wc_ret ?_ | refine po_then_ret ?_ | refine po_block_ret ?_ | refine wc_exit ?_ | refine po_then_exit ?_ | refine po_block_exit ?_ | refine po_block_pass rfl ?_ | refine wc_skip ?_)
  refine wc_loop (fun s : Nat × List W => s.1 ≤ rows.length ∧ s.2.length = rows.length) (fun s => [(4, true, .int .i64 s.1), (2, true, .pointer (some ⟨br, 0, none⟩)), (1, true, .int .i64 k)])
    (fun s => Mem [(w, Off (ownW sv rows))] [.box br [.int .i64 n, sv] 27, ownW sv s.2]) (fun s => rows.length - s.1) (0, rows) ⟨Nat.zero_le _, rfl⟩ ⟨rfl, rfl, rfl, trivial⟩ (fun _ h => h.last rfl) ?_
  rintro ⟨i, rs⟩ ⟨hi, hrs⟩
  dsimp only at hi hrs ⊢
  repeat (first | (show KP _ (wpList _ _ _ (⟨some _, _, _, _, _, none⟩ :: _)) _ _; refine wl_a (next := ?_)) | (show KP _ (wpList _ _ _ (⟨some _, _, _, _, _, some _⟩ :: _)) _ _; refine wl_ag (next := ?_)) | refine wl_nil ?_ | refine po_then ?_ | refine wc_seq ?_ | refine wc_region ?_ | refine wc_block ?_ | refine po_block ?_ | refine wc_ret ?_ | refine po_then_ret ?_ | refine po_block_ret ?_ | refine wc_exit ?_ | refine po_then_exit ?_ | refine po_block_exit ?_ | refine po_block_pass rfl ?_ | refine wc_skip ?_)
  refine wc_cond_dec rfl (fun h1 => ?_) (fun h1 => ?_)
  · have hi2 : i < rs.length := by omega
    repeat (first | (show KP _ (wpList _ _ _ (⟨some _, _, _, _, _, none⟩ :: _)) _ _; refine wl_a (next := ?_)) | (show KP _ (wpList _ _ _ (⟨some _, _, _, _, _, some _⟩ :: _)) _ _; refine wl_ag (next := ?_)) | refine wl_nil ?_ | refine po_then ?_ | refine wc_seq ?_ | refine wc_region ?_ | refine wc_block ?_ | refine po_block ?_ | refine wc_ret ?_ | refine po_then_ret ?_ | refine po_block_ret ?_ | refine wc_exit ?_ | refine po_then_exit ?_ | refine po_block_exit ?_ | refine po_block_pass rfl ?_ | refine wc_skip ?_)
    refine wl_fx (fx_store_own (k := 1) (hk := rfl) (next := ?_))
    repeat (first | (show KP _ (wpList _ _ _ (⟨some _, _, _, _, _, none⟩ :: _)) _ _; refine wl_a (next := ?_)) | (show KP _ (wpList _ _ _ (⟨some _, _, _, _, _, some _⟩ :: _)) _ _; refine wl_ag (next := ?_)) | refine wl_nil ?_ | refine po_then ?_ | refine wc_seq ?_ | refine wc_region ?_ | refine wc_block ?_ | refine po_block ?_ | refine wc_ret ?_ | refine po_then_ret ?_ | refine po_block_ret ?_ | refine wc_exit ?_ | refine po_then_exit ?_ | refine po_block_exit ?_ | refine po_block_pass rfl ?_ | refine wc_skip ?_)
    exact po_loop (i + 1, rs.set i _) ⟨by dsimp only; omega, by simp [hrs]⟩ (by dsimp only; omega) ⟨rfl, rfl, rfl, trivial⟩ (fun _ h => h.last rfl)
  · repeat (first | (show KP _ (wpList _ _ _ (⟨some _, _, _, _, _, none⟩ :: _)) _ _; refine wl_a (next := ?_)) | (show KP _ (wpList _ _ _ (⟨some _, _, _, _, _, some _⟩ :: _)) _ _; refine wl_ag (next := ?_)) | refine wl_nil ?_ | refine po_then ?_ | refine wc_seq ?_ | refine wc_region ?_ | refine wc_block ?_ | refine po_block ?_ | refine wc_ret ?_ | refine po_then_ret ?_ | refine po_block_ret ?_ | refine wc_exit ?_ | refine po_then_exit ?_ | refine po_block_exit ?_ | refine po_block_pass rfl ?_ | refine wc_skip ?_)
    exact mu_end Tryd.results43 .nil (.head _) (.tail _ (.head _)) fun w' hw => ⟨rfl, rs, rfl⟩

theorem roundS_le (n : Int) (rows : List W) : (roundS n rows).length ≤ 100 := by
  unfold roundS
  split
  · rename_i h
    obtain ⟨m, rfl, h64, _⟩ := relOk_nat h
    rw [Int.toNat_natCast]
    simp only [ints, List.length_map]
    unfold roundL
    cases hf : findR (bt rows) m m with
    | none => simp
    | some fl =>
      obtain ⟨_, _, hd⟩ := findR_some (bt rows) m m fl.1 fl.2 hf
      have := dl_le (p := bt rows) (m := m) (s := fl.1) m fl.1
      unfold dd at hd
      simp [pathR_length]; omega
  · simp
theorem lineS_le (n : Int) (rows : List W) : (lineS n rows).length ≤ 100 := by
  unfold lineS
  split
  · rename_i h
    obtain ⟨m, rfl, h64, _⟩ := relOk_nat h
    rw [Int.toNat_natCast]
    split
    · simp
    · have := bound m (lN m (bt rows) m) (lN_topo m).nodup (lN_topo m).lt
      simp only [ints, List.length_map]; omega
  · simp
theorem pairsS_le (n : Int) (rows : List W) : (pairsS n rows).length ≤ 5000 := by
  unfold pairsS
  split
  · rename_i h
    obtain ⟨m, rfl, h64, _⟩ := relOk_nat h
    have := pairsL_length m rows
    rw [Int.toNat_natCast]; omega
  · simp

set_option maxRecDepth 100000 in
set_option maxHeartbeats 16000000 in
theorem relOwn_spec (a : Int) (sa : Value) (ra : List W) (b : Int) (sb : Value) (rb : List W) (w : World) (ha : Sl All w encW 1 sa ra) (hb : Sl All w encW 1 sb rb) (hT : Tab w) (hba : ra.length * 8 ≤ 140737488351232) (hbb : rb.length * 8 ≤ 140737488351232) :
    Pur Tryd.prog 8 [.agg #[.int .i64 a, sa], .agg #[.int .i64 b, sb]] w fun _ v _ => v = .bool true := by
  have hle := ha.le
  have hle2 := hb.le
  refine enter_pur Tryd.func8 Tryd.ntmps8 rfl rfl ?_
  repeat (first | (show KP _ (wpList _ _ _ (⟨some _, _, _, _, _, none⟩ :: _)) _ _; refine wl_a (next := ?_)) | (show KP _ (wpList _ _ _ (⟨some _, _, _, _, _, some _⟩ :: _)) _ _; refine wl_ag (next := ?_)) | refine wl_nil ?_ | refine po_then ?_ | refine wc_seq ?_ | refine wc_region ?_ | refine wc_block ?_ | refine po_block ?_ | refine wc_ret ?_ | refine po_then_ret ?_ | refine po_block_ret ?_ | refine wc_exit ?_ | refine po_then_exit ?_ | refine po_block_exit ?_ | refine po_block_pass rfl ?_ | refine wc_skip ?_)
  refine wl_fx (fx_box (next := ?_)); intro ba
  repeat (first | (show KP _ (wpList _ _ _ (⟨some _, _, _, _, _, none⟩ :: _)) _ _; refine wl_a (next := ?_)) | (show KP _ (wpList _ _ _ (⟨some _, _, _, _, _, some _⟩ :: _)) _ _; refine wl_ag (next := ?_)) | refine wl_nil ?_ | refine po_then ?_ | refine wc_seq ?_ | refine wc_region ?_ | refine wc_block ?_ | refine po_block ?_ | refine wc_ret ?_ | refine po_then_ret ?_ | refine po_block_ret ?_ | refine wc_exit ?_ | refine po_then_exit ?_ | refine po_block_exit ?_ | refine po_block_pass rfl ?_ | refine wc_skip ?_)
  refine wl_fx (fx_box (next := ?_)); intro bb
  repeat (first | (show KP _ (wpList _ _ _ (⟨some _, _, _, _, _, none⟩ :: _)) _ _; refine wl_a (next := ?_)) | (show KP _ (wpList _ _ _ (⟨some _, _, _, _, _, some _⟩ :: _)) _ _; refine wl_ag (next := ?_)) | refine wl_nil ?_ | refine po_then ?_ | refine wc_seq ?_ | refine wc_region ?_ | refine wc_block ?_ | refine po_block ?_ | refine wc_ret ?_ | refine po_then_ret ?_ | refine po_block_ret ?_ | refine wc_exit ?_ | refine po_then_exit ?_ | refine po_block_exit ?_ | refine po_block_pass rfl ?_ | refine wc_skip ?_)
  refine wc_cutA (fun s : Nat × Nat × Value × Value => SV s.2.2.1 ∧ SV s.2.2.2) (fun s => [(6, true, .pointer (some ⟨s.2.1, 0, none⟩)), (5, true, .pointer (some ⟨s.1, 0, none⟩)), (3, true, .pointer (some ⟨bb, 0, none⟩)), (2, true, .pointer (some ⟨ba, 0, none⟩))])
    (fun s => Mem [(w, All)] [.box s.2.1 [.int .i64 b, cutV rb.length s.2.2.2] 27, ownW s.2.2.2 (rb ++ marks), .box s.1 [.int .i64 a, cutV ra.length s.2.2.1] 27, ownW s.2.2.1 (ra ++ marks), .box bb [.int .i64 b, sb] 27, .box ba [.int .i64 a, sa] 27]) ?_ ?_
  · refine wc_drawS (Mem [(w, All)] [.box bb [.int .i64 b, sb] 27, .box ba [.int .i64 a, sa] 27]) [0, 2, 999] mixed (fun _ h => h.last rfl) ?_
    repeat (first | refine kg_a (next := ?_) | refine kg_ag (next := ?_) | refine kg_end (h := ?_))
    refine kg_br3 1 4 5 (h1 := ?_) (h2 := ?_) (h3 := ?_)
    · refine ks_f [999] _ (hSS := fun _ h => h) (h := fx_call_mk (spec := fun w' hw => copy_spec a sa ra w' (hw.now ha (.head _)) hba) (next := ?_))
      rintro v n1 es w1 ⟨cv, hcv, rfl, rfl⟩
      have hcv' : SV (cutV ra.length cv) := hcv.cut _
      refine kp_S ?_ (fun _ h => (h.last rfl).sel [1, 2] rfl (by decide))
      refine kg_br3 3 4 5 (h1 := ?_) (h2 := ?_) (h3 := ?_)
      · refine ks_f [999] _ (hSS := fun _ h => h) (h := fx_call_mk (spec := fun w' hw => copy_spec b sb rb w' (hw.now hb (.tail _ (.head _))) hbb) (next := ?_))
        rintro v n2 es w2 ⟨dv, hdv, rfl, rfl⟩
        have hdv' : SV (cutV rb.length dv) := hdv.cut _
        refine kp_S ?_ (fun _ h => (h.last rfl).sel [2, 3] rfl (by decide))
        refine kg_br2 4 5 (h1 := ?_) (h2 := ?_)
        · refine ks_f [999] _ (hSS := fun _ h => h) (h := fx_alloc (next := ?_))
          intro bc
          refine kp_S ?_ (fun _ h => (h.last rfl).sel [3, 4] rfl (by decide))
          refine kg_br1 5 (h1 := ?_)
          refine ks_f [999] _ (hSS := fun _ h => h) (h := fx_alloc (next := ?_))
          intro bd
          refine kp_S ?_ (fun _ h => (h.last rfl).sel [4, 5] rfl (by decide))
          refine kg_br1 6 (h1 := ?_)
          refine ks_f [7] _ (hSS := fun _ h => h) (h := fx_store_box (i := 1) (hi := rfl) (next := ?_))
          refine kp_S ?_ (fun _ h => (h.last rfl).sel [4, 5] rfl (by decide))
          refine kg_z (h := fx_store_box (i := 0) (hi := rfl) (next := ?_))
          exact po_cut (bc, bd, cv, dv) ⟨hcv, hdv⟩ ⟨rfl, rfl, rfl, rfl, trivial⟩ (fun _ h => (h.last rfl).sel [0, 2, 1, 3, 4, 5] rfl (by decide))
        · refine ks_f [999] _ (hSS := fun _ h => h) (h := fx_alloc (next := ?_))
          intro bd
          refine kp_S ?_ (fun _ h => (h.last rfl).sel [3, 4] rfl (by decide))
          refine kg_br1 4 (h1 := ?_)
          refine ks_f [999] _ (hSS := fun _ h => h) (h := fx_alloc (next := ?_))
          intro bc
          refine kp_S ?_ (fun _ h => (h.last rfl).sel [4, 5] rfl (by decide))
          refine kg_br1 6 (h1 := ?_)
          refine ks_f [7] _ (hSS := fun _ h => h) (h := fx_store_box (i := 0) (hi := rfl) (next := ?_))
          refine kp_S ?_ (fun _ h => (h.last rfl).sel [4, 5] rfl (by decide))
          refine kg_z (h := fx_store_box (i := 1) (hi := rfl) (next := ?_))
          exact po_cut (bc, bd, cv, dv) ⟨hcv, hdv⟩ ⟨rfl, rfl, rfl, rfl, trivial⟩ (fun _ h => (h.last rfl).sel [1, 2, 0, 3, 4, 5] rfl (by decide))
      · refine ks_f [999] _ (hSS := fun _ h => h) (h := fx_alloc (next := ?_))
        intro bc
        refine kp_S ?_ (fun _ h => (h.last rfl).sel [2, 3] rfl (by decide))
        refine kg_br2 3 5 (h1 := ?_) (h2 := ?_)
        · refine ks_f [999] _ (hSS := fun _ h => h) (h := fx_call_mk (spec := fun w' hw => copy_spec b sb rb w' (hw.now hb (.tail _ (.head _))) hbb) (next := ?_))
          rintro v n10 es w10 ⟨dv, hdv, rfl, rfl⟩
          have hdv' : SV (cutV rb.length dv) := hdv.cut _
          refine kp_S ?_ (fun _ h => (h.last rfl).sel [3, 4] rfl (by decide))
          refine kg_br1 5 (h1 := ?_)
          refine ks_f [999] _ (hSS := fun _ h => h) (h := fx_alloc (next := ?_))
          intro bd
          refine kp_S ?_ (fun _ h => (h.last rfl).sel [4, 5] rfl (by decide))
          refine kg_br1 6 (h1 := ?_)
          refine ks_f [7] _ (hSS := fun _ h => h) (h := fx_store_box (i := 2) (hi := rfl) (next := ?_))
          refine kp_S ?_ (fun _ h => (h.last rfl).sel [4, 5] rfl (by decide))
          refine kg_z (h := fx_store_box (i := 0) (hi := rfl) (next := ?_))
          exact po_cut (bc, bd, cv, dv) ⟨hcv, hdv⟩ ⟨rfl, rfl, rfl, rfl, trivial⟩ (fun _ h => (h.last rfl).sel [0, 1, 2, 3, 4, 5] rfl (by decide))
        · refine ks_f [999] _ (hSS := fun _ h => h) (h := fx_alloc (next := ?_))
          intro bd
          refine kp_S ?_ (fun _ h => (h.last rfl).sel [3, 4] rfl (by decide))
          refine kg_br1 3 (h1 := ?_)
          refine ks_f [999] _ (hSS := fun _ h => h) (h := fx_call_mk (spec := fun w' hw => copy_spec b sb rb w' (hw.now hb (.tail _ (.head _))) hbb) (next := ?_))
          rintro v n14 es w14 ⟨dv, hdv, rfl, rfl⟩
          have hdv' : SV (cutV rb.length dv) := hdv.cut _
          refine kp_S ?_ (fun _ h => (h.last rfl).sel [4, 5] rfl (by decide))
          refine kg_br1 6 (h1 := ?_)
          refine ks_f [7] _ (hSS := fun _ h => h) (h := fx_store_box (i := 2) (hi := rfl) (next := ?_))
          refine kp_S ?_ (fun _ h => (h.last rfl).sel [4, 5] rfl (by decide))
          refine kg_z (h := fx_store_box (i := 1) (hi := rfl) (next := ?_))
          exact po_cut (bc, bd, cv, dv) ⟨hcv, hdv⟩ ⟨rfl, rfl, rfl, rfl, trivial⟩ (fun _ h => (h.last rfl).sel [1, 0, 2, 3, 4, 5] rfl (by decide))
      · refine ks_f [999] _ (hSS := fun _ h => h) (h := fx_alloc (next := ?_))
        intro bd
        refine kp_S ?_ (fun _ h => (h.last rfl).sel [2, 3] rfl (by decide))
        refine kg_br2 3 4 (h1 := ?_) (h2 := ?_)
        · refine ks_f [999] _ (hSS := fun _ h => h) (h := fx_call_mk (spec := fun w' hw => copy_spec b sb rb w' (hw.now hb (.tail _ (.head _))) hbb) (next := ?_))
          rintro v n17 es w17 ⟨dv, hdv, rfl, rfl⟩
          have hdv' : SV (cutV rb.length dv) := hdv.cut _
          refine kp_S ?_ (fun _ h => (h.last rfl).sel [3, 4] rfl (by decide))
          refine kg_br1 4 (h1 := ?_)
          refine ks_f [999] _ (hSS := fun _ h => h) (h := fx_alloc (next := ?_))
          intro bc
          refine kp_S ?_ (fun _ h => (h.last rfl).sel [4, 5] rfl (by decide))
          refine kg_br1 6 (h1 := ?_)
          refine ks_f [7] _ (hSS := fun _ h => h) (h := fx_store_box (i := 0) (hi := rfl) (next := ?_))
          refine kp_S ?_ (fun _ h => (h.last rfl).sel [4, 5] rfl (by decide))
          refine kg_z (h := fx_store_box (i := 2) (hi := rfl) (next := ?_))
          exact po_cut (bc, bd, cv, dv) ⟨hcv, hdv⟩ ⟨rfl, rfl, rfl, rfl, trivial⟩ (fun _ h => (h.last rfl).sel [2, 1, 0, 3, 4, 5] rfl (by decide))
        · refine ks_f [999] _ (hSS := fun _ h => h) (h := fx_alloc (next := ?_))
          intro bc
          refine kp_S ?_ (fun _ h => (h.last rfl).sel [3, 4] rfl (by decide))
          refine kg_br1 3 (h1 := ?_)
          refine ks_f [999] _ (hSS := fun _ h => h) (h := fx_call_mk (spec := fun w' hw => copy_spec b sb rb w' (hw.now hb (.tail _ (.head _))) hbb) (next := ?_))
          rintro v n21 es w21 ⟨dv, hdv, rfl, rfl⟩
          have hdv' : SV (cutV rb.length dv) := hdv.cut _
          refine kp_S ?_ (fun _ h => (h.last rfl).sel [4, 5] rfl (by decide))
          refine kg_br1 6 (h1 := ?_)
          refine ks_f [7] _ (hSS := fun _ h => h) (h := fx_store_box (i := 1) (hi := rfl) (next := ?_))
          refine kp_S ?_ (fun _ h => (h.last rfl).sel [4, 5] rfl (by decide))
          refine kg_z (h := fx_store_box (i := 2) (hi := rfl) (next := ?_))
          exact po_cut (bc, bd, cv, dv) ⟨hcv, hdv⟩ ⟨rfl, rfl, rfl, rfl, trivial⟩ (fun _ h => (h.last rfl).sel [2, 0, 1, 3, 4, 5] rfl (by decide))
    · refine ks_f [999] _ (hSS := fun _ h => h) (h := fx_alloc (next := ?_))
      intro bc
      refine kp_S ?_ (fun _ h => (h.last rfl).sel [1, 2] rfl (by decide))
      refine kg_br2 1 5 (h1 := ?_) (h2 := ?_)
      · refine ks_f [999] _ (hSS := fun _ h => h) (h := fx_call_mk (spec := fun w' hw => copy_spec a sa ra w' (hw.now ha (.head _)) hba) (next := ?_))
        rintro v n24 es w24 ⟨cv, hcv, rfl, rfl⟩
        have hcv' : SV (cutV ra.length cv) := hcv.cut _
        refine kp_S ?_ (fun _ h => (h.last rfl).sel [2, 3] rfl (by decide))
        refine kg_br2 3 5 (h1 := ?_) (h2 := ?_)
        · refine ks_f [999] _ (hSS := fun _ h => h) (h := fx_call_mk (spec := fun w' hw => copy_spec b sb rb w' (hw.now hb (.tail _ (.head _))) hbb) (next := ?_))
          rintro v n25 es w25 ⟨dv, hdv, rfl, rfl⟩
          have hdv' : SV (cutV rb.length dv) := hdv.cut _
          refine kp_S ?_ (fun _ h => (h.last rfl).sel [3, 4] rfl (by decide))
          refine kg_br1 5 (h1 := ?_)
          refine ks_f [999] _ (hSS := fun _ h => h) (h := fx_alloc (next := ?_))
          intro bd
          refine kp_S ?_ (fun _ h => (h.last rfl).sel [4, 5] rfl (by decide))
          refine kg_br1 6 (h1 := ?_)
          refine ks_f [7] _ (hSS := fun _ h => h) (h := fx_store_box (i := 3) (hi := rfl) (next := ?_))
          refine kp_S ?_ (fun _ h => (h.last rfl).sel [4, 5] rfl (by decide))
          refine kg_z (h := fx_store_box (i := 0) (hi := rfl) (next := ?_))
          exact po_cut (bc, bd, cv, dv) ⟨hcv, hdv⟩ ⟨rfl, rfl, rfl, rfl, trivial⟩ (fun _ h => (h.last rfl).sel [0, 1, 3, 2, 4, 5] rfl (by decide))
        · refine ks_f [999] _ (hSS := fun _ h => h) (h := fx_alloc (next := ?_))
          intro bd
          refine kp_S ?_ (fun _ h => (h.last rfl).sel [3, 4] rfl (by decide))
          refine kg_br1 3 (h1 := ?_)
          refine ks_f [999] _ (hSS := fun _ h => h) (h := fx_call_mk (spec := fun w' hw => copy_spec b sb rb w' (hw.now hb (.tail _ (.head _))) hbb) (next := ?_))
          rintro v n29 es w29 ⟨dv, hdv, rfl, rfl⟩
          have hdv' : SV (cutV rb.length dv) := hdv.cut _
          refine kp_S ?_ (fun _ h => (h.last rfl).sel [4, 5] rfl (by decide))
          refine kg_br1 6 (h1 := ?_)
          refine ks_f [7] _ (hSS := fun _ h => h) (h := fx_store_box (i := 3) (hi := rfl) (next := ?_))
          refine kp_S ?_ (fun _ h => (h.last rfl).sel [4, 5] rfl (by decide))
          refine kg_z (h := fx_store_box (i := 1) (hi := rfl) (next := ?_))
          exact po_cut (bc, bd, cv, dv) ⟨hcv, hdv⟩ ⟨rfl, rfl, rfl, rfl, trivial⟩ (fun _ h => (h.last rfl).sel [1, 0, 3, 2, 4, 5] rfl (by decide))
      · refine ks_f [999] _ (hSS := fun _ h => h) (h := fx_alloc (next := ?_))
        intro bd
        refine kp_S ?_ (fun _ h => (h.last rfl).sel [2, 3] rfl (by decide))
        refine kg_br1 1 (h1 := ?_)
        refine ks_f [999] _ (hSS := fun _ h => h) (h := fx_call_mk (spec := fun w' hw => copy_spec a sa ra w' (hw.now ha (.head _)) hba) (next := ?_))
        rintro v n32 es w32 ⟨cv, hcv, rfl, rfl⟩
        have hcv' : SV (cutV ra.length cv) := hcv.cut _
        refine kp_S ?_ (fun _ h => (h.last rfl).sel [3, 4] rfl (by decide))
        refine kg_br1 3 (h1 := ?_)
        refine ks_f [999] _ (hSS := fun _ h => h) (h := fx_call_mk (spec := fun w' hw => copy_spec b sb rb w' (hw.now hb (.tail _ (.head _))) hbb) (next := ?_))
        rintro v n33 es w33 ⟨dv, hdv, rfl, rfl⟩
        have hdv' : SV (cutV rb.length dv) := hdv.cut _
        refine kp_S ?_ (fun _ h => (h.last rfl).sel [4, 5] rfl (by decide))
        refine kg_br1 6 (h1 := ?_)
        refine ks_f [7] _ (hSS := fun _ h => h) (h := fx_store_box (i := 3) (hi := rfl) (next := ?_))
        refine kp_S ?_ (fun _ h => (h.last rfl).sel [4, 5] rfl (by decide))
        refine kg_z (h := fx_store_box (i := 2) (hi := rfl) (next := ?_))
        exact po_cut (bc, bd, cv, dv) ⟨hcv, hdv⟩ ⟨rfl, rfl, rfl, rfl, trivial⟩ (fun _ h => (h.last rfl).sel [2, 0, 3, 1, 4, 5] rfl (by decide))
    · refine ks_f [999] _ (hSS := fun _ h => h) (h := fx_alloc (next := ?_))
      intro bd
      refine kp_S ?_ (fun _ h => (h.last rfl).sel [1, 2] rfl (by decide))
      refine kg_br2 1 4 (h1 := ?_) (h2 := ?_)
      · refine ks_f [999] _ (hSS := fun _ h => h) (h := fx_call_mk (spec := fun w' hw => copy_spec a sa ra w' (hw.now ha (.head _)) hba) (next := ?_))
        rintro v n36 es w36 ⟨cv, hcv, rfl, rfl⟩
        have hcv' : SV (cutV ra.length cv) := hcv.cut _
        refine kp_S ?_ (fun _ h => (h.last rfl).sel [2, 3] rfl (by decide))
        refine kg_br2 3 4 (h1 := ?_) (h2 := ?_)
        · refine ks_f [999] _ (hSS := fun _ h => h) (h := fx_call_mk (spec := fun w' hw => copy_spec b sb rb w' (hw.now hb (.tail _ (.head _))) hbb) (next := ?_))
          rintro v n37 es w37 ⟨dv, hdv, rfl, rfl⟩
          have hdv' : SV (cutV rb.length dv) := hdv.cut _
          refine kp_S ?_ (fun _ h => (h.last rfl).sel [3, 4] rfl (by decide))
          refine kg_br1 4 (h1 := ?_)
          refine ks_f [999] _ (hSS := fun _ h => h) (h := fx_alloc (next := ?_))
          intro bc
          refine kp_S ?_ (fun _ h => (h.last rfl).sel [4, 5] rfl (by decide))
          refine kg_br1 6 (h1 := ?_)
          refine ks_f [7] _ (hSS := fun _ h => h) (h := fx_store_box (i := 0) (hi := rfl) (next := ?_))
          refine kp_S ?_ (fun _ h => (h.last rfl).sel [4, 5] rfl (by decide))
          refine kg_z (h := fx_store_box (i := 3) (hi := rfl) (next := ?_))
          exact po_cut (bc, bd, cv, dv) ⟨hcv, hdv⟩ ⟨rfl, rfl, rfl, rfl, trivial⟩ (fun _ h => (h.last rfl).sel [3, 1, 0, 2, 4, 5] rfl (by decide))
        · refine ks_f [999] _ (hSS := fun _ h => h) (h := fx_alloc (next := ?_))
          intro bc
          refine kp_S ?_ (fun _ h => (h.last rfl).sel [3, 4] rfl (by decide))
          refine kg_br1 3 (h1 := ?_)
          refine ks_f [999] _ (hSS := fun _ h => h) (h := fx_call_mk (spec := fun w' hw => copy_spec b sb rb w' (hw.now hb (.tail _ (.head _))) hbb) (next := ?_))
          rintro v n41 es w41 ⟨dv, hdv, rfl, rfl⟩
          have hdv' : SV (cutV rb.length dv) := hdv.cut _
          refine kp_S ?_ (fun _ h => (h.last rfl).sel [4, 5] rfl (by decide))
          refine kg_br1 6 (h1 := ?_)
          refine ks_f [7] _ (hSS := fun _ h => h) (h := fx_store_box (i := 1) (hi := rfl) (next := ?_))
          refine kp_S ?_ (fun _ h => (h.last rfl).sel [4, 5] rfl (by decide))
          refine kg_z (h := fx_store_box (i := 3) (hi := rfl) (next := ?_))
          exact po_cut (bc, bd, cv, dv) ⟨hcv, hdv⟩ ⟨rfl, rfl, rfl, rfl, trivial⟩ (fun _ h => (h.last rfl).sel [3, 0, 1, 2, 4, 5] rfl (by decide))
      · refine ks_f [999] _ (hSS := fun _ h => h) (h := fx_alloc (next := ?_))
        intro bc
        refine kp_S ?_ (fun _ h => (h.last rfl).sel [2, 3] rfl (by decide))
        refine kg_br1 1 (h1 := ?_)
        refine ks_f [999] _ (hSS := fun _ h => h) (h := fx_call_mk (spec := fun w' hw => copy_spec a sa ra w' (hw.now ha (.head _)) hba) (next := ?_))
        rintro v n44 es w44 ⟨cv, hcv, rfl, rfl⟩
        have hcv' : SV (cutV ra.length cv) := hcv.cut _
        refine kp_S ?_ (fun _ h => (h.last rfl).sel [3, 4] rfl (by decide))
        refine kg_br1 3 (h1 := ?_)
        refine ks_f [999] _ (hSS := fun _ h => h) (h := fx_call_mk (spec := fun w' hw => copy_spec b sb rb w' (hw.now hb (.tail _ (.head _))) hbb) (next := ?_))
        rintro v n45 es w45 ⟨dv, hdv, rfl, rfl⟩
        have hdv' : SV (cutV rb.length dv) := hdv.cut _
        refine kp_S ?_ (fun _ h => (h.last rfl).sel [4, 5] rfl (by decide))
        refine kg_br1 6 (h1 := ?_)
        refine ks_f [7] _ (hSS := fun _ h => h) (h := fx_store_box (i := 2) (hi := rfl) (next := ?_))
        refine kp_S ?_ (fun _ h => (h.last rfl).sel [4, 5] rfl (by decide))
        refine kg_z (h := fx_store_box (i := 3) (hi := rfl) (next := ?_))
        exact po_cut (bc, bd, cv, dv) ⟨hcv, hdv⟩ ⟨rfl, rfl, rfl, rfl, trivial⟩ (fun _ h => (h.last rfl).sel [3, 0, 2, 1, 4, 5] rfl (by decide))
  rintro ⟨bc, bd, cv, dv⟩ ⟨hcv, hdv⟩
  dsimp only at hcv hdv ⊢
  have hc4 : SV (cutV ra.length cv) := hcv.cut _
  have hd4 : SV (cutV rb.length dv) := hdv.cut _
  repeat (first | (show KP _ (wpList _ _ _ (⟨some _, _, _, _, _, none⟩ :: _)) _ _; refine wl_a (next := ?_)) | (show KP _ (wpList _ _ _ (⟨some _, _, _, _, _, some _⟩ :: _)) _ _; refine wl_ag (next := ?_)) | refine wl_nil ?_ | refine po_then ?_ | refine wc_seq ?_ | refine wc_region ?_ | refine wc_block ?_ | refine po_block ?_ | refine wc_ret ?_ | refine po_then_ret ?_ | refine po_block_ret ?_ | refine wc_exit ?_ | refine po_then_exit ?_ | refine po_block_exit ?_ | refine po_block_pass rfl ?_ | refine wc_skip ?_)
  refine wc_loop (fun s : Nat => s ≤ 3) (fun s => [(7, true, .int .i64 s), (6, true, .pointer (some ⟨bd, 0, none⟩)), (5, true, .pointer (some ⟨bc, 0, none⟩)), (3, true, .pointer (some ⟨bb, 0, none⟩)), (2, true, .pointer (some ⟨ba, 0, none⟩))])
    (fun _ => Mem [(w, All)] [.box bd [.int .i64 b, cutV rb.length dv] 27, ownW dv (rb ++ marks), .box bc [.int .i64 a, cutV ra.length cv] 27, ownW cv (ra ++ marks), .box bb [.int .i64 b, sb] 27, .box ba [.int .i64 a, sa] 27]) (fun s => 3 - s) 0 (Nat.zero_le _) ⟨rfl, rfl, rfl, rfl, rfl, trivial⟩ (fun _ h => h.last rfl) ?_
  rintro k hk
  repeat (first | (show KP _ (wpList _ _ _ (⟨some _, _, _, _, _, none⟩ :: _)) _ _; refine wl_a (next := ?_)) | (show KP _ (wpList _ _ _ (⟨some _, _, _, _, _, some _⟩ :: _)) _ _; refine wl_ag (next := ?_)) | refine wl_nil ?_ | refine po_then ?_ | refine wc_seq ?_ | refine wc_region ?_ | refine wc_block ?_ | refine po_block ?_ | refine wc_ret ?_ | refine po_then_ret ?_ | refine po_block_ret ?_ | refine wc_exit ?_ | refine po_then_exit ?_ | refine po_block_exit ?_ | refine po_block_pass rfl ?_ | refine wc_skip ?_)
  refine wc_cond_dec rfl (fun h1 => ?_) (fun h1 => ?_)
  · repeat (first | (show KP _ (wpList _ _ _ (⟨some _, _, _, _, _, none⟩ :: _)) _ _; refine wl_a (next := ?_)) | (show KP _ (wpList _ _ _ (⟨some _, _, _, _, _, some _⟩ :: _)) _ _; refine wl_ag (next := ?_)) | refine wl_nil ?_ | refine po_then ?_ | refine wc_seq ?_ | refine wc_region ?_ | refine wc_block ?_ | refine po_block ?_ | refine wc_ret ?_ | refine po_then_ret ?_ | refine po_block_ret ?_ | refine wc_exit ?_ | refine po_then_exit ?_ | refine po_block_exit ?_ | refine po_block_pass rfl ?_ | refine wc_skip ?_)
    refine wl_fx (fx_call_mk (spec := fun w' hw => union_all a _ ra b _ rb w' (lendC hw (.tail _ (.tail _ (.tail _ (.head _))))) (lendC hw (.tail _ (.head _)))) (next := ?_))
    rintro v n1 es w1 ⟨o1, ho1, rfl, rfl⟩
    repeat (first | (show KP _ (wpList _ _ _ (⟨some _, _, _, _, _, none⟩ :: _)) _ _; refine wl_a (next := ?_)) | (show KP _ (wpList _ _ _ (⟨some _, _, _, _, _, some _⟩ :: _)) _ _; refine wl_ag (next := ?_)) | refine wl_nil ?_ | refine po_then ?_ | refine wc_seq ?_ | refine wc_region ?_ | refine wc_block ?_ | refine po_block ?_ | refine wc_ret ?_ | refine po_then_ret ?_ | refine po_block_ret ?_ | refine wc_exit ?_ | refine po_then_exit ?_ | refine po_block_exit ?_ | refine po_block_pass rfl ?_ | refine wc_skip ?_)
    refine wl_fx (fx_alloc (next := ?_)); intro b1
    repeat (first | (show KP _ (wpList _ _ _ (⟨some _, _, _, _, _, none⟩ :: _)) _ _; refine wl_a (next := ?_)) | (show KP _ (wpList _ _ _ (⟨some _, _, _, _, _, some _⟩ :: _)) _ _; refine wl_ag (next := ?_)) | refine wl_nil ?_ | refine po_then ?_ | refine wc_seq ?_ | refine wc_region ?_ | refine wc_block ?_ | refine po_block ?_ | refine wc_ret ?_ | refine po_then_ret ?_ | refine po_block_ret ?_ | refine wc_exit ?_ | refine po_then_exit ?_ | refine po_block_exit ?_ | refine po_block_pass rfl ?_ | refine wc_skip ?_)
    refine wl_fx (fx_store_box (i := 0) (hi := rfl) (next := ?_))
    repeat (first | (show KP _ (wpList _ _ _ (⟨some _, _, _, _, _, none⟩ :: _)) _ _; refine wl_a (next := ?_)) | (show KP _ (wpList _ _ _ (⟨some _, _, _, _, _, some _⟩ :: _)) _ _; refine wl_ag (next := ?_)) | refine wl_nil ?_ | refine po_then ?_ | refine wc_seq ?_ | refine wc_region ?_ | refine wc_block ?_ | refine po_block ?_ | refine wc_ret ?_ | refine po_then_ret ?_ | refine po_block_ret ?_ | refine wc_exit ?_ | refine po_then_exit ?_ | refine po_block_exit ?_ | refine po_block_pass rfl ?_ | refine wc_skip ?_)
    refine wl_fx (fx_call_mk (spec := fun w' hw => plus_all a _ ra w' (lendC hw (.tail _ (.tail _ (.tail _ (.tail _ (.tail _ (.head _)))))))) (next := ?_))
    rintro v n2 es w2 ⟨o2, ho2, rfl, rfl⟩
    repeat (first | (show KP _ (wpList _ _ _ (⟨some _, _, _, _, _, none⟩ :: _)) _ _; refine wl_a (next := ?_)) | (show KP _ (wpList _ _ _ (⟨some _, _, _, _, _, some _⟩ :: _)) _ _; refine wl_ag (next := ?_)) | refine wl_nil ?_ | refine po_then ?_ | refine wc_seq ?_ | refine wc_region ?_ | refine wc_block ?_ | refine po_block ?_ | refine wc_ret ?_ | refine po_then_ret ?_ | refine po_block_ret ?_ | refine wc_exit ?_ | refine po_then_exit ?_ | refine po_block_exit ?_ | refine po_block_pass rfl ?_ | refine wc_skip ?_)
    refine wl_fx (fx_alloc (next := ?_)); intro b2
    repeat (first | (show KP _ (wpList _ _ _ (⟨some _, _, _, _, _, none⟩ :: _)) _ _; refine wl_a (next := ?_)) | (show KP _ (wpList _ _ _ (⟨some _, _, _, _, _, some _⟩ :: _)) _ _; refine wl_ag (next := ?_)) | refine wl_nil ?_ | refine po_then ?_ | refine wc_seq ?_ | refine wc_region ?_ | refine wc_block ?_ | refine po_block ?_ | refine wc_ret ?_ | refine po_then_ret ?_ | refine po_block_ret ?_ | refine wc_exit ?_ | refine po_then_exit ?_ | refine po_block_exit ?_ | refine po_block_pass rfl ?_ | refine wc_skip ?_)
    refine wl_fx (fx_store_box (i := 0) (hi := rfl) (next := ?_))
    repeat (first | (show KP _ (wpList _ _ _ (⟨some _, _, _, _, _, none⟩ :: _)) _ _; refine wl_a (next := ?_)) | (show KP _ (wpList _ _ _ (⟨some _, _, _, _, _, some _⟩ :: _)) _ _; refine wl_ag (next := ?_)) | refine wl_nil ?_ | refine po_then ?_ | refine wc_seq ?_ | refine wc_region ?_ | refine wc_block ?_ | refine po_block ?_ | refine wc_ret ?_ | refine po_then_ret ?_ | refine po_block_ret ?_ | refine wc_exit ?_ | refine po_then_exit ?_ | refine po_block_exit ?_ | refine po_block_pass rfl ?_ | refine wc_skip ?_)
    refine wl_fx (fx_call_mk (spec := fun w' hw => back_all a _ ra w' (lendC hw (.tail _ (.tail _ (.tail _ (.tail _ (.tail _ (.tail _ (.tail _ (.head _)))))))))) (next := ?_))
    rintro v n3 es w3 ⟨o3, ho3, rfl, rfl⟩
    repeat (first | (show KP _ (wpList _ _ _ (⟨some _, _, _, _, _, none⟩ :: _)) _ _; refine wl_a (next := ?_)) | (show KP _ (wpList _ _ _ (⟨some _, _, _, _, _, some _⟩ :: _)) _ _; refine wl_ag (next := ?_)) | refine wl_nil ?_ | refine po_then ?_ | refine wc_seq ?_ | refine wc_region ?_ | refine wc_block ?_ | refine po_block ?_ | refine wc_ret ?_ | refine po_then_ret ?_ | refine po_block_ret ?_ | refine wc_exit ?_ | refine po_then_exit ?_ | refine po_block_exit ?_ | refine po_block_pass rfl ?_ | refine wc_skip ?_)
    refine wl_fx (fx_alloc (next := ?_)); intro b3
    repeat (first | (show KP _ (wpList _ _ _ (⟨some _, _, _, _, _, none⟩ :: _)) _ _; refine wl_a (next := ?_)) | (show KP _ (wpList _ _ _ (⟨some _, _, _, _, _, some _⟩ :: _)) _ _; refine wl_ag (next := ?_)) | refine wl_nil ?_ | refine po_then ?_ | refine wc_seq ?_ | refine wc_region ?_ | refine wc_block ?_ | refine po_block ?_ | refine wc_ret ?_ | refine po_then_ret ?_ | refine po_block_ret ?_ | refine wc_exit ?_ | refine po_then_exit ?_ | refine po_block_exit ?_ | refine po_block_pass rfl ?_ | refine wc_skip ?_)
    refine wl_fx (fx_store_box (i := 0) (hi := rfl) (next := ?_))
    repeat (first | (show KP _ (wpList _ _ _ (⟨some _, _, _, _, _, none⟩ :: _)) _ _; refine wl_a (next := ?_)) | (show KP _ (wpList _ _ _ (⟨some _, _, _, _, _, some _⟩ :: _)) _ _; refine wl_ag (next := ?_)) | refine wl_nil ?_ | refine po_then ?_ | refine wc_seq ?_ | refine wc_region ?_ | refine wc_block ?_ | refine po_block ?_ | refine wc_ret ?_ | refine po_then_ret ?_ | refine po_block_ret ?_ | refine wc_exit ?_ | refine po_then_exit ?_ | refine po_block_exit ?_ | refine po_block_pass rfl ?_ | refine wc_skip ?_)
    refine wl_fx (fx_call_mk (spec := fun w' hw => then_all a _ ra b _ rb w' (lendC hw (.tail _ (.tail _ (.tail _ (.tail _ (.tail _ (.tail _ (.tail _ (.tail _ (.tail _ (.head _))))))))))) (lendC hw (.tail _ (.tail _ (.tail _ (.tail _ (.tail _ (.tail _ (.tail _ (.head _))))))))) (hw.now hT (.tail _ (.tail _ (.tail _ (.head _)))))) (next := ?_))
    rintro v n4 es w4 ⟨o4, ho4, rfl, rfl⟩
    repeat (first | (show KP _ (wpList _ _ _ (⟨some _, _, _, _, _, none⟩ :: _)) _ _; refine wl_a (next := ?_)) | (show KP _ (wpList _ _ _ (⟨some _, _, _, _, _, some _⟩ :: _)) _ _; refine wl_ag (next := ?_)) | refine wl_nil ?_ | refine po_then ?_ | refine wc_seq ?_ | refine wc_region ?_ | refine wc_block ?_ | refine po_block ?_ | refine wc_ret ?_ | refine po_then_ret ?_ | refine po_block_ret ?_ | refine wc_exit ?_ | refine po_then_exit ?_ | refine po_block_exit ?_ | refine po_block_pass rfl ?_ | refine wc_skip ?_)
    refine wl_fx (fx_alloc (next := ?_)); intro b4
    repeat (first | (show KP _ (wpList _ _ _ (⟨some _, _, _, _, _, none⟩ :: _)) _ _; refine wl_a (next := ?_)) | (show KP _ (wpList _ _ _ (⟨some _, _, _, _, _, some _⟩ :: _)) _ _; refine wl_ag (next := ?_)) | refine wl_nil ?_ | refine po_then ?_ | refine wc_seq ?_ | refine wc_region ?_ | refine wc_block ?_ | refine po_block ?_ | refine wc_ret ?_ | refine po_then_ret ?_ | refine po_block_ret ?_ | refine wc_exit ?_ | refine po_then_exit ?_ | refine po_block_exit ?_ | refine po_block_pass rfl ?_ | refine wc_skip ?_)
    refine wl_fx (fx_store_box (i := 0) (hi := rfl) (next := ?_))
    repeat (first | (show KP _ (wpList _ _ _ (⟨some _, _, _, _, _, none⟩ :: _)) _ _; refine wl_a (next := ?_)) | (show KP _ (wpList _ _ _ (⟨some _, _, _, _, _, some _⟩ :: _)) _ _; refine wl_ag (next := ?_)) | refine wl_nil ?_ | refine po_then ?_ | refine wc_seq ?_ | refine wc_region ?_ | refine wc_block ?_ | refine po_block ?_ | refine wc_ret ?_ | refine po_then_ret ?_ | refine po_block_ret ?_ | refine wc_exit ?_ | refine po_then_exit ?_ | refine po_block_exit ?_ | refine po_block_pass rfl ?_ | refine wc_skip ?_)
    refine wl_fx (fx_call_mk (spec := fun w' hw => pick_all a _ 9223372036854775807#64 9223372036854775807#64 ra w' (lendC hw (.tail _ (.tail _ (.tail _ (.tail _ (.tail _ (.tail _ (.tail _ (.tail _ (.tail _ (.tail _ (.tail _ (.head _)))))))))))))) (next := ?_))
    rintro v n5 es w5 ⟨o5, ho5, rfl, rfl⟩
    repeat (first | (show KP _ (wpList _ _ _ (⟨some _, _, _, _, _, none⟩ :: _)) _ _; refine wl_a (next := ?_)) | (show KP _ (wpList _ _ _ (⟨some _, _, _, _, _, some _⟩ :: _)) _ _; refine wl_ag (next := ?_)) | refine wl_nil ?_ | refine po_then ?_ | refine wc_seq ?_ | refine wc_region ?_ | refine wc_block ?_ | refine po_block ?_ | refine wc_ret ?_ | refine po_then_ret ?_ | refine po_block_ret ?_ | refine wc_exit ?_ | refine po_then_exit ?_ | refine po_block_exit ?_ | refine po_block_pass rfl ?_ | refine wc_skip ?_)
    refine wl_fx (fx_alloc (next := ?_)); intro b5
    repeat (first | (show KP _ (wpList _ _ _ (⟨some _, _, _, _, _, none⟩ :: _)) _ _; refine wl_a (next := ?_)) | (show KP _ (wpList _ _ _ (⟨some _, _, _, _, _, some _⟩ :: _)) _ _; refine wl_ag (next := ?_)) | refine wl_nil ?_ | refine po_then ?_ | refine wc_seq ?_ | refine wc_region ?_ | refine wc_block ?_ | refine po_block ?_ | refine wc_ret ?_ | refine po_then_ret ?_ | refine po_block_ret ?_ | refine wc_exit ?_ | refine po_then_exit ?_ | refine po_block_exit ?_ | refine po_block_pass rfl ?_ | refine wc_skip ?_)
    refine wl_fx (fx_store_box (i := 0) (hi := rfl) (next := ?_))
    repeat (first | (show KP _ (wpList _ _ _ (⟨some _, _, _, _, _, none⟩ :: _)) _ _; refine wl_a (next := ?_)) | (show KP _ (wpList _ _ _ (⟨some _, _, _, _, _, some _⟩ :: _)) _ _; refine wl_ag (next := ?_)) | refine wl_nil ?_ | refine po_then ?_ | refine wc_seq ?_ | refine wc_region ?_ | refine wc_block ?_ | refine po_block ?_ | refine wc_ret ?_ | refine po_then_ret ?_ | refine po_block_ret ?_ | refine wc_exit ?_ | refine po_then_exit ?_ | refine po_block_exit ?_ | refine po_block_pass rfl ?_ | refine wc_skip ?_)
    refine wl_fx (fx_call_mk (spec := fun w' hw => line_all a _ ra w' (lendC hw (.tail _ (.tail _ (.tail _ (.tail _ (.tail _ (.tail _ (.tail _ (.tail _ (.tail _ (.tail _ (.tail _ (.tail _ (.tail _ (.head _)))))))))))))))) (next := ?_))
    rintro v n6 es w6 ⟨o6, ho6, rfl, rfl⟩
    repeat (first | (show KP _ (wpList _ _ _ (⟨some _, _, _, _, _, none⟩ :: _)) _ _; refine wl_a (next := ?_)) | (show KP _ (wpList _ _ _ (⟨some _, _, _, _, _, some _⟩ :: _)) _ _; refine wl_ag (next := ?_)) | refine wl_nil ?_ | refine po_then ?_ | refine wc_seq ?_ | refine wc_region ?_ | refine wc_block ?_ | refine po_block ?_ | refine wc_ret ?_ | refine po_then_ret ?_ | refine po_block_ret ?_ | refine wc_exit ?_ | refine po_then_exit ?_ | refine po_block_exit ?_ | refine po_block_pass rfl ?_ | refine wc_skip ?_)
    refine wl_fx (fx_call_mk (spec := fun w' hw => round_all a _ ra w' (lendC hw (.tail _ (.tail _ (.tail _ (.tail _ (.tail _ (.tail _ (.tail _ (.tail _ (.tail _ (.tail _ (.tail _ (.tail _ (.tail _ (.tail _ (.head _))))))))))))))))) (next := ?_))
    rintro v n7 es w7 ⟨o7, ho7, rfl, rfl⟩
    repeat (first | (show KP _ (wpList _ _ _ (⟨some _, _, _, _, _, none⟩ :: _)) _ _; refine wl_a (next := ?_)) | (show KP _ (wpList _ _ _ (⟨some _, _, _, _, _, some _⟩ :: _)) _ _; refine wl_ag (next := ?_)) | refine wl_nil ?_ | refine po_then ?_ | refine wc_seq ?_ | refine wc_region ?_ | refine wc_block ?_ | refine po_block ?_ | refine wc_ret ?_ | refine po_then_ret ?_ | refine po_block_ret ?_ | refine wc_exit ?_ | refine po_then_exit ?_ | refine po_block_exit ?_ | refine po_block_pass rfl ?_ | refine wc_skip ?_)
    refine wl_fx (fx_call_mk (spec := fun w' hw => pairs_all a _ ra w' (lendC hw (.tail _ (.tail _ (.tail _ (.tail _ (.tail _ (.tail _ (.tail _ (.tail _ (.tail _ (.tail _ (.tail _ (.tail _ (.tail _ (.tail _ (.tail _ (.head _))))))))))))))))) (hw.now hT (.tail _ (.tail _ (.tail _ (.tail _ (.tail _ (.tail _ (.tail _ (.head _)))))))))) (next := ?_))
    rintro v n8 es w8 ⟨o8, ho8, rfl, rfl⟩
    repeat (first | (show KP _ (wpList _ _ _ (⟨some _, _, _, _, _, none⟩ :: _)) _ _; refine wl_a (next := ?_)) | (show KP _ (wpList _ _ _ (⟨some _, _, _, _, _, some _⟩ :: _)) _ _; refine wl_ag (next := ?_)) | refine wl_nil ?_ | refine po_then ?_ | refine wc_seq ?_ | refine wc_region ?_ | refine wc_block ?_ | refine po_block ?_ | refine wc_ret ?_ | refine po_then_ret ?_ | refine po_block_ret ?_ | refine wc_exit ?_ | refine po_then_exit ?_ | refine po_block_exit ?_ | refine po_block_pass rfl ?_ | refine wc_skip ?_)
    refine wl_fx (fx_call_mk (spec := fun w' hw => runion_all a sa ra b sb rb w' (hw.now ha (.tail _ (.tail _ (.tail _ (.tail _ (.tail _ (.tail _ (.tail _ (.tail _ (.head _)))))))))) (hw.now hb (.tail _ (.tail _ (.tail _ (.tail _ (.tail _ (.tail _ (.tail _ (.tail _ (.head _))))))))))) (next := ?_))
    rintro v n9 es w9 ⟨o9, ho9, rfl, rfl⟩
    repeat (first | (show KP _ (wpList _ _ _ (⟨some _, _, _, _, _, none⟩ :: _)) _ _; refine wl_a (next := ?_)) | (show KP _ (wpList _ _ _ (⟨some _, _, _, _, _, some _⟩ :: _)) _ _; refine wl_ag (next := ?_)) | refine wl_nil ?_ | refine po_then ?_ | refine wc_seq ?_ | refine wc_region ?_ | refine wc_block ?_ | refine po_block ?_ | refine wc_ret ?_ | refine po_then_ret ?_ | refine po_block_ret ?_ | refine wc_exit ?_ | refine po_then_exit ?_ | refine po_block_exit ?_ | refine po_block_pass rfl ?_ | refine wc_skip ?_)
    refine wl_fx (fx_alloc (next := ?_)); intro b9
    repeat (first | (show KP _ (wpList _ _ _ (⟨some _, _, _, _, _, none⟩ :: _)) _ _; refine wl_a (next := ?_)) | (show KP _ (wpList _ _ _ (⟨some _, _, _, _, _, some _⟩ :: _)) _ _; refine wl_ag (next := ?_)) | refine wl_nil ?_ | refine po_then ?_ | refine wc_seq ?_ | refine wc_region ?_ | refine wc_block ?_ | refine po_block ?_ | refine wc_ret ?_ | refine po_then_ret ?_ | refine po_block_ret ?_ | refine wc_exit ?_ | refine po_then_exit ?_ | refine po_block_exit ?_ | refine po_block_pass rfl ?_ | refine wc_skip ?_)
    refine wl_fx (fx_store_box (i := 0) (hi := rfl) (next := ?_))
    repeat (first | (show KP _ (wpList _ _ _ (⟨some _, _, _, _, _, none⟩ :: _)) _ _; refine wl_a (next := ?_)) | (show KP _ (wpList _ _ _ (⟨some _, _, _, _, _, some _⟩ :: _)) _ _; refine wl_ag (next := ?_)) | refine wl_nil ?_ | refine po_then ?_ | refine wc_seq ?_ | refine wc_region ?_ | refine wc_block ?_ | refine po_block ?_ | refine wc_ret ?_ | refine po_then_ret ?_ | refine po_block_ret ?_ | refine wc_exit ?_ | refine po_then_exit ?_ | refine po_block_exit ?_ | refine po_block_pass rfl ?_ | refine wc_skip ?_)
    refine wl_fx (fx_call_mk (spec := fun w' hw => rplus_all a sa ra w' (hw.now ha (.tail _ (.tail _ (.tail _ (.tail _ (.tail _ (.tail _ (.tail _ (.tail _ (.tail _ (.head _)))))))))))) (next := ?_))
    rintro v n10 es w10 ⟨o10, ho10, rfl, rfl⟩
    repeat (first | (show KP _ (wpList _ _ _ (⟨some _, _, _, _, _, none⟩ :: _)) _ _; refine wl_a (next := ?_)) | (show KP _ (wpList _ _ _ (⟨some _, _, _, _, _, some _⟩ :: _)) _ _; refine wl_ag (next := ?_)) | refine wl_nil ?_ | refine po_then ?_ | refine wc_seq ?_ | refine wc_region ?_ | refine wc_block ?_ | refine po_block ?_ | refine wc_ret ?_ | refine po_then_ret ?_ | refine po_block_ret ?_ | refine wc_exit ?_ | refine po_then_exit ?_ | refine po_block_exit ?_ | refine po_block_pass rfl ?_ | refine wc_skip ?_)
    refine wl_fx (fx_alloc (next := ?_)); intro b10
    repeat (first | (show KP _ (wpList _ _ _ (⟨some _, _, _, _, _, none⟩ :: _)) _ _; refine wl_a (next := ?_)) | (show KP _ (wpList _ _ _ (⟨some _, _, _, _, _, some _⟩ :: _)) _ _; refine wl_ag (next := ?_)) | refine wl_nil ?_ | refine po_then ?_ | refine wc_seq ?_ | refine wc_region ?_ | refine wc_block ?_ | refine po_block ?_ | refine wc_ret ?_ | refine po_then_ret ?_ | refine po_block_ret ?_ | refine wc_exit ?_ | refine po_then_exit ?_ | refine po_block_exit ?_ | refine po_block_pass rfl ?_ | refine wc_skip ?_)
    refine wl_fx (fx_store_box (i := 0) (hi := rfl) (next := ?_))
    repeat (first | (show KP _ (wpList _ _ _ (⟨some _, _, _, _, _, none⟩ :: _)) _ _; refine wl_a (next := ?_)) | (show KP _ (wpList _ _ _ (⟨some _, _, _, _, _, some _⟩ :: _)) _ _; refine wl_ag (next := ?_)) | refine wl_nil ?_ | refine po_then ?_ | refine wc_seq ?_ | refine wc_region ?_ | refine wc_block ?_ | refine po_block ?_ | refine wc_ret ?_ | refine po_then_ret ?_ | refine po_block_ret ?_ | refine wc_exit ?_ | refine po_then_exit ?_ | refine po_block_exit ?_ | refine po_block_pass rfl ?_ | refine wc_skip ?_)
    refine wl_fx (fx_call_mk (spec := fun w' hw => rline_all a sa ra w' (hw.now ha (.tail _ (.tail _ (.tail _ (.tail _ (.tail _ (.tail _ (.tail _ (.tail _ (.tail _ (.tail _ (.head _))))))))))))) (next := ?_))
    rintro v n11 es w11 ⟨o11, ho11, rfl, rfl⟩
    repeat (first | (show KP _ (wpList _ _ _ (⟨some _, _, _, _, _, none⟩ :: _)) _ _; refine wl_a (next := ?_)) | (show KP _ (wpList _ _ _ (⟨some _, _, _, _, _, some _⟩ :: _)) _ _; refine wl_ag (next := ?_)) | refine wl_nil ?_ | refine po_then ?_ | refine wc_seq ?_ | refine wc_region ?_ | refine wc_block ?_ | refine po_block ?_ | refine wc_ret ?_ | refine po_then_ret ?_ | refine po_block_ret ?_ | refine wc_exit ?_ | refine po_then_exit ?_ | refine po_block_exit ?_ | refine po_block_pass rfl ?_ | refine wc_skip ?_)
    refine wl_fx (fx_call_mk (spec := fun w' hw => rround_all a sa ra w' (hw.now ha (.tail _ (.tail _ (.tail _ (.tail _ (.tail _ (.tail _ (.tail _ (.tail _ (.tail _ (.tail _ (.tail _ (.head _)))))))))))))) (next := ?_))
    rintro v n12 es w12 ⟨o12, ho12, rfl, rfl⟩
    repeat (first | (show KP _ (wpList _ _ _ (⟨some _, _, _, _, _, none⟩ :: _)) _ _; refine wl_a (next := ?_)) | (show KP _ (wpList _ _ _ (⟨some _, _, _, _, _, some _⟩ :: _)) _ _; refine wl_ag (next := ?_)) | refine wl_nil ?_ | refine po_then ?_ | refine wc_seq ?_ | refine wc_region ?_ | refine wc_block ?_ | refine po_block ?_ | refine wc_ret ?_ | refine po_then_ret ?_ | refine po_block_ret ?_ | refine wc_exit ?_ | refine po_then_exit ?_ | refine po_block_exit ?_ | refine po_block_pass rfl ?_ | refine wc_skip ?_)
    refine wl_fx (fx_call_mk (spec := fun w' hw => rpairs_all a sa ra w' (hw.now ha (.tail _ (.tail _ (.tail _ (.tail _ (.tail _ (.tail _ (.tail _ (.tail _ (.tail _ (.tail _ (.tail _ (.tail _ (.head _))))))))))))))) (next := ?_))
    rintro v n13 es w13 ⟨o13, ho13, rfl, rfl⟩
    repeat (first | (show KP _ (wpList _ _ _ (⟨some _, _, _, _, _, none⟩ :: _)) _ _; refine wl_a (next := ?_)) | (show KP _ (wpList _ _ _ (⟨some _, _, _, _, _, some _⟩ :: _)) _ _; refine wl_ag (next := ?_)) | refine wl_nil ?_ | refine po_then ?_ | refine wc_seq ?_ | refine wc_region ?_ | refine wc_block ?_ | refine po_block ?_ | refine wc_ret ?_ | refine po_then_ret ?_ | refine po_block_ret ?_ | refine wc_exit ?_ | refine po_then_exit ?_ | refine po_block_exit ?_ | refine po_block_pass rfl ?_ | refine wc_skip ?_)
    refine wl_fx (fx_call (spec := fun w' hw => same_spec _ _ o1 o9 _ _ w' (hw.lend (.tail _ (.tail _ (.tail _ (.tail _ (.tail _ (.tail _ (.tail _ (.tail _ (.tail _ (.tail _ (.tail _ (.tail _ (.tail _ (.tail _ (.tail _ (.tail _ (.tail _ (.tail _ (.tail _ (.head _))))))))))))))))))))) (hw.lend (.tail _ (.tail _ (.tail _ (.tail _ (.tail _ (.tail _ (.head _))))))))) (next := ?_))
    rintro v n14 w14 rfl hn14
    repeat (first | (show KP _ (wpList _ _ _ (⟨some _, _, _, _, _, none⟩ :: _)) _ _; refine wl_a (next := ?_)) | (show KP _ (wpList _ _ _ (⟨some _, _, _, _, _, some _⟩ :: _)) _ _; refine wl_ag (next := ?_)) | refine wl_nil ?_ | refine po_then ?_ | refine wc_seq ?_ | refine wc_region ?_ | refine wc_block ?_ | refine po_block ?_ | refine wc_ret ?_ | refine po_then_ret ?_ | refine po_block_ret ?_ | refine wc_exit ?_ | refine po_then_exit ?_ | refine po_block_exit ?_ | refine po_block_pass rfl ?_ | refine wc_skip ?_)
    refine wl_gx (h := gx_call (spec := fun _ w' hw => same_spec _ _ o2 o10 _ _ w' (hw.lend (.tail _ (.tail _ (.tail _ (.tail _ (.tail _ (.tail _ (.tail _ (.tail _ (.tail _ (.tail _ (.tail _ (.tail _ (.tail _ (.tail _ (.tail _ (.tail _ (.tail _ (.head _))))))))))))))))))) (hw.lend (.tail _ (.tail _ (.tail _ (.tail _ (.head _)))))))) (next := ?_)
    repeat (first | (show KP _ (wpList _ _ _ (⟨some _, _, _, _, _, none⟩ :: _)) _ _; refine wl_a (next := ?_)) | (show KP _ (wpList _ _ _ (⟨some _, _, _, _, _, some _⟩ :: _)) _ _; refine wl_ag (next := ?_)) | refine wl_nil ?_ | refine po_then ?_ | refine wc_seq ?_ | refine wc_region ?_ | refine wc_block ?_ | refine po_block ?_ | refine wc_ret ?_ | refine po_then_ret ?_ | refine po_block_ret ?_ | refine wc_exit ?_ | refine po_then_exit ?_ | refine po_block_exit ?_ | refine po_block_pass rfl ?_ | refine wc_skip ?_)
    refine wl_gx (h := gx_call (spec := fun _ w' hw => sameInts_spec o6 o11 _ _ w' (hw.lend (.tail _ (.tail _ (.tail _ (.tail _ (.tail _ (.tail _ (.tail _ (.tail _ (.tail _ (.head _))))))))))) (hw.lend (.tail _ (.tail _ (.head _)))))) (next := ?_)
    repeat (first | (show KP _ (wpList _ _ _ (⟨some _, _, _, _, _, none⟩ :: _)) _ _; refine wl_a (next := ?_)) | (show KP _ (wpList _ _ _ (⟨some _, _, _, _, _, some _⟩ :: _)) _ _; refine wl_ag (next := ?_)) | refine wl_nil ?_ | refine po_then ?_ | refine wc_seq ?_ | refine wc_region ?_ | refine wc_block ?_ | refine po_block ?_ | refine wc_ret ?_ | refine po_then_ret ?_ | refine po_block_ret ?_ | refine wc_exit ?_ | refine po_then_exit ?_ | refine po_block_exit ?_ | refine po_block_pass rfl ?_ | refine wc_skip ?_)
    refine wl_gx (h := gx_call (spec := fun _ w' hw => sameInts_spec o7 o12 _ _ w' (hw.lend (.tail _ (.tail _ (.tail _ (.tail _ (.tail _ (.tail _ (.tail _ (.tail _ (.head _)))))))))) (hw.lend (.tail _ (.head _))))) (next := ?_)
    repeat (first | (show KP _ (wpList _ _ _ (⟨some _, _, _, _, _, none⟩ :: _)) _ _; refine wl_a (next := ?_)) | (show KP _ (wpList _ _ _ (⟨some _, _, _, _, _, some _⟩ :: _)) _ _; refine wl_ag (next := ?_)) | refine wl_nil ?_ | refine po_then ?_ | refine wc_seq ?_ | refine wc_region ?_ | refine wc_block ?_ | refine po_block ?_ | refine wc_ret ?_ | refine po_then_ret ?_ | refine po_block_ret ?_ | refine wc_exit ?_ | refine po_then_exit ?_ | refine po_block_exit ?_ | refine po_block_pass rfl ?_ | refine wc_skip ?_)
    refine wl_gx (h := gx_call (spec := fun _ w' hw => samePairs_spec o8 o13 _ _ w' (hw.lend (.tail _ (.tail _ (.tail _ (.tail _ (.tail _ (.tail _ (.tail _ (.head _))))))))) (hw.lend (.head _)))) (next := ?_)
    repeat (first | (show KP _ (wpList _ _ _ (⟨some _, _, _, _, _, none⟩ :: _)) _ _; refine wl_a (next := ?_)) | (show KP _ (wpList _ _ _ (⟨some _, _, _, _, _, some _⟩ :: _)) _ _; refine wl_ag (next := ?_)) | refine wl_nil ?_ | refine po_then ?_ | refine wc_seq ?_ | refine wc_region ?_ | refine wc_block ?_ | refine po_block ?_ | refine wc_ret ?_ | refine po_then_ret ?_ | refine po_block_ret ?_ | refine wc_exit ?_ | refine po_then_exit ?_ | refine po_block_exit ?_ | refine po_block_pass rfl ?_ | refine wc_skip ?_)
    refine wc_cond rfl (fun h2 => by simp at h2) (fun _ => ?_)
    repeat (first | (show KP _ (wpList _ _ _ (⟨some _, _, _, _, _, none⟩ :: _)) _ _; refine wl_a (next := ?_)) | (show KP _ (wpList _ _ _ (⟨some _, _, _, _, _, some _⟩ :: _)) _ _; refine wl_ag (next := ?_)) | refine wl_nil ?_ | refine po_then ?_ | refine wc_seq ?_ | refine wc_region ?_ | refine wc_block ?_ | refine po_block ?_ | refine wc_ret ?_ | refine po_then_ret ?_ | refine po_block_ret ?_ | refine wc_exit ?_ | refine po_then_exit ?_ | refine po_block_exit ?_ | refine po_block_pass rfl ?_ | refine wc_skip ?_)
    refine wl_fx (fx_call_mu 19 rfl (spec := fun w' hw => spoil_spec _ o1 _ k w' ho1 (hw.only (.tail _ (.tail _ (.tail _ (.tail _ (.tail _ (.tail _ (.tail _ (.tail _ (.tail _ (.tail _ (.tail _ (.tail _ (.tail _ (.tail _ (.tail _ (.tail _ (.tail _ (.tail _ (.tail _ (.head _)))))))))))))))))))))) (next := ?_))
    rintro v n51 e' w51 ⟨rfl, rs1, rfl⟩
    repeat (first | (show KP _ (wpList _ _ _ (⟨some _, _, _, _, _, none⟩ :: _)) _ _; refine wl_a (next := ?_)) | (show KP _ (wpList _ _ _ (⟨some _, _, _, _, _, some _⟩ :: _)) _ _; refine wl_ag (next := ?_)) | refine wl_nil ?_ | refine po_then ?_ | refine wc_seq ?_ | refine wc_region ?_ | refine wc_block ?_ | refine po_block ?_ | refine wc_ret ?_ | refine po_then_ret ?_ | refine po_block_ret ?_ | refine wc_exit ?_ | refine po_then_exit ?_ | refine po_block_exit ?_ | refine po_block_pass rfl ?_ | refine wc_skip ?_)
    refine wl_fx (fx_call_mu 17 rfl (spec := fun w' hw => spoil_spec _ o2 _ k w' ho2 (hw.only (.tail _ (.tail _ (.tail _ (.tail _ (.tail _ (.tail _ (.tail _ (.tail _ (.tail _ (.tail _ (.tail _ (.tail _ (.tail _ (.tail _ (.tail _ (.tail _ (.tail _ (.head _)))))))))))))))))))) (next := ?_))
    rintro v n52 e' w52 ⟨rfl, rs2, rfl⟩
    repeat (first | (show KP _ (wpList _ _ _ (⟨some _, _, _, _, _, none⟩ :: _)) _ _; refine wl_a (next := ?_)) | (show KP _ (wpList _ _ _ (⟨some _, _, _, _, _, some _⟩ :: _)) _ _; refine wl_ag (next := ?_)) | refine wl_nil ?_ | refine po_then ?_ | refine wc_seq ?_ | refine wc_region ?_ | refine wc_block ?_ | refine po_block ?_ | refine wc_ret ?_ | refine po_then_ret ?_ | refine po_block_ret ?_ | refine wc_exit ?_ | refine po_then_exit ?_ | refine po_block_exit ?_ | refine po_block_pass rfl ?_ | refine wc_skip ?_)
    refine wl_fx (fx_call_mu 15 rfl (spec := fun w' hw => spoil_spec _ o3 _ k w' ho3 (hw.only (.tail _ (.tail _ (.tail _ (.tail _ (.tail _ (.tail _ (.tail _ (.tail _ (.tail _ (.tail _ (.tail _ (.tail _ (.tail _ (.tail _ (.tail _ (.head _)))))))))))))))))) (next := ?_))
    rintro v n53 e' w53 ⟨rfl, rs3, rfl⟩
    repeat (first | (show KP _ (wpList _ _ _ (⟨some _, _, _, _, _, none⟩ :: _)) _ _; refine wl_a (next := ?_)) | (show KP _ (wpList _ _ _ (⟨some _, _, _, _, _, some _⟩ :: _)) _ _; refine wl_ag (next := ?_)) | refine wl_nil ?_ | refine po_then ?_ | refine wc_seq ?_ | refine wc_region ?_ | refine wc_block ?_ | refine po_block ?_ | refine wc_ret ?_ | refine po_then_ret ?_ | refine po_block_ret ?_ | refine wc_exit ?_ | refine po_then_exit ?_ | refine po_block_exit ?_ | refine po_block_pass rfl ?_ | refine wc_skip ?_)
    refine wl_fx (fx_call_mu 13 rfl (spec := fun w' hw => spoil_spec _ o4 _ k w' ho4 (hw.only (.tail _ (.tail _ (.tail _ (.tail _ (.tail _ (.tail _ (.tail _ (.tail _ (.tail _ (.tail _ (.tail _ (.tail _ (.tail _ (.head _)))))))))))))))) (next := ?_))
    rintro v n54 e' w54 ⟨rfl, rs4, rfl⟩
    repeat (first | (show KP _ (wpList _ _ _ (⟨some _, _, _, _, _, none⟩ :: _)) _ _; refine wl_a (next := ?_)) | (show KP _ (wpList _ _ _ (⟨some _, _, _, _, _, some _⟩ :: _)) _ _; refine wl_ag (next := ?_)) | refine wl_nil ?_ | refine po_then ?_ | refine wc_seq ?_ | refine wc_region ?_ | refine wc_block ?_ | refine po_block ?_ | refine wc_ret ?_ | refine po_then_ret ?_ | refine po_block_ret ?_ | refine wc_exit ?_ | refine po_then_exit ?_ | refine po_block_exit ?_ | refine po_block_pass rfl ?_ | refine wc_skip ?_)
    refine wl_fx (fx_call_mu 11 rfl (spec := fun w' hw => spoil_spec _ o5 _ k w' ho5 (hw.only (.tail _ (.tail _ (.tail _ (.tail _ (.tail _ (.tail _ (.tail _ (.tail _ (.tail _ (.tail _ (.tail _ (.head _)))))))))))))) (next := ?_))
    rintro v n55 e' w55 ⟨rfl, rs5, rfl⟩
    repeat (first | (show KP _ (wpList _ _ _ (⟨some _, _, _, _, _, none⟩ :: _)) _ _; refine wl_a (next := ?_)) | (show KP _ (wpList _ _ _ (⟨some _, _, _, _, _, some _⟩ :: _)) _ _; refine wl_ag (next := ?_)) | refine wl_nil ?_ | refine po_then ?_ | refine wc_seq ?_ | refine wc_region ?_ | refine wc_block ?_ | refine po_block ?_ | refine wc_ret ?_ | refine po_then_ret ?_ | refine po_block_ret ?_ | refine wc_exit ?_ | refine po_then_exit ?_ | refine po_block_exit ?_ | refine po_block_pass rfl ?_ | refine wc_skip ?_)
    have hb6 : (lineS a ra).length ≤ 100 := lineS_le a ra
    have hb7 : (roundS a ra).length ≤ 100 := roundS_le a ra
    have hb8 : (pairsS a ra).length ≤ 5000 := pairsS_le a ra
    refine wc_loop (fun s : Nat × List Int => s.1 ≤ s.2.length ∧ s.2.length ≤ 100) (fun s => [(34, true, .int .i64 s.1), (22, true, o8), (20, true, o7), (18, true, o6), (7, true, .int .i64 k), (6, true, .pointer (some ⟨bd, 0, none⟩)), (5, true, .pointer (some ⟨bc, 0, none⟩)), (3, true, .pointer (some ⟨bb, 0, none⟩)), (2, true, .pointer (some ⟨ba, 0, none⟩))])
      (fun s => Mem [(w, All)] [ownI o6 s.2, ownI o7 (roundS a ra), ownP o8 (pairsS a ra), .box bd [.int .i64 b, cutV rb.length dv] 27, ownW dv (rb ++ marks), .box bc [.int .i64 a, cutV ra.length cv] 27, ownW cv (ra ++ marks), .box bb [.int .i64 b, sb] 27, .box ba [.int .i64 a, sa] 27]) (fun s => s.2.length - s.1) (0, lineS a ra) ⟨Nat.zero_le _, hb6⟩ ⟨rfl, rfl, rfl, rfl, rfl, rfl, rfl, rfl, rfl, trivial⟩ (fun _ h => (h.last rfl).sel [9, 8, 7, 20, 21, 22, 23, 24, 25] rfl (by decide)) ?_
    rintro ⟨i, xs⟩ ⟨hi, hx⟩
    dsimp only at hi hx ⊢
    repeat (first | (show KP _ (wpList _ _ _ (⟨some _, _, _, _, _, none⟩ :: _)) _ _; refine wl_a (next := ?_)) | (show KP _ (wpList _ _ _ (⟨some _, _, _, _, _, some _⟩ :: _)) _ _; refine wl_ag (next := ?_)) | refine wl_nil ?_ | refine po_then ?_ | refine wc_seq ?_ | refine wc_region ?_ | refine wc_block ?_ | refine po_block ?_ | refine wc_ret ?_ | refine po_then_ret ?_ | refine po_block_ret ?_ | refine wc_exit ?_ | refine po_then_exit ?_ | refine po_block_exit ?_ | refine po_block_pass rfl ?_ | refine wc_skip ?_)
    refine wc_cond_dec rfl (fun h3 => ?_) (fun h3 => ?_)
    · have hi2 : i < xs.length := by omega
      repeat (first | (show KP _ (wpList _ _ _ (⟨some _, _, _, _, _, none⟩ :: _)) _ _; refine wl_a (next := ?_)) | (show KP _ (wpList _ _ _ (⟨some _, _, _, _, _, some _⟩ :: _)) _ _; refine wl_ag (next := ?_)) | refine wl_nil ?_ | refine po_then ?_ | refine wc_seq ?_ | refine wc_region ?_ | refine wc_block ?_ | refine po_block ?_ | refine wc_ret ?_ | refine po_then_ret ?_ | refine po_block_ret ?_ | refine wc_exit ?_ | refine po_then_exit ?_ | refine po_block_exit ?_ | refine po_block_pass rfl ?_ | refine wc_skip ?_)
      refine wl_fx (fx_store_own (k := 0) (hk := rfl) (next := ?_))
      repeat (first | (show KP _ (wpList _ _ _ (⟨some _, _, _, _, _, none⟩ :: _)) _ _; refine wl_a (next := ?_)) | (show KP _ (wpList _ _ _ (⟨some _, _, _, _, _, some _⟩ :: _)) _ _; refine wl_ag (next := ?_)) | refine wl_nil ?_ | refine po_then ?_ | refine wc_seq ?_ | refine wc_region ?_ | refine wc_block ?_ | refine po_block ?_ | refine wc_ret ?_ | refine po_then_ret ?_ | refine po_block_ret ?_ | refine wc_exit ?_ | refine po_then_exit ?_ | refine po_block_exit ?_ | refine po_block_pass rfl ?_ | refine wc_skip ?_)
      exact po_loop (i + 1, xs.set i _) ⟨by simp; omega, by simp [hx]⟩ (by simp; omega) ⟨rfl, rfl, rfl, rfl, rfl, rfl, rfl, rfl, rfl, trivial⟩ (fun _ h => h.last rfl)
    · repeat (first | (show KP _ (wpList _ _ _ (⟨some _, _, _, _, _, none⟩ :: _)) _ _; refine wl_a (next := ?_)) | (show KP _ (wpList _ _ _ (⟨some _, _, _, _, _, some _⟩ :: _)) _ _; refine wl_ag (next := ?_)) | refine wl_nil ?_ | refine po_then ?_ | refine wc_seq ?_ | refine wc_region ?_ | refine wc_block ?_ | refine po_block ?_ | refine wc_ret ?_ | refine po_then_ret ?_ | refine po_block_ret ?_ | refine wc_exit ?_ | refine po_then_exit ?_ | refine po_block_exit ?_ | refine po_block_pass rfl ?_ | refine wc_skip ?_)
      refine wc_loop (fun s : Nat × List Int => s.1 ≤ s.2.length ∧ s.2.length ≤ 100) (fun s => [(35, true, .int .i64 s.1), (22, true, o8), (20, true, o7), (7, true, .int .i64 k), (6, true, .pointer (some ⟨bd, 0, none⟩)), (5, true, .pointer (some ⟨bc, 0, none⟩)), (3, true, .pointer (some ⟨bb, 0, none⟩)), (2, true, .pointer (some ⟨ba, 0, none⟩))])
        (fun s => Mem [(w, All)] [ownI o7 s.2, ownP o8 (pairsS a ra), .box bd [.int .i64 b, cutV rb.length dv] 27, ownW dv (rb ++ marks), .box bc [.int .i64 a, cutV ra.length cv] 27, ownW cv (ra ++ marks), .box bb [.int .i64 b, sb] 27, .box ba [.int .i64 a, sa] 27]) (fun s => s.2.length - s.1) (0, roundS a ra) ⟨Nat.zero_le _, hb7⟩ ⟨rfl, rfl, rfl, rfl, rfl, rfl, rfl, rfl, trivial⟩ (fun _ h => (h.last rfl).sel [1, 2, 3, 4, 5, 6, 7, 8] rfl (by decide)) ?_
      rintro ⟨i2, xs2⟩ ⟨hi2, hx2⟩
      dsimp only at hi2 hx2 ⊢
      repeat (first | (show KP _ (wpList _ _ _ (⟨some _, _, _, _, _, none⟩ :: _)) _ _; refine wl_a (next := ?_)) | (show KP _ (wpList _ _ _ (⟨some _, _, _, _, _, some _⟩ :: _)) _ _; refine wl_ag (next := ?_)) | refine wl_nil ?_ | refine po_then ?_ | refine wc_seq ?_ | refine wc_region ?_ | refine wc_block ?_ | refine po_block ?_ | refine wc_ret ?_ | refine po_then_ret ?_ | refine po_block_ret ?_ | refine wc_exit ?_ | refine po_then_exit ?_ | refine po_block_exit ?_ | refine po_block_pass rfl ?_ | refine wc_skip ?_)
      refine wc_cond_dec rfl (fun h4 => ?_) (fun h4 => ?_)
      · have hi3 : i2 < xs2.length := by omega
        repeat (first | (show KP _ (wpList _ _ _ (⟨some _, _, _, _, _, none⟩ :: _)) _ _; refine wl_a (next := ?_)) | (show KP _ (wpList _ _ _ (⟨some _, _, _, _, _, some _⟩ :: _)) _ _; refine wl_ag (next := ?_)) | refine wl_nil ?_ | refine po_then ?_ | refine wc_seq ?_ | refine wc_region ?_ | refine wc_block ?_ | refine po_block ?_ | refine wc_ret ?_ | refine po_then_ret ?_ | refine po_block_ret ?_ | refine wc_exit ?_ | refine po_then_exit ?_ | refine po_block_exit ?_ | refine po_block_pass rfl ?_ | refine wc_skip ?_)
        refine wl_fx (fx_store_own (k := 0) (hk := rfl) (next := ?_))
        repeat (first | (show KP _ (wpList _ _ _ (⟨some _, _, _, _, _, none⟩ :: _)) _ _; refine wl_a (next := ?_)) | (show KP _ (wpList _ _ _ (⟨some _, _, _, _, _, some _⟩ :: _)) _ _; refine wl_ag (next := ?_)) | refine wl_nil ?_ | refine po_then ?_ | refine wc_seq ?_ | refine wc_region ?_ | refine wc_block ?_ | refine po_block ?_ | refine wc_ret ?_ | refine po_then_ret ?_ | refine po_block_ret ?_ | refine wc_exit ?_ | refine po_then_exit ?_ | refine po_block_exit ?_ | refine po_block_pass rfl ?_ | refine wc_skip ?_)
        exact po_loop (i2 + 1, xs2.set i2 _) ⟨by simp; omega, by simp [hx2]⟩ (by simp; omega) ⟨rfl, rfl, rfl, rfl, rfl, rfl, rfl, rfl, trivial⟩ (fun _ h => h.last rfl)
      · repeat (first | (show KP _ (wpList _ _ _ (⟨some _, _, _, _, _, none⟩ :: _)) _ _; refine wl_a (next := ?_)) | (show KP _ (wpList _ _ _ (⟨some _, _, _, _, _, some _⟩ :: _)) _ _; refine wl_ag (next := ?_)) | refine wl_nil ?_ | refine po_then ?_ | refine wc_seq ?_ | refine wc_region ?_ | refine wc_block ?_ | refine po_block ?_ | refine wc_ret ?_ | refine po_then_ret ?_ | refine po_block_ret ?_ | refine wc_exit ?_ | refine po_then_exit ?_ | refine po_block_exit ?_ | refine po_block_pass rfl ?_ | refine wc_skip ?_)
        refine wc_loop (fun s : Nat × List Pair => s.1 ≤ s.2.length ∧ s.2.length ≤ 5000) (fun s => [(36, true, .int .i64 s.1), (22, true, o8), (7, true, .int .i64 k), (6, true, .pointer (some ⟨bd, 0, none⟩)), (5, true, .pointer (some ⟨bc, 0, none⟩)), (3, true, .pointer (some ⟨bb, 0, none⟩)), (2, true, .pointer (some ⟨ba, 0, none⟩))])
          (fun s => Mem [(w, All)] [ownP o8 s.2, .box bd [.int .i64 b, cutV rb.length dv] 27, ownW dv (rb ++ marks), .box bc [.int .i64 a, cutV ra.length cv] 27, ownW cv (ra ++ marks), .box bb [.int .i64 b, sb] 27, .box ba [.int .i64 a, sa] 27]) (fun s => s.2.length - s.1) (0, pairsS a ra) ⟨Nat.zero_le _, hb8⟩ ⟨rfl, rfl, rfl, rfl, rfl, rfl, rfl, trivial⟩ (fun _ h => (h.last rfl).sel [1, 2, 3, 4, 5, 6, 7] rfl (by decide)) ?_
        rintro ⟨i3, xs3⟩ ⟨hi3, hx3⟩
        dsimp only at hi3 hx3 ⊢
        repeat (first | (show KP _ (wpList _ _ _ (⟨some _, _, _, _, _, none⟩ :: _)) _ _; refine wl_a (next := ?_)) | (show KP _ (wpList _ _ _ (⟨some _, _, _, _, _, some _⟩ :: _)) _ _; refine wl_ag (next := ?_)) | refine wl_nil ?_ | refine po_then ?_ | refine wc_seq ?_ | refine wc_region ?_ | refine wc_block ?_ | refine po_block ?_ | refine wc_ret ?_ | refine po_then_ret ?_ | refine po_block_ret ?_ | refine wc_exit ?_ | refine po_then_exit ?_ | refine po_block_exit ?_ | refine po_block_pass rfl ?_ | refine wc_skip ?_)
        refine wc_cond_dec rfl (fun h5 => ?_) (fun h5 => ?_)
        · have hi4 : i3 < xs3.length := by omega
          repeat (first | (show KP _ (wpList _ _ _ (⟨some _, _, _, _, _, none⟩ :: _)) _ _; refine wl_a (next := ?_)) | (show KP _ (wpList _ _ _ (⟨some _, _, _, _, _, some _⟩ :: _)) _ _; refine wl_ag (next := ?_)) | refine wl_nil ?_ | refine po_then ?_ | refine wc_seq ?_ | refine wc_region ?_ | refine wc_block ?_ | refine po_block ?_ | refine wc_ret ?_ | refine po_then_ret ?_ | refine po_block_ret ?_ | refine wc_exit ?_ | refine po_then_exit ?_ | refine po_block_exit ?_ | refine po_block_pass rfl ?_ | refine wc_skip ?_)
          refine wl_fx (fx_store_own (k := 0) (x' := (⟨-79, (k : Int)⟩ : Pair)) (hk := rfl) (hd := rfl) (next := ?_))
          repeat (first | (show KP _ (wpList _ _ _ (⟨some _, _, _, _, _, none⟩ :: _)) _ _; refine wl_a (next := ?_)) | (show KP _ (wpList _ _ _ (⟨some _, _, _, _, _, some _⟩ :: _)) _ _; refine wl_ag (next := ?_)) | refine wl_nil ?_ | refine po_then ?_ | refine wc_seq ?_ | refine wc_region ?_ | refine wc_block ?_ | refine po_block ?_ | refine wc_ret ?_ | refine po_then_ret ?_ | refine po_block_ret ?_ | refine wc_exit ?_ | refine po_then_exit ?_ | refine po_block_exit ?_ | refine po_block_pass rfl ?_ | refine wc_skip ?_)
          exact po_loop (i3 + 1, xs3.set i3 _) ⟨by simp; omega, by simp [hx3]⟩ (by simp; omega) ⟨rfl, rfl, rfl, rfl, rfl, rfl, rfl, trivial⟩ (fun _ h => h.last rfl)
        · repeat (first | (show KP _ (wpList _ _ _ (⟨some _, _, _, _, _, none⟩ :: _)) _ _; refine wl_a (next := ?_)) | (show KP _ (wpList _ _ _ (⟨some _, _, _, _, _, some _⟩ :: _)) _ _; refine wl_ag (next := ?_)) | refine wl_nil ?_ | refine po_then ?_ | refine wc_seq ?_ | refine wc_region ?_ | refine wc_block ?_ | refine po_block ?_ | refine wc_ret ?_ | refine po_then_ret ?_ | refine po_block_ret ?_ | refine wc_exit ?_ | refine po_then_exit ?_ | refine po_block_exit ?_ | refine po_block_pass rfl ?_ | refine wc_skip ?_)
          exact po_loop (k + 1) (by omega) (by omega) ⟨rfl, rfl, rfl, rfl, rfl, trivial⟩ (fun _ h => (h.last rfl).sel [1, 2, 3, 4, 5, 6] rfl (by decide))
  · repeat (first | (show KP _ (wpList _ _ _ (⟨some _, _, _, _, _, none⟩ :: _)) _ _; refine wl_a (next := ?_)) | (show KP _ (wpList _ _ _ (⟨some _, _, _, _, _, some _⟩ :: _)) _ _; refine wl_ag (next := ?_)) | refine wl_nil ?_ | refine po_then ?_ | refine wc_seq ?_ | refine wc_region ?_ | refine wc_block ?_ | refine po_block ?_ | refine wc_ret ?_ | refine po_then_ret ?_ | refine po_block_ret ?_ | refine wc_exit ?_ | refine po_then_exit ?_ | refine po_block_exit ?_ | refine po_block_pass rfl ?_ | refine wc_skip ?_)
    refine wl_fx (fx_call (spec := fun w' hw => kept_spec a sa cv ra w' (hw.lend (.tail _ (.tail _ (.tail _ (.head _))))) (hw.now ha (.head _))) (next := ?_))
    rintro v n1 w1 rfl hn1
    repeat (first | (show KP _ (wpList _ _ _ (⟨some _, _, _, _, _, none⟩ :: _)) _ _; refine wl_a (next := ?_)) | (show KP _ (wpList _ _ _ (⟨some _, _, _, _, _, some _⟩ :: _)) _ _; refine wl_ag (next := ?_)) | refine wl_nil ?_ | refine po_then ?_ | refine wc_seq ?_ | refine wc_region ?_ | refine wc_block ?_ | refine po_block ?_ | refine wc_ret ?_ | refine po_then_ret ?_ | refine po_block_ret ?_ | refine wc_exit ?_ | refine po_then_exit ?_ | refine po_block_exit ?_ | refine po_block_pass rfl ?_ | refine wc_skip ?_)
    refine wl_gx (h := gx_call (spec := fun _ w' hw => kept_spec b sb dv rb w' (hw.lend (.tail _ (.head _))) (hw.now hb (.tail _ (.head _))))) (next := ?_)
    repeat (first | (show KP _ (wpList _ _ _ (⟨some _, _, _, _, _, none⟩ :: _)) _ _; refine wl_a (next := ?_)) | (show KP _ (wpList _ _ _ (⟨some _, _, _, _, _, some _⟩ :: _)) _ _; refine wl_ag (next := ?_)) | refine wl_nil ?_ | refine po_then ?_ | refine wc_seq ?_ | refine wc_region ?_ | refine wc_block ?_ | refine po_block ?_ | refine wc_ret ?_ | refine po_then_ret ?_ | refine po_block_ret ?_ | refine wc_exit ?_ | refine po_then_exit ?_ | refine po_block_exit ?_ | refine po_block_pass rfl ?_ | refine wc_skip ?_)
    refine wl_gx (h := gx_call (spec := fun _ w' hw => awake_spec w')) (next := ?_)
    repeat (first | (show KP _ (wpList _ _ _ (⟨some _, _, _, _, _, none⟩ :: _)) _ _; refine wl_a (next := ?_)) | (show KP _ (wpList _ _ _ (⟨some _, _, _, _, _, some _⟩ :: _)) _ _; refine wl_ag (next := ?_)) | refine wl_nil ?_ | refine po_then ?_ | refine wc_seq ?_ | refine wc_region ?_ | refine wc_block ?_ | refine po_block ?_ | refine wc_ret ?_ | refine po_then_ret ?_ | refine po_block_ret ?_ | refine wc_exit ?_ | refine po_then_exit ?_ | refine po_block_exit ?_ | refine po_block_pass rfl ?_ | refine wc_skip ?_)
    refine pur_ret Tryd.results8 (.tmp rfl .nil) (.tail _ (.head _)) fun w' hw => ?_
    show Value.bool _ = Value.bool true
    simp [dc_eq]
end Go.Proofs.YtpncpbdfomgcgaaDoor
