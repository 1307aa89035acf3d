/- THE WALK of RelMixes: printed by wip/gen_mixes2.py. -/
import Derived.Test.YtpncpbdfomgcgaaDoorRelQ
namespace Go.Proofs.YtpncpbdfomgcgaaDoor
open Go Go.Eng Go.Rl
attribute [local irreducible] wpList Code.wp bodyPost Exit.then Exit.inBlock Calls

set_option maxHeartbeats 8000000 in
theorem relMixes_spec (a : Int) (sa : Value) (ra : List W) (b : Int) (sb : Value) (rb : List W) (w : World) (ha : Sl All w encW 1 sa ra) (hb : Sl All w encW 1 sb rb) (hT : Tab w) (hba : ra.length * 8 ≤ 140737488351232) (hbb : rb.length * 8 ≤ 140737488351232) :
    Pur Tryd.prog 7 [.agg #[.int .i64 a, sa], .agg #[.int .i64 b, sb]] w fun _ v _ => v = .bool true := by
  have hle := ha.le
  have hle2 := hb.le
  refine enter_pur Tryd.func7 Tryd.ntmps7 rfl rfl ?_
  repeat (first | (show KP _ (wpList _ _ _ (⟨some _, _, _, _, _, none⟩ :: _)) _ _; refine wl_a (next := ?_)) | (show KP _ (wpList _ _ _ (⟨some _, _, _, _, _, some _⟩ :: _)) _ _; refine wl_ag (next := ?_)) | refine wl_nil ?_ | refine po_then ?_ | refine wc_seq ?_ | refine wc_region ?_ | refine wc_block ?_ | refine po_block ?_ | refine wc_ret ?_ | refine po_then_ret ?_ | refine po_block_ret ?_ | refine wc_exit ?_ | refine po_then_exit ?_ | refine po_block_exit ?_ | refine po_block_pass rfl ?_ | refine wc_skip ?_)
  refine wl_fx (fx_box (next := ?_)); intro ba
  repeat (first | (show KP _ (wpList _ _ _ (⟨some _, _, _, _, _, none⟩ :: _)) _ _; refine wl_a (next := ?_)) | (show KP _ (wpList _ _ _ (⟨some _, _, _, _, _, some _⟩ :: _)) _ _; refine wl_ag (next := ?_)) | refine wl_nil ?_ | refine po_then ?_ | refine wc_seq ?_ | refine wc_region ?_ | refine wc_block ?_ | refine po_block ?_ | refine wc_ret ?_ | refine po_then_ret ?_ | refine po_block_ret ?_ | refine wc_exit ?_ | refine po_then_exit ?_ | refine po_block_exit ?_ | refine po_block_pass rfl ?_ | refine wc_skip ?_)
  refine wl_fx (fx_box (next := ?_)); intro bb
  repeat (first | (show KP _ (wpList _ _ _ (⟨some _, _, _, _, _, none⟩ :: _)) _ _; refine wl_a (next := ?_)) | (show KP _ (wpList _ _ _ (⟨some _, _, _, _, _, some _⟩ :: _)) _ _; refine wl_ag (next := ?_)) | refine wl_nil ?_ | refine po_then ?_ | refine wc_seq ?_ | refine wc_region ?_ | refine wc_block ?_ | refine po_block ?_ | refine wc_ret ?_ | refine po_then_ret ?_ | refine po_block_ret ?_ | refine wc_exit ?_ | refine po_then_exit ?_ | refine po_block_exit ?_ | refine po_block_pass rfl ?_ | refine wc_skip ?_)
  refine wc_cutA (fun s : Nat × Nat × Value × Value => SV s.2.2.1 ∧ SV s.2.2.2) (fun s => [(6, true, .pointer (some ⟨s.2.1, 0, none⟩)), (5, true, .pointer (some ⟨s.1, 0, none⟩)), (3, true, .pointer (some ⟨bb, 0, none⟩)), (2, true, .pointer (some ⟨ba, 0, none⟩))])
    (fun s => Mem [(w, All)] [.box s.2.1 [.int .i64 b, cutV rb.length s.2.2.2] 27, ownW s.2.2.2 (rb ++ marks), .box s.1 [.int .i64 a, cutV ra.length s.2.2.1] 27, ownW s.2.2.1 (ra ++ marks), .box bb [.int .i64 b, sb] 27, .box ba [.int .i64 a, sa] 27]) ?_ ?_
  · refine wc_drawS (Mem [(w, All)] [.box bb [.int .i64 b, sb] 27, .box ba [.int .i64 a, sa] 27]) [0, 2, 999] mixed (fun _ h => h.last rfl) ?_
    repeat (first | refine kg_a (next := ?_) | refine kg_ag (next := ?_) | refine kg_end (h := ?_))
    refine kg_br3 1 4 5 (h1 := ?_) (h2 := ?_) (h3 := ?_)
    · refine ks_f [999] _ (hSS := fun _ h => h) (h := fx_call_mk (spec := fun w' hw => copy_spec a sa ra w' (hw.now ha (.head _)) hba) (next := ?_))
      rintro v n1 es w1 ⟨cv, hcv, rfl, rfl⟩
      have hcv' : SV (cutV ra.length cv) := hcv.cut _
      refine kp_S ?_ (fun _ h => (h.last rfl).sel [1, 2] rfl (by decide))
      refine kg_br3 3 4 5 (h1 := ?_) (h2 := ?_) (h3 := ?_)
      · refine ks_f [999] _ (hSS := fun _ h => h) (h := fx_call_mk (spec := fun w' hw => copy_spec b sb rb w' (hw.now hb (.tail _ (.head _))) hbb) (next := ?_))
        rintro v n2 es w2 ⟨dv, hdv, rfl, rfl⟩
        have hdv' : SV (cutV rb.length dv) := hdv.cut _
        refine kp_S ?_ (fun _ h => (h.last rfl).sel [2, 3] rfl (by decide))
        refine kg_br2 4 5 (h1 := ?_) (h2 := ?_)
        · refine ks_f [999] _ (hSS := fun _ h => h) (h := fx_alloc (next := ?_))
          intro bc
          refine kp_S ?_ (fun _ h => (h.last rfl).sel [3, 4] rfl (by decide))
          refine kg_br1 5 (h1 := ?_)
          refine ks_f [999] _ (hSS := fun _ h => h) (h := fx_alloc (next := ?_))
          intro bd
          refine kp_S ?_ (fun _ h => (h.last rfl).sel [4, 5] rfl (by decide))
          refine kg_br1 6 (h1 := ?_)
          refine ks_f [7] _ (hSS := fun _ h => h) (h := fx_store_box (i := 1) (hi := rfl) (next := ?_))
          refine kp_S ?_ (fun _ h => (h.last rfl).sel [4, 5] rfl (by decide))
          refine kg_z (h := fx_store_box (i := 0) (hi := rfl) (next := ?_))
          exact po_cut (bc, bd, cv, dv) ⟨hcv, hdv⟩ ⟨rfl, rfl, rfl, rfl, trivial⟩ (fun _ h => (h.last rfl).sel [0, 2, 1, 3, 4, 5] rfl (by decide))
        · refine ks_f [999] _ (hSS := fun _ h => h) (h := fx_alloc (next := ?_))
          intro bd
          refine kp_S ?_ (fun _ h => (h.last rfl).sel [3, 4] rfl (by decide))
          refine kg_br1 4 (h1 := ?_)
          refine ks_f [999] _ (hSS := fun _ h => h) (h := fx_alloc (next := ?_))
          intro bc
          refine kp_S ?_ (fun _ h => (h.last rfl).sel [4, 5] rfl (by decide))
          refine kg_br1 6 (h1 := ?_)
          refine ks_f [7] _ (hSS := fun _ h => h) (h := fx_store_box (i := 0) (hi := rfl) (next := ?_))
          refine kp_S ?_ (fun _ h => (h.last rfl).sel [4, 5] rfl (by decide))
          refine kg_z (h := fx_store_box (i := 1) (hi := rfl) (next := ?_))
          exact po_cut (bc, bd, cv, dv) ⟨hcv, hdv⟩ ⟨rfl, rfl, rfl, rfl, trivial⟩ (fun _ h => (h.last rfl).sel [1, 2, 0, 3, 4, 5] rfl (by decide))
      · refine ks_f [999] _ (hSS := fun _ h => h) (h := fx_alloc (next := ?_))
        intro bc
        refine kp_S ?_ (fun _ h => (h.last rfl).sel [2, 3] rfl (by decide))
        refine kg_br2 3 5 (h1 := ?_) (h2 := ?_)
        · refine ks_f [999] _ (hSS := fun _ h => h) (h := fx_call_mk (spec := fun w' hw => copy_spec b sb rb w' (hw.now hb (.tail _ (.head _))) hbb) (next := ?_))
          rintro v n10 es w10 ⟨dv, hdv, rfl, rfl⟩
          have hdv' : SV (cutV rb.length dv) := hdv.cut _
          refine kp_S ?_ (fun _ h => (h.last rfl).sel [3, 4] rfl (by decide))
          refine kg_br1 5 (h1 := ?_)
          refine ks_f [999] _ (hSS := fun _ h => h) (h := fx_alloc (next := ?_))
          intro bd
          refine kp_S ?_ (fun _ h => (h.last rfl).sel [4, 5] rfl (by decide))
          refine kg_br1 6 (h1 := ?_)
          refine ks_f [7] _ (hSS := fun _ h => h) (h := fx_store_box (i := 2) (hi := rfl) (next := ?_))
          refine kp_S ?_ (fun _ h => (h.last rfl).sel [4, 5] rfl (by decide))
          refine kg_z (h := fx_store_box (i := 0) (hi := rfl) (next := ?_))
          exact po_cut (bc, bd, cv, dv) ⟨hcv, hdv⟩ ⟨rfl, rfl, rfl, rfl, trivial⟩ (fun _ h => (h.last rfl).sel [0, 1, 2, 3, 4, 5] rfl (by decide))
        · refine ks_f [999] _ (hSS := fun _ h => h) (h := fx_alloc (next := ?_))
          intro bd
          refine kp_S ?_ (fun _ h => (h.last rfl).sel [3, 4] rfl (by decide))
          refine kg_br1 3 (h1 := ?_)
          refine ks_f [999] _ (hSS := fun _ h => h) (h := fx_call_mk (spec := fun w' hw => copy_spec b sb rb w' (hw.now hb (.tail _ (.head _))) hbb) (next := ?_))
          rintro v n14 es w14 ⟨dv, hdv, rfl, rfl⟩
          have hdv' : SV (cutV rb.length dv) := hdv.cut _
          refine kp_S ?_ (fun _ h => (h.last rfl).sel [4, 5] rfl (by decide))
          refine kg_br1 6 (h1 := ?_)
          refine ks_f [7] _ (hSS := fun _ h => h) (h := fx_store_box (i := 2) (hi := rfl) (next := ?_))
          refine kp_S ?_ (fun _ h => (h.last rfl).sel [4, 5] rfl (by decide))
          refine kg_z (h := fx_store_box (i := 1) (hi := rfl) (next := ?_))
          exact po_cut (bc, bd, cv, dv) ⟨hcv, hdv⟩ ⟨rfl, rfl, rfl, rfl, trivial⟩ (fun _ h => (h.last rfl).sel [1, 0, 2, 3, 4, 5] rfl (by decide))
      · refine ks_f [999] _ (hSS := fun _ h => h) (h := fx_alloc (next := ?_))
        intro bd
        refine kp_S ?_ (fun _ h => (h.last rfl).sel [2, 3] rfl (by decide))
        refine kg_br2 3 4 (h1 := ?_) (h2 := ?_)
        · refine ks_f [999] _ (hSS := fun _ h => h) (h := fx_call_mk (spec := fun w' hw => copy_spec b sb rb w' (hw.now hb (.tail _ (.head _))) hbb) (next := ?_))
          rintro v n17 es w17 ⟨dv, hdv, rfl, rfl⟩
          have hdv' : SV (cutV rb.length dv) := hdv.cut _
          refine kp_S ?_ (fun _ h => (h.last rfl).sel [3, 4] rfl (by decide))
          refine kg_br1 4 (h1 := ?_)
          refine ks_f [999] _ (hSS := fun _ h => h) (h := fx_alloc (next := ?_))
          intro bc
          refine kp_S ?_ (fun _ h => (h.last rfl).sel [4, 5] rfl (by decide))
          refine kg_br1 6 (h1 := ?_)
          refine ks_f [7] _ (hSS := fun _ h => h) (h := fx_store_box (i := 0) (hi := rfl) (next := ?_))
          refine kp_S ?_ (fun _ h => (h.last rfl).sel [4, 5] rfl (by decide))
          refine kg_z (h := fx_store_box (i := 2) (hi := rfl) (next := ?_))
          exact po_cut (bc, bd, cv, dv) ⟨hcv, hdv⟩ ⟨rfl, rfl, rfl, rfl, trivial⟩ (fun _ h => (h.last rfl).sel [2, 1, 0, 3, 4, 5] rfl (by decide))
        · refine ks_f [999] _ (hSS := fun _ h => h) (h := fx_alloc (next := ?_))
          intro bc
          refine kp_S ?_ (fun _ h => (h.last rfl).sel [3, 4] rfl (by decide))
          refine kg_br1 3 (h1 := ?_)
          refine ks_f [999] _ (hSS := fun _ h => h) (h := fx_call_mk (spec := fun w' hw => copy_spec b sb rb w' (hw.now hb (.tail _ (.head _))) hbb) (next := ?_))
          rintro v n21 es w21 ⟨dv, hdv, rfl, rfl⟩
          have hdv' : SV (cutV rb.length dv) := hdv.cut _
          refine kp_S ?_ (fun _ h => (h.last rfl).sel [4, 5] rfl (by decide))
          refine kg_br1 6 (h1 := ?_)
          refine ks_f [7] _ (hSS := fun _ h => h) (h := fx_store_box (i := 1) (hi := rfl) (next := ?_))
          refine kp_S ?_ (fun _ h => (h.last rfl).sel [4, 5] rfl (by decide))
          refine kg_z (h := fx_store_box (i := 2) (hi := rfl) (next := ?_))
          exact po_cut (bc, bd, cv, dv) ⟨hcv, hdv⟩ ⟨rfl, rfl, rfl, rfl, trivial⟩ (fun _ h => (h.last rfl).sel [2, 0, 1, 3, 4, 5] rfl (by decide))
    · refine ks_f [999] _ (hSS := fun _ h => h) (h := fx_alloc (next := ?_))
      intro bc
      refine kp_S ?_ (fun _ h => (h.last rfl).sel [1, 2] rfl (by decide))
      refine kg_br2 1 5 (h1 := ?_) (h2 := ?_)
      · refine ks_f [999] _ (hSS := fun _ h => h) (h := fx_call_mk (spec := fun w' hw => copy_spec a sa ra w' (hw.now ha (.head _)) hba) (next := ?_))
        rintro v n24 es w24 ⟨cv, hcv, rfl, rfl⟩
        have hcv' : SV (cutV ra.length cv) := hcv.cut _
        refine kp_S ?_ (fun _ h => (h.last rfl).sel [2, 3] rfl (by decide))
        refine kg_br2 3 5 (h1 := ?_) (h2 := ?_)
        · refine ks_f [999] _ (hSS := fun _ h => h) (h := fx_call_mk (spec := fun w' hw => copy_spec b sb rb w' (hw.now hb (.tail _ (.head _))) hbb) (next := ?_))
          rintro v n25 es w25 ⟨dv, hdv, rfl, rfl⟩
          have hdv' : SV (cutV rb.length dv) := hdv.cut _
          refine kp_S ?_ (fun _ h => (h.last rfl).sel [3, 4] rfl (by decide))
          refine kg_br1 5 (h1 := ?_)
          refine ks_f [999] _ (hSS := fun _ h => h) (h := fx_alloc (next := ?_))
          intro bd
          refine kp_S ?_ (fun _ h => (h.last rfl).sel [4, 5] rfl (by decide))
          refine kg_br1 6 (h1 := ?_)
          refine ks_f [7] _ (hSS := fun _ h => h) (h := fx_store_box (i := 3) (hi := rfl) (next := ?_))
          refine kp_S ?_ (fun _ h => (h.last rfl).sel [4, 5] rfl (by decide))
          refine kg_z (h := fx_store_box (i := 0) (hi := rfl) (next := ?_))
          exact po_cut (bc, bd, cv, dv) ⟨hcv, hdv⟩ ⟨rfl, rfl, rfl, rfl, trivial⟩ (fun _ h => (h.last rfl).sel [0, 1, 3, 2, 4, 5] rfl (by decide))
        · refine ks_f [999] _ (hSS := fun _ h => h) (h := fx_alloc (next := ?_))
          intro bd
          refine kp_S ?_ (fun _ h => (h.last rfl).sel [3, 4] rfl (by decide))
          refine kg_br1 3 (h1 := ?_)
          refine ks_f [999] _ (hSS := fun _ h => h) (h := fx_call_mk (spec := fun w' hw => copy_spec b sb rb w' (hw.now hb (.tail _ (.head _))) hbb) (next := ?_))
          rintro v n29 es w29 ⟨dv, hdv, rfl, rfl⟩
          have hdv' : SV (cutV rb.length dv) := hdv.cut _
          refine kp_S ?_ (fun _ h => (h.last rfl).sel [4, 5] rfl (by decide))
          refine kg_br1 6 (h1 := ?_)
          refine ks_f [7] _ (hSS := fun _ h => h) (h := fx_store_box (i := 3) (hi := rfl) (next := ?_))
          refine kp_S ?_ (fun _ h => (h.last rfl).sel [4, 5] rfl (by decide))
          refine kg_z (h := fx_store_box (i := 1) (hi := rfl) (next := ?_))
          exact po_cut (bc, bd, cv, dv) ⟨hcv, hdv⟩ ⟨rfl, rfl, rfl, rfl, trivial⟩ (fun _ h => (h.last rfl).sel [1, 0, 3, 2, 4, 5] rfl (by decide))
      · refine ks_f [999] _ (hSS := fun _ h => h) (h := fx_alloc (next := ?_))
        intro bd
        refine kp_S ?_ (fun _ h => (h.last rfl).sel [2, 3] rfl (by decide))
        refine kg_br1 1 (h1 := ?_)
        refine ks_f [999] _ (hSS := fun _ h => h) (h := fx_call_mk (spec := fun w' hw => copy_spec a sa ra w' (hw.now ha (.head _)) hba) (next := ?_))
        rintro v n32 es w32 ⟨cv, hcv, rfl, rfl⟩
        have hcv' : SV (cutV ra.length cv) := hcv.cut _
        refine kp_S ?_ (fun _ h => (h.last rfl).sel [3, 4] rfl (by decide))
        refine kg_br1 3 (h1 := ?_)
        refine ks_f [999] _ (hSS := fun _ h => h) (h := fx_call_mk (spec := fun w' hw => copy_spec b sb rb w' (hw.now hb (.tail _ (.head _))) hbb) (next := ?_))
        rintro v n33 es w33 ⟨dv, hdv, rfl, rfl⟩
        have hdv' : SV (cutV rb.length dv) := hdv.cut _
        refine kp_S ?_ (fun _ h => (h.last rfl).sel [4, 5] rfl (by decide))
        refine kg_br1 6 (h1 := ?_)
        refine ks_f [7] _ (hSS := fun _ h => h) (h := fx_store_box (i := 3) (hi := rfl) (next := ?_))
        refine kp_S ?_ (fun _ h => (h.last rfl).sel [4, 5] rfl (by decide))
        refine kg_z (h := fx_store_box (i := 2) (hi := rfl) (next := ?_))
        exact po_cut (bc, bd, cv, dv) ⟨hcv, hdv⟩ ⟨rfl, rfl, rfl, rfl, trivial⟩ (fun _ h => (h.last rfl).sel [2, 0, 3, 1, 4, 5] rfl (by decide))
    · refine ks_f [999] _ (hSS := fun _ h => h) (h := fx_alloc (next := ?_))
      intro bd
      refine kp_S ?_ (fun _ h => (h.last rfl).sel [1, 2] rfl (by decide))
      refine kg_br2 1 4 (h1 := ?_) (h2 := ?_)
      · refine ks_f [999] _ (hSS := fun _ h => h) (h := fx_call_mk (spec := fun w' hw => copy_spec a sa ra w' (hw.now ha (.head _)) hba) (next := ?_))
        rintro v n36 es w36 ⟨cv, hcv, rfl, rfl⟩
        have hcv' : SV (cutV ra.length cv) := hcv.cut _
        refine kp_S ?_ (fun _ h => (h.last rfl).sel [2, 3] rfl (by decide))
        refine kg_br2 3 4 (h1 := ?_) (h2 := ?_)
        · refine ks_f [999] _ (hSS := fun _ h => h) (h := fx_call_mk (spec := fun w' hw => copy_spec b sb rb w' (hw.now hb (.tail _ (.head _))) hbb) (next := ?_))
          rintro v n37 es w37 ⟨dv, hdv, rfl, rfl⟩
          have hdv' : SV (cutV rb.length dv) := hdv.cut _
          refine kp_S ?_ (fun _ h => (h.last rfl).sel [3, 4] rfl (by decide))
          refine kg_br1 4 (h1 := ?_)
          refine ks_f [999] _ (hSS := fun _ h => h) (h := fx_alloc (next := ?_))
          intro bc
          refine kp_S ?_ (fun _ h => (h.last rfl).sel [4, 5] rfl (by decide))
          refine kg_br1 6 (h1 := ?_)
          refine ks_f [7] _ (hSS := fun _ h => h) (h := fx_store_box (i := 0) (hi := rfl) (next := ?_))
          refine kp_S ?_ (fun _ h => (h.last rfl).sel [4, 5] rfl (by decide))
          refine kg_z (h := fx_store_box (i := 3) (hi := rfl) (next := ?_))
          exact po_cut (bc, bd, cv, dv) ⟨hcv, hdv⟩ ⟨rfl, rfl, rfl, rfl, trivial⟩ (fun _ h => (h.last rfl).sel [3, 1, 0, 2, 4, 5] rfl (by decide))
        · refine ks_f [999] _ (hSS := fun _ h => h) (h := fx_alloc (next := ?_))
          intro bc
          refine kp_S ?_ (fun _ h => (h.last rfl).sel [3, 4] rfl (by decide))
          refine kg_br1 3 (h1 := ?_)
          refine ks_f [999] _ (hSS := fun _ h => h) (h := fx_call_mk (spec := fun w' hw => copy_spec b sb rb w' (hw.now hb (.tail _ (.head _))) hbb) (next := ?_))
          rintro v n41 es w41 ⟨dv, hdv, rfl, rfl⟩
          have hdv' : SV (cutV rb.length dv) := hdv.cut _
          refine kp_S ?_ (fun _ h => (h.last rfl).sel [4, 5] rfl (by decide))
          refine kg_br1 6 (h1 := ?_)
          refine ks_f [7] _ (hSS := fun _ h => h) (h := fx_store_box (i := 1) (hi := rfl) (next := ?_))
          refine kp_S ?_ (fun _ h => (h.last rfl).sel [4, 5] rfl (by decide))
          refine kg_z (h := fx_store_box (i := 3) (hi := rfl) (next := ?_))
          exact po_cut (bc, bd, cv, dv) ⟨hcv, hdv⟩ ⟨rfl, rfl, rfl, rfl, trivial⟩ (fun _ h => (h.last rfl).sel [3, 0, 1, 2, 4, 5] rfl (by decide))
      · refine ks_f [999] _ (hSS := fun _ h => h) (h := fx_alloc (next := ?_))
        intro bc
        refine kp_S ?_ (fun _ h => (h.last rfl).sel [2, 3] rfl (by decide))
        refine kg_br1 1 (h1 := ?_)
        refine ks_f [999] _ (hSS := fun _ h => h) (h := fx_call_mk (spec := fun w' hw => copy_spec a sa ra w' (hw.now ha (.head _)) hba) (next := ?_))
        rintro v n44 es w44 ⟨cv, hcv, rfl, rfl⟩
        have hcv' : SV (cutV ra.length cv) := hcv.cut _
        refine kp_S ?_ (fun _ h => (h.last rfl).sel [3, 4] rfl (by decide))
        refine kg_br1 3 (h1 := ?_)
        refine ks_f [999] _ (hSS := fun _ h => h) (h := fx_call_mk (spec := fun w' hw => copy_spec b sb rb w' (hw.now hb (.tail _ (.head _))) hbb) (next := ?_))
        rintro v n45 es w45 ⟨dv, hdv, rfl, rfl⟩
        have hdv' : SV (cutV rb.length dv) := hdv.cut _
        refine kp_S ?_ (fun _ h => (h.last rfl).sel [4, 5] rfl (by decide))
        refine kg_br1 6 (h1 := ?_)
        refine ks_f [7] _ (hSS := fun _ h => h) (h := fx_store_box (i := 2) (hi := rfl) (next := ?_))
        refine kp_S ?_ (fun _ h => (h.last rfl).sel [4, 5] rfl (by decide))
        refine kg_z (h := fx_store_box (i := 3) (hi := rfl) (next := ?_))
        exact po_cut (bc, bd, cv, dv) ⟨hcv, hdv⟩ ⟨rfl, rfl, rfl, rfl, trivial⟩ (fun _ h => (h.last rfl).sel [3, 0, 2, 1, 4, 5] rfl (by decide))
  rintro ⟨bc, bd, cv, dv⟩ ⟨hcv, hdv⟩
  dsimp only at hcv hdv ⊢
  have hc4 : SV (cutV ra.length cv) := hcv.cut _
  have hd4 : SV (cutV rb.length dv) := hdv.cut _
  repeat (first | (show KP _ (wpList _ _ _ (⟨some _, _, _, _, _, none⟩ :: _)) _ _; refine wl_a (next := ?_)) | (show KP _ (wpList _ _ _ (⟨some _, _, _, _, _, some _⟩ :: _)) _ _; refine wl_ag (next := ?_)) | refine wl_nil ?_ | refine po_then ?_ | refine wc_seq ?_ | refine wc_region ?_ | refine wc_block ?_ | refine po_block ?_ | refine wc_ret ?_ | refine po_then_ret ?_ | refine po_block_ret ?_ | refine wc_exit ?_ | refine po_then_exit ?_ | refine po_block_exit ?_ | refine po_block_pass rfl ?_ | refine wc_skip ?_)
  refine wl_fx (fx_call_mk (spec := fun w' hw => union_all a _ ra b _ rb w' (lendC hw (.tail _ (.tail _ (.tail _ (.head _))))) (lendC hw (.tail _ (.head _)))) (next := ?_))
  rintro v n1 es w1 ⟨o1, ho1, rfl, rfl⟩
  repeat (first | (show KP _ (wpList _ _ _ (⟨some _, _, _, _, _, none⟩ :: _)) _ _; refine wl_a (next := ?_)) | (show KP _ (wpList _ _ _ (⟨some _, _, _, _, _, some _⟩ :: _)) _ _; refine wl_ag (next := ?_)) | refine wl_nil ?_ | refine po_then ?_ | refine wc_seq ?_ | refine wc_region ?_ | refine wc_block ?_ | refine po_block ?_ | refine wc_ret ?_ | refine po_then_ret ?_ | refine po_block_ret ?_ | refine wc_exit ?_ | refine po_then_exit ?_ | refine po_block_exit ?_ | refine po_block_pass rfl ?_ | refine wc_skip ?_)
  refine wl_fx (fx_alloc (next := ?_)); intro b1
  repeat (first | (show KP _ (wpList _ _ _ (⟨some _, _, _, _, _, none⟩ :: _)) _ _; refine wl_a (next := ?_)) | (show KP _ (wpList _ _ _ (⟨some _, _, _, _, _, some _⟩ :: _)) _ _; refine wl_ag (next := ?_)) | refine wl_nil ?_ | refine po_then ?_ | refine wc_seq ?_ | refine wc_region ?_ | refine wc_block ?_ | refine po_block ?_ | refine wc_ret ?_ | refine po_then_ret ?_ | refine po_block_ret ?_ | refine wc_exit ?_ | refine po_then_exit ?_ | refine po_block_exit ?_ | refine po_block_pass rfl ?_ | refine wc_skip ?_)
  refine wl_fx (fx_store_box (i := 0) (hi := rfl) (next := ?_))
  repeat (first | (show KP _ (wpList _ _ _ (⟨some _, _, _, _, _, none⟩ :: _)) _ _; refine wl_a (next := ?_)) | (show KP _ (wpList _ _ _ (⟨some _, _, _, _, _, some _⟩ :: _)) _ _; refine wl_ag (next := ?_)) | refine wl_nil ?_ | refine po_then ?_ | refine wc_seq ?_ | refine wc_region ?_ | refine wc_block ?_ | refine po_block ?_ | refine wc_ret ?_ | refine po_then_ret ?_ | refine po_block_ret ?_ | refine wc_exit ?_ | refine po_then_exit ?_ | refine po_block_exit ?_ | refine po_block_pass rfl ?_ | refine wc_skip ?_)
  refine wl_fx (fx_call_mk (spec := fun w' hw => runion_all a sa ra b sb rb w' (hw.now ha (.tail _ (.head _))) (hw.now hb (.tail _ (.head _)))) (next := ?_))
  rintro v n2 es w2 ⟨o2, ho2, rfl, rfl⟩
  repeat (first | (show KP _ (wpList _ _ _ (⟨some _, _, _, _, _, none⟩ :: _)) _ _; refine wl_a (next := ?_)) | (show KP _ (wpList _ _ _ (⟨some _, _, _, _, _, some _⟩ :: _)) _ _; refine wl_ag (next := ?_)) | refine wl_nil ?_ | refine po_then ?_ | refine wc_seq ?_ | refine wc_region ?_ | refine wc_block ?_ | refine po_block ?_ | refine wc_ret ?_ | refine po_then_ret ?_ | refine po_block_ret ?_ | refine wc_exit ?_ | refine po_then_exit ?_ | refine po_block_exit ?_ | refine po_block_pass rfl ?_ | refine wc_skip ?_)
  refine wl_fx (fx_alloc (next := ?_)); intro b2
  repeat (first | (show KP _ (wpList _ _ _ (⟨some _, _, _, _, _, none⟩ :: _)) _ _; refine wl_a (next := ?_)) | (show KP _ (wpList _ _ _ (⟨some _, _, _, _, _, some _⟩ :: _)) _ _; refine wl_ag (next := ?_)) | refine wl_nil ?_ | refine po_then ?_ | refine wc_seq ?_ | refine wc_region ?_ | refine wc_block ?_ | refine po_block ?_ | refine wc_ret ?_ | refine po_then_ret ?_ | refine po_block_ret ?_ | refine wc_exit ?_ | refine po_then_exit ?_ | refine po_block_exit ?_ | refine po_block_pass rfl ?_ | refine wc_skip ?_)
  refine wl_fx (fx_store_box (i := 0) (hi := rfl) (next := ?_))
  repeat (first | (show KP _ (wpList _ _ _ (⟨some _, _, _, _, _, none⟩ :: _)) _ _; refine wl_a (next := ?_)) | (show KP _ (wpList _ _ _ (⟨some _, _, _, _, _, some _⟩ :: _)) _ _; refine wl_ag (next := ?_)) | refine wl_nil ?_ | refine po_then ?_ | refine wc_seq ?_ | refine wc_region ?_ | refine wc_block ?_ | refine po_block ?_ | refine wc_ret ?_ | refine po_then_ret ?_ | refine po_block_ret ?_ | refine wc_exit ?_ | refine po_then_exit ?_ | refine po_block_exit ?_ | refine po_block_pass rfl ?_ | refine wc_skip ?_)
  refine wl_fx (fx_call_mk (spec := fun w' hw => both_all a _ ra b _ rb w' (lendC hw (.tail _ (.tail _ (.tail _ (.tail _ (.tail _ (.tail _ (.tail _ (.head _))))))))) (lendC hw (.tail _ (.tail _ (.tail _ (.tail _ (.tail _ (.head _)))))))) (next := ?_))
  rintro v n3 es w3 ⟨o3, ho3, rfl, rfl⟩
  repeat (first | (show KP _ (wpList _ _ _ (⟨some _, _, _, _, _, none⟩ :: _)) _ _; refine wl_a (next := ?_)) | (show KP _ (wpList _ _ _ (⟨some _, _, _, _, _, some _⟩ :: _)) _ _; refine wl_ag (next := ?_)) | refine wl_nil ?_ | refine po_then ?_ | refine wc_seq ?_ | refine wc_region ?_ | refine wc_block ?_ | refine po_block ?_ | refine wc_ret ?_ | refine po_then_ret ?_ | refine po_block_ret ?_ | refine wc_exit ?_ | refine po_then_exit ?_ | refine po_block_exit ?_ | refine po_block_pass rfl ?_ | refine wc_skip ?_)
  refine wl_fx (fx_alloc (next := ?_)); intro b3
  repeat (first | (show KP _ (wpList _ _ _ (⟨some _, _, _, _, _, none⟩ :: _)) _ _; refine wl_a (next := ?_)) | (show KP _ (wpList _ _ _ (⟨some _, _, _, _, _, some _⟩ :: _)) _ _; refine wl_ag (next := ?_)) | refine wl_nil ?_ | refine po_then ?_ | refine wc_seq ?_ | refine wc_region ?_ | refine wc_block ?_ | refine po_block ?_ | refine wc_ret ?_ | refine po_then_ret ?_ | refine po_block_ret ?_ | refine wc_exit ?_ | refine po_then_exit ?_ | refine po_block_exit ?_ | refine po_block_pass rfl ?_ | refine wc_skip ?_)
  refine wl_fx (fx_store_box (i := 0) (hi := rfl) (next := ?_))
  repeat (first | (show KP _ (wpList _ _ _ (⟨some _, _, _, _, _, none⟩ :: _)) _ _; refine wl_a (next := ?_)) | (show KP _ (wpList _ _ _ (⟨some _, _, _, _, _, some _⟩ :: _)) _ _; refine wl_ag (next := ?_)) | refine wl_nil ?_ | refine po_then ?_ | refine wc_seq ?_ | refine wc_region ?_ | refine wc_block ?_ | refine po_block ?_ | refine wc_ret ?_ | refine po_then_ret ?_ | refine po_block_ret ?_ | refine wc_exit ?_ | refine po_then_exit ?_ | refine po_block_exit ?_ | refine po_block_pass rfl ?_ | refine wc_skip ?_)
  refine wl_fx (fx_call_mk (spec := fun w' hw => rboth_all a sa ra b sb rb w' (hw.now ha (.tail _ (.tail _ (.tail _ (.head _))))) (hw.now hb (.tail _ (.tail _ (.tail _ (.head _)))))) (next := ?_))
  rintro v n4 es w4 ⟨o4, ho4, rfl, rfl⟩
  repeat (first | (show KP _ (wpList _ _ _ (⟨some _, _, _, _, _, none⟩ :: _)) _ _; refine wl_a (next := ?_)) | (show KP _ (wpList _ _ _ (⟨some _, _, _, _, _, some _⟩ :: _)) _ _; refine wl_ag (next := ?_)) | refine wl_nil ?_ | refine po_then ?_ | refine wc_seq ?_ | refine wc_region ?_ | refine wc_block ?_ | refine po_block ?_ | refine wc_ret ?_ | refine po_then_ret ?_ | refine po_block_ret ?_ | refine wc_exit ?_ | refine po_then_exit ?_ | refine po_block_exit ?_ | refine po_block_pass rfl ?_ | refine wc_skip ?_)
  refine wl_fx (fx_alloc (next := ?_)); intro b4
  repeat (first | (show KP _ (wpList _ _ _ (⟨some _, _, _, _, _, none⟩ :: _)) _ _; refine wl_a (next := ?_)) | (show KP _ (wpList _ _ _ (⟨some _, _, _, _, _, some _⟩ :: _)) _ _; refine wl_ag (next := ?_)) | refine wl_nil ?_ | refine po_then ?_ | refine wc_seq ?_ | refine wc_region ?_ | refine wc_block ?_ | refine po_block ?_ | refine wc_ret ?_ | refine po_then_ret ?_ | refine po_block_ret ?_ | refine wc_exit ?_ | refine po_then_exit ?_ | refine po_block_exit ?_ | refine po_block_pass rfl ?_ | refine wc_skip ?_)
  refine wl_fx (fx_store_box (i := 0) (hi := rfl) (next := ?_))
  repeat (first | (show KP _ (wpList _ _ _ (⟨some _, _, _, _, _, none⟩ :: _)) _ _; refine wl_a (next := ?_)) | (show KP _ (wpList _ _ _ (⟨some _, _, _, _, _, some _⟩ :: _)) _ _; refine wl_ag (next := ?_)) | refine wl_nil ?_ | refine po_then ?_ | refine wc_seq ?_ | refine wc_region ?_ | refine wc_block ?_ | refine po_block ?_ | refine wc_ret ?_ | refine po_then_ret ?_ | refine po_block_ret ?_ | refine wc_exit ?_ | refine po_then_exit ?_ | refine po_block_exit ?_ | refine po_block_pass rfl ?_ | refine wc_skip ?_)
  refine wl_fx (fx_call_mk (spec := fun w' hw => less_all a _ ra b _ rb w' (lendC hw (.tail _ (.tail _ (.tail _ (.tail _ (.tail _ (.tail _ (.tail _ (.tail _ (.tail _ (.tail _ (.tail _ (.head _))))))))))))) (lendC hw (.tail _ (.tail _ (.tail _ (.tail _ (.tail _ (.tail _ (.tail _ (.tail _ (.tail _ (.head _)))))))))))) (next := ?_))
  rintro v n5 es w5 ⟨o5, ho5, rfl, rfl⟩
  repeat (first | (show KP _ (wpList _ _ _ (⟨some _, _, _, _, _, none⟩ :: _)) _ _; refine wl_a (next := ?_)) | (show KP _ (wpList _ _ _ (⟨some _, _, _, _, _, some _⟩ :: _)) _ _; refine wl_ag (next := ?_)) | refine wl_nil ?_ | refine po_then ?_ | refine wc_seq ?_ | refine wc_region ?_ | refine wc_block ?_ | refine po_block ?_ | refine wc_ret ?_ | refine po_then_ret ?_ | refine po_block_ret ?_ | refine wc_exit ?_ | refine po_then_exit ?_ | refine po_block_exit ?_ | refine po_block_pass rfl ?_ | refine wc_skip ?_)
  refine wl_fx (fx_alloc (next := ?_)); intro b5
  repeat (first | (show KP _ (wpList _ _ _ (⟨some _, _, _, _, _, none⟩ :: _)) _ _; refine wl_a (next := ?_)) | (show KP _ (wpList _ _ _ (⟨some _, _, _, _, _, some _⟩ :: _)) _ _; refine wl_ag (next := ?_)) | refine wl_nil ?_ | refine po_then ?_ | refine wc_seq ?_ | refine wc_region ?_ | refine wc_block ?_ | refine po_block ?_ | refine wc_ret ?_ | refine po_then_ret ?_ | refine po_block_ret ?_ | refine wc_exit ?_ | refine po_then_exit ?_ | refine po_block_exit ?_ | refine po_block_pass rfl ?_ | refine wc_skip ?_)
  refine wl_fx (fx_store_box (i := 0) (hi := rfl) (next := ?_))
  repeat (first | (show KP _ (wpList _ _ _ (⟨some _, _, _, _, _, none⟩ :: _)) _ _; refine wl_a (next := ?_)) | (show KP _ (wpList _ _ _ (⟨some _, _, _, _, _, some _⟩ :: _)) _ _; refine wl_ag (next := ?_)) | refine wl_nil ?_ | refine po_then ?_ | refine wc_seq ?_ | refine wc_region ?_ | refine wc_block ?_ | refine po_block ?_ | refine wc_ret ?_ | refine po_then_ret ?_ | refine po_block_ret ?_ | refine wc_exit ?_ | refine po_then_exit ?_ | refine po_block_exit ?_ | refine po_block_pass rfl ?_ | refine wc_skip ?_)
  refine wl_fx (fx_call_mk (spec := fun w' hw => rless_all a sa ra b sb rb w' (hw.now ha (.tail _ (.tail _ (.tail _ (.tail _ (.tail _ (.head _))))))) (hw.now hb (.tail _ (.tail _ (.tail _ (.tail _ (.tail _ (.head _)))))))) (next := ?_))
  rintro v n6 es w6 ⟨o6, ho6, rfl, rfl⟩
  repeat (first | (show KP _ (wpList _ _ _ (⟨some _, _, _, _, _, none⟩ :: _)) _ _; refine wl_a (next := ?_)) | (show KP _ (wpList _ _ _ (⟨some _, _, _, _, _, some _⟩ :: _)) _ _; refine wl_ag (next := ?_)) | refine wl_nil ?_ | refine po_then ?_ | refine wc_seq ?_ | refine wc_region ?_ | refine wc_block ?_ | refine po_block ?_ | refine wc_ret ?_ | refine po_then_ret ?_ | refine po_block_ret ?_ | refine wc_exit ?_ | refine po_then_exit ?_ | refine po_block_exit ?_ | refine po_block_pass rfl ?_ | refine wc_skip ?_)
  refine wl_fx (fx_alloc (next := ?_)); intro b6
  repeat (first | (show KP _ (wpList _ _ _ (⟨some _, _, _, _, _, none⟩ :: _)) _ _; refine wl_a (next := ?_)) | (show KP _ (wpList _ _ _ (⟨some _, _, _, _, _, some _⟩ :: _)) _ _; refine wl_ag (next := ?_)) | refine wl_nil ?_ | refine po_then ?_ | refine wc_seq ?_ | refine wc_region ?_ | refine wc_block ?_ | refine po_block ?_ | refine wc_ret ?_ | refine po_then_ret ?_ | refine po_block_ret ?_ | refine wc_exit ?_ | refine po_then_exit ?_ | refine po_block_exit ?_ | refine po_block_pass rfl ?_ | refine wc_skip ?_)
  refine wl_fx (fx_store_box (i := 0) (hi := rfl) (next := ?_))
  repeat (first | (show KP _ (wpList _ _ _ (⟨some _, _, _, _, _, none⟩ :: _)) _ _; refine wl_a (next := ?_)) | (show KP _ (wpList _ _ _ (⟨some _, _, _, _, _, some _⟩ :: _)) _ _; refine wl_ag (next := ?_)) | refine wl_nil ?_ | refine po_then ?_ | refine wc_seq ?_ | refine wc_region ?_ | refine wc_block ?_ | refine po_block ?_ | refine wc_ret ?_ | refine po_then_ret ?_ | refine po_block_ret ?_ | refine wc_exit ?_ | refine po_then_exit ?_ | refine po_block_exit ?_ | refine po_block_pass rfl ?_ | refine wc_skip ?_)
  refine wl_fx (fx_call_mk (spec := fun w' hw => then_all a _ ra b _ rb w' (lendC hw (.tail _ (.tail _ (.tail _ (.tail _ (.tail _ (.tail _ (.tail _ (.tail _ (.tail _ (.tail _ (.tail _ (.tail _ (.tail _ (.tail _ (.tail _ (.head _))))))))))))))))) (lendC hw (.tail _ (.tail _ (.tail _ (.tail _ (.tail _ (.tail _ (.tail _ (.tail _ (.tail _ (.tail _ (.tail _ (.tail _ (.tail _ (.head _))))))))))))))) (hw.now hT (.tail _ (.tail _ (.tail _ (.tail _ (.tail _ (.tail _ (.head _))))))))) (next := ?_))
  rintro v n7 es w7 ⟨o7, ho7, rfl, rfl⟩
  repeat (first | (show KP _ (wpList _ _ _ (⟨some _, _, _, _, _, none⟩ :: _)) _ _; refine wl_a (next := ?_)) | (show KP _ (wpList _ _ _ (⟨some _, _, _, _, _, some _⟩ :: _)) _ _; refine wl_ag (next := ?_)) | refine wl_nil ?_ | refine po_then ?_ | refine wc_seq ?_ | refine wc_region ?_ | refine wc_block ?_ | refine po_block ?_ | refine wc_ret ?_ | refine po_then_ret ?_ | refine po_block_ret ?_ | refine wc_exit ?_ | refine po_then_exit ?_ | refine po_block_exit ?_ | refine po_block_pass rfl ?_ | refine wc_skip ?_)
  refine wl_fx (fx_alloc (next := ?_)); intro b7
  repeat (first | (show KP _ (wpList _ _ _ (⟨some _, _, _, _, _, none⟩ :: _)) _ _; refine wl_a (next := ?_)) | (show KP _ (wpList _ _ _ (⟨some _, _, _, _, _, some _⟩ :: _)) _ _; refine wl_ag (next := ?_)) | refine wl_nil ?_ | refine po_then ?_ | refine wc_seq ?_ | refine wc_region ?_ | refine wc_block ?_ | refine po_block ?_ | refine wc_ret ?_ | refine po_then_ret ?_ | refine po_block_ret ?_ | refine wc_exit ?_ | refine po_then_exit ?_ | refine po_block_exit ?_ | refine po_block_pass rfl ?_ | refine wc_skip ?_)
  refine wl_fx (fx_store_box (i := 0) (hi := rfl) (next := ?_))
  repeat (first | (show KP _ (wpList _ _ _ (⟨some _, _, _, _, _, none⟩ :: _)) _ _; refine wl_a (next := ?_)) | (show KP _ (wpList _ _ _ (⟨some _, _, _, _, _, some _⟩ :: _)) _ _; refine wl_ag (next := ?_)) | refine wl_nil ?_ | refine po_then ?_ | refine wc_seq ?_ | refine wc_region ?_ | refine wc_block ?_ | refine po_block ?_ | refine wc_ret ?_ | refine po_then_ret ?_ | refine po_block_ret ?_ | refine wc_exit ?_ | refine po_then_exit ?_ | refine po_block_exit ?_ | refine po_block_pass rfl ?_ | refine wc_skip ?_)
  refine wl_fx (fx_call_mk (spec := fun w' hw => rthen_all a sa ra b sb rb w' (hw.now ha (.tail _ (.tail _ (.tail _ (.tail _ (.tail _ (.tail _ (.tail _ (.head _))))))))) (hw.now hb (.tail _ (.tail _ (.tail _ (.tail _ (.tail _ (.tail _ (.tail _ (.head _)))))))))) (next := ?_))
  rintro v n8 es w8 ⟨o8, ho8, rfl, rfl⟩
  repeat (first | (show KP _ (wpList _ _ _ (⟨some _, _, _, _, _, none⟩ :: _)) _ _; refine wl_a (next := ?_)) | (show KP _ (wpList _ _ _ (⟨some _, _, _, _, _, some _⟩ :: _)) _ _; refine wl_ag (next := ?_)) | refine wl_nil ?_ | refine po_then ?_ | refine wc_seq ?_ | refine wc_region ?_ | refine wc_block ?_ | refine po_block ?_ | refine wc_ret ?_ | refine po_then_ret ?_ | refine po_block_ret ?_ | refine wc_exit ?_ | refine po_then_exit ?_ | refine po_block_exit ?_ | refine po_block_pass rfl ?_ | refine wc_skip ?_)
  refine wl_fx (fx_alloc (next := ?_)); intro b8
  repeat (first | (show KP _ (wpList _ _ _ (⟨some _, _, _, _, _, none⟩ :: _)) _ _; refine wl_a (next := ?_)) | (show KP _ (wpList _ _ _ (⟨some _, _, _, _, _, some _⟩ :: _)) _ _; refine wl_ag (next := ?_)) | refine wl_nil ?_ | refine po_then ?_ | refine wc_seq ?_ | refine wc_region ?_ | refine wc_block ?_ | refine po_block ?_ | refine wc_ret ?_ | refine po_then_ret ?_ | refine po_block_ret ?_ | refine wc_exit ?_ | refine po_then_exit ?_ | refine po_block_exit ?_ | refine po_block_pass rfl ?_ | refine wc_skip ?_)
  refine wl_fx (fx_store_box (i := 0) (hi := rfl) (next := ?_))
  repeat (first | (show KP _ (wpList _ _ _ (⟨some _, _, _, _, _, none⟩ :: _)) _ _; refine wl_a (next := ?_)) | (show KP _ (wpList _ _ _ (⟨some _, _, _, _, _, some _⟩ :: _)) _ _; refine wl_ag (next := ?_)) | refine wl_nil ?_ | refine po_then ?_ | refine wc_seq ?_ | refine wc_region ?_ | refine wc_block ?_ | refine po_block ?_ | refine wc_ret ?_ | refine po_then_ret ?_ | refine po_block_ret ?_ | refine wc_exit ?_ | refine po_then_exit ?_ | refine po_block_exit ?_ | refine po_block_pass rfl ?_ | refine wc_skip ?_)
  refine wl_fx (fx_call (spec := fun w' hw => within_spec a _ ra b _ rb w' (lendC hw (.tail _ (.tail _ (.tail _ (.tail _ (.tail _ (.tail _ (.tail _ (.tail _ (.tail _ (.tail _ (.tail _ (.tail _ (.tail _ (.tail _ (.tail _ (.tail _ (.tail _ (.tail _ (.tail _ (.head _))))))))))))))))))))) (lendC hw (.tail _ (.tail _ (.tail _ (.tail _ (.tail _ (.tail _ (.tail _ (.tail _ (.tail _ (.tail _ (.tail _ (.tail _ (.tail _ (.tail _ (.tail _ (.tail _ (.tail _ (.head _)))))))))))))))))))) (next := ?_))
  rintro v n9 w9 rfl hn9
  repeat (first | (show KP _ (wpList _ _ _ (⟨some _, _, _, _, _, none⟩ :: _)) _ _; refine wl_a (next := ?_)) | (show KP _ (wpList _ _ _ (⟨some _, _, _, _, _, some _⟩ :: _)) _ _; refine wl_ag (next := ?_)) | refine wl_nil ?_ | refine po_then ?_ | refine wc_seq ?_ | refine wc_region ?_ | refine wc_block ?_ | refine po_block ?_ | refine wc_ret ?_ | refine po_then_ret ?_ | refine po_block_ret ?_ | refine wc_exit ?_ | refine po_then_exit ?_ | refine po_block_exit ?_ | refine po_block_pass rfl ?_ | refine wc_skip ?_)
  refine wl_fx (fx_call (spec := fun w' hw => rwithin_spec a sa ra b sb rb w' (hw.now ha (.tail _ (.tail _ (.tail _ (.tail _ (.tail _ (.tail _ (.tail _ (.tail _ (.tail _ (.head _))))))))))) (hw.now hb (.tail _ (.tail _ (.tail _ (.tail _ (.tail _ (.tail _ (.tail _ (.tail _ (.tail _ (.head _)))))))))))) (next := ?_))
  rintro v n10 w10 rfl hn10
  repeat (first | (show KP _ (wpList _ _ _ (⟨some _, _, _, _, _, none⟩ :: _)) _ _; refine wl_a (next := ?_)) | (show KP _ (wpList _ _ _ (⟨some _, _, _, _, _, some _⟩ :: _)) _ _; refine wl_ag (next := ?_)) | refine wl_nil ?_ | refine po_then ?_ | refine wc_seq ?_ | refine wc_region ?_ | refine wc_block ?_ | refine po_block ?_ | refine wc_ret ?_ | refine po_then_ret ?_ | refine po_block_ret ?_ | refine wc_exit ?_ | refine po_then_exit ?_ | refine po_block_exit ?_ | refine po_block_pass rfl ?_ | refine wc_skip ?_)
  refine wl_gx (h := gx_call (spec := fun _ w' hw => same_spec _ _ o1 o2 _ _ w' (hw.lend (.tail _ (.tail _ (.tail _ (.tail _ (.tail _ (.tail _ (.tail _ (.tail _ (.tail _ (.tail _ (.tail _ (.tail _ (.tail _ (.tail _ (.tail _ (.head _))))))))))))))))) (hw.lend (.tail _ (.tail _ (.tail _ (.tail _ (.tail _ (.tail _ (.tail _ (.tail _ (.tail _ (.tail _ (.tail _ (.tail _ (.tail _ (.head _))))))))))))))))) (next := ?_)
  repeat (first | (show KP _ (wpList _ _ _ (⟨some _, _, _, _, _, none⟩ :: _)) _ _; refine wl_a (next := ?_)) | (show KP _ (wpList _ _ _ (⟨some _, _, _, _, _, some _⟩ :: _)) _ _; refine wl_ag (next := ?_)) | refine wl_nil ?_ | refine po_then ?_ | refine wc_seq ?_ | refine wc_region ?_ | refine wc_block ?_ | refine po_block ?_ | refine wc_ret ?_ | refine po_then_ret ?_ | refine po_block_ret ?_ | refine wc_exit ?_ | refine po_then_exit ?_ | refine po_block_exit ?_ | refine po_block_pass rfl ?_ | refine wc_skip ?_)
  refine wl_gx (h := gx_call (spec := fun _ w' hw => same_spec _ _ o3 o4 _ _ w' (hw.lend (.tail _ (.tail _ (.tail _ (.tail _ (.tail _ (.tail _ (.tail _ (.tail _ (.tail _ (.tail _ (.tail _ (.head _))))))))))))) (hw.lend (.tail _ (.tail _ (.tail _ (.tail _ (.tail _ (.tail _ (.tail _ (.tail _ (.tail _ (.head _))))))))))))) (next := ?_)
  repeat (first | (show KP _ (wpList _ _ _ (⟨some _, _, _, _, _, none⟩ :: _)) _ _; refine wl_a (next := ?_)) | (show KP _ (wpList _ _ _ (⟨some _, _, _, _, _, some _⟩ :: _)) _ _; refine wl_ag (next := ?_)) | refine wl_nil ?_ | refine po_then ?_ | refine wc_seq ?_ | refine wc_region ?_ | refine wc_block ?_ | refine po_block ?_ | refine wc_ret ?_ | refine po_then_ret ?_ | refine po_block_ret ?_ | refine wc_exit ?_ | refine po_then_exit ?_ | refine po_block_exit ?_ | refine po_block_pass rfl ?_ | refine wc_skip ?_)
  refine wl_gx (h := gx_call (spec := fun _ w' hw => same_spec _ _ o5 o6 _ _ w' (hw.lend (.tail _ (.tail _ (.tail _ (.tail _ (.tail _ (.tail _ (.tail _ (.head _))))))))) (hw.lend (.tail _ (.tail _ (.tail _ (.tail _ (.tail _ (.head _))))))))) (next := ?_)
  repeat (first | (show KP _ (wpList _ _ _ (⟨some _, _, _, _, _, none⟩ :: _)) _ _; refine wl_a (next := ?_)) | (show KP _ (wpList _ _ _ (⟨some _, _, _, _, _, some _⟩ :: _)) _ _; refine wl_ag (next := ?_)) | refine wl_nil ?_ | refine po_then ?_ | refine wc_seq ?_ | refine wc_region ?_ | refine wc_block ?_ | refine po_block ?_ | refine wc_ret ?_ | refine po_then_ret ?_ | refine po_block_ret ?_ | refine wc_exit ?_ | refine po_then_exit ?_ | refine po_block_exit ?_ | refine po_block_pass rfl ?_ | refine wc_skip ?_)
  refine wl_gx (h := gx_call (spec := fun _ w' hw => same_spec _ _ o7 o8 _ _ w' (hw.lend (.tail _ (.tail _ (.tail _ (.head _))))) (hw.lend (.tail _ (.head _))))) (next := ?_)
  repeat (first | (show KP _ (wpList _ _ _ (⟨some _, _, _, _, _, none⟩ :: _)) _ _; refine wl_a (next := ?_)) | (show KP _ (wpList _ _ _ (⟨some _, _, _, _, _, some _⟩ :: _)) _ _; refine wl_ag (next := ?_)) | refine wl_nil ?_ | refine po_then ?_ | refine wc_seq ?_ | refine wc_region ?_ | refine wc_block ?_ | refine po_block ?_ | refine wc_ret ?_ | refine po_then_ret ?_ | refine po_block_ret ?_ | refine wc_exit ?_ | refine po_then_exit ?_ | refine po_block_exit ?_ | refine po_block_pass rfl ?_ | refine wc_skip ?_)
  refine wl_gx (h := gx_call (spec := fun _ w' hw => kept_spec a sa cv ra w' (hw.lend (.tail _ (.tail _ (.tail _ (.tail _ (.tail _ (.tail _ (.tail _ (.tail _ (.tail _ (.tail _ (.tail _ (.tail _ (.tail _ (.tail _ (.tail _ (.tail _ (.tail _ (.tail _ (.tail _ (.head _))))))))))))))))))))) (hw.now ha (.tail _ (.tail _ (.tail _ (.tail _ (.tail _ (.tail _ (.tail _ (.tail _ (.tail _ (.tail _ (.head _)))))))))))))) (next := ?_)
  repeat (first | (show KP _ (wpList _ _ _ (⟨some _, _, _, _, _, none⟩ :: _)) _ _; refine wl_a (next := ?_)) | (show KP _ (wpList _ _ _ (⟨some _, _, _, _, _, some _⟩ :: _)) _ _; refine wl_ag (next := ?_)) | refine wl_nil ?_ | refine po_then ?_ | refine wc_seq ?_ | refine wc_region ?_ | refine wc_block ?_ | refine po_block ?_ | refine wc_ret ?_ | refine po_then_ret ?_ | refine po_block_ret ?_ | refine wc_exit ?_ | refine po_then_exit ?_ | refine po_block_exit ?_ | refine po_block_pass rfl ?_ | refine wc_skip ?_)
  refine wl_gx (h := gx_call (spec := fun _ w' hw => kept_spec b sb dv rb w' (hw.lend (.tail _ (.tail _ (.tail _ (.tail _ (.tail _ (.tail _ (.tail _ (.tail _ (.tail _ (.tail _ (.tail _ (.tail _ (.tail _ (.tail _ (.tail _ (.tail _ (.tail _ (.head _))))))))))))))))))) (hw.now hb (.tail _ (.tail _ (.tail _ (.tail _ (.tail _ (.tail _ (.tail _ (.tail _ (.tail _ (.tail _ (.head _)))))))))))))) (next := ?_)
  repeat (first | (show KP _ (wpList _ _ _ (⟨some _, _, _, _, _, none⟩ :: _)) _ _; refine wl_a (next := ?_)) | (show KP _ (wpList _ _ _ (⟨some _, _, _, _, _, some _⟩ :: _)) _ _; refine wl_ag (next := ?_)) | refine wl_nil ?_ | refine po_then ?_ | refine wc_seq ?_ | refine wc_region ?_ | refine wc_block ?_ | refine po_block ?_ | refine wc_ret ?_ | refine po_then_ret ?_ | refine po_block_ret ?_ | refine wc_exit ?_ | refine po_then_exit ?_ | refine po_block_exit ?_ | refine po_block_pass rfl ?_ | refine wc_skip ?_)
  refine wl_gx (h := gx_call (spec := fun _ w' hw => awake_spec w')) (next := ?_)
  repeat (first | (show KP _ (wpList _ _ _ (⟨some _, _, _, _, _, none⟩ :: _)) _ _; refine wl_a (next := ?_)) | (show KP _ (wpList _ _ _ (⟨some _, _, _, _, _, some _⟩ :: _)) _ _; refine wl_ag (next := ?_)) | refine wl_nil ?_ | refine po_then ?_ | refine wc_seq ?_ | refine wc_region ?_ | refine wc_block ?_ | refine po_block ?_ | refine wc_ret ?_ | refine po_then_ret ?_ | refine po_block_ret ?_ | refine wc_exit ?_ | refine po_then_exit ?_ | refine po_block_exit ?_ | refine po_block_pass rfl ?_ | refine wc_skip ?_)
  refine pur_ret Tryd.results7 (.tmp rfl .nil) (.tail _ (.tail _ (.tail _ (.tail _ (.tail _ (.tail _ (.tail _ (.tail _ (.tail _ (.tail _ (.head _))))))))))) fun w' hw => ?_
  show Value.bool _ = Value.bool true
  simp [dc_eq]
end Go.Proofs.YtpncpbdfomgcgaaDoor
