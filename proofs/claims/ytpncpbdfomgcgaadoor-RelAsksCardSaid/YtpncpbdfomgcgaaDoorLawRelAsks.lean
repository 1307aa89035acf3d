/- THE LAW RelAsks: its row and its tied card. -/
import Derived.Test.YtpncpbdfomgcgaaDoorRows
import Derived.Test.YtpncpbdfomgcgaaDoorCards
import Derived.Test.YtpncpbdfomgcgaaDoorTie
import Derived.Test.YtpncpbdfomgcgaaDoorRelQ
import Derived.Test.YtpncpbdfomgcgaaDoorOpq
import Derived.Test.YtpncpbdfomgcgaaDoorDoor
import Derived.LaidMore
import Derived.Stop.Joined
import Derived.SevenTiedAt
namespace Go.Proofs.YtpncpbdfomgcgaaDoor
open Go Go.Eng Go.Rl Go.Frm
open Go.ChangeShapes Go.WideShapes Go.ChangeAt Go.RowKit Go.Joins

set_option maxRecDepth 100000 in
theorem liftedRelAsks (os : Os) (started : os.Started) (H : Type) (enc : TypeId × Value → H) :
    ReturnsInHanded {} Tryd.checked os 4 .any (fun w args => (Rows.relAsksSpec.pre enc Tryd.prog Tryd.f4 [] false w args ∧ laidMetH Tryd.prog lay1 w) ∧ sizedMet enc Tryd.prog Tryd.f4 (OpenSpec.ofChange Rows.relAsksSpec) false w args)
      (Rows.relAsksSpec.post enc Tryd.prog Tryd.f4 false true false false) := by
  refine returnsInHanded_of_change_and (C := Tryd.checked) (X := fun w _ => laidMetH Tryd.prog lay1 w) (fun _ _ _ hh h => h.of_heap hh) own started (by kernel_rfl) Tryd.func4
    (ChangeSpec.witness_shaped (enc := enc) (C := Tryd.checked) (os := os) (X := fun w _ => laidMetH Tryd.prog lay1 w) false (World.doorLaid Tryd.prog 400 os) #[.agg #[.int .i64 0, .slice none 0 0], .agg #[.int .i64 0, .int .i64 0], .agg #[.int .u64 0, .int .u64 0]] 8 rfl (World.shaped_of_RefB (by kernel_rfl) (by kernel_rfl)) (by kernel_rfl) (by kernel_rfl) (by kernel_rfl) (door_met os _)) ?_
  intro W base args ds gs before hval0 hW _ hsz0 hL _
  have hval : ∀ (j : Nat) t v, Tryd.f4.params[j]? = some t → args[j]? = some v → Value.okWide Tryd.prog W .any base t v := hval0
  have hsz : (DataW.weightsEach Tryd.prog (Tryd.f4.params.toList ++ Rows.relAsksSpec.plain.varTypes Tryd.prog) (ds ++ gs)).all (· ≤ reachBytes) = true := hsz0
  have hW' := hW
  obtain ⟨p, q, hA0, hV, rfl, _, _⟩ := hW
  have hA : DataW.TrodAll enc Tryd.prog W 0 (fun _ => true) true Tryd.f4.params.toList args.toList ds p := hA0
  rw [Tryd.params4] at hA hval hsz
  obtain ⟨v0, v1, v2, d0, d1, d2, p0, p1, p2, rfl, rfl, rfl, g0, g1, g2⟩ := trodAll_three hA
  obtain ⟨rfl, rfl⟩ := trodVars_none hV
  obtain ⟨_, rfl, _, _, rfl, ⟨rN, rfl, l_rN, u_rN⟩, _, _, rfl, ⟨rRows, rRows', rfl, h_rRows, b_rRows, e_rRows⟩, rfl⟩ := arg_struct Tryd.underlying27 (hval 0 27 v0 rfl rfl) g0 (sz_at hsz (j := 0) (t := 27) rfl rfl) (opn_struct Tryd.underlying27 (by kernel_rfl) (.cons (opn_i64 Tryd.underlying3) (.cons (opn_slice (en := encW) (sz := 1) Tryd.underlying25 (by kernel_rfl) (opn_ely (el_u64 Tryd.underlying38))) .nil)))
  obtain ⟨_, rfl, _, _, rfl, ⟨at_A, rfl, l_at_A, u_at_A⟩, _, _, rfl, ⟨at_B, rfl, l_at_B, u_at_B⟩, rfl⟩ := arg_struct Tryd.underlying24 (hval 1 24 v1 rfl rfl) g1 (sz_at hsz (j := 1) (t := 24) rfl rfl) (opn_struct Tryd.underlying24 (by kernel_rfl) (.cons (opn_i64 Tryd.underlying3) (.cons (opn_i64 Tryd.underlying3) .nil)))
  obtain ⟨_, rfl, _, _, rfl, ⟨sets0, rfl⟩, _, _, rfl, ⟨sets1, rfl⟩, rfl⟩ := arg_array Tryd.underlying39 (hval 2 39 v2 rfl rfl) g2 (sz_at hsz (j := 2) (t := 39) rfl rfl) (opn_arr2 Tryd.underlying39 (by kernel_rfl) (by kernel_rfl) (opn_u64 Tryd.underlying38))
  refine Calls.mono (relAsks_spec rN rRows rRows' at_A at_B sets0 sets1 W h_rRows (tab_of hL) b_rRows) fun e W' h => ?_
  unfold PurR at h
  obtain ⟨v, rfl, hbel, rfl⟩ := h
  exact ⟨_, rfl, post_pure laidOut (fun t ht => by
    rw [Tryd.params4] at ht
    simp at ht
    rcases ht with rfl | rfl | rfl <;> exact ⟨by kernel_rfl, of_decide_eq_true (by kernel_rfl)⟩) rfl rfl Tryd.underlying4 hW' rfl rfl rfl hbel⟩

theorem relAsks_holds : Rows.RelAsksSaid :=
  OpenClaim.holds_of_wide 4 Tryd.f4 rfl rfl rfl rfl rfl rfl rfl ⟨rfl, rfl, rfl, rfl, rfl⟩ rfl rfl rfl rfl rfl (by kernel_rfl) Tryd.func4 (by kernel_rfl)
    (of_decide_eq_true (by kernel_rfl)) (by unfold Func.isWrapper; rw [if_neg (of_decide_eq_false (by kernel_rfl))]; exact ⟨rfl, rfl⟩)
    (fun os started H enc _ => liftedRelAsks os started H enc)

theorem relAsksCard_holds : Rows.RelAsksCardSaid :=
  Claim7.holds_tied_plain_at .later [] [.data] true (true, "b79d73ff54fb8fb0df4b295753801d13a56390ad4b3b76b31e32d4077928e13a") false
    relAsks_holds (fun _ h => by cases h) (by kernel_rfl) (fun _ h => by cases h) relAsks_row_tie rfl ⟨rfl, rfl⟩ (by kernel_rfl) rfl
    (fun f fn hf hfn => by
      obtain rfl : f = 4 := Option.some.inj ((show Tryd.prog.funcNamed "alembic/alembiclaw01.RelAsks" = some 4 by kernel_rfl).symm.trans hf) |>.symm
      obtain rfl : fn = Tryd.f4 := (Option.some.inj (Tryd.func4.symm.trans hfn)).symm
      exact ⟨by kernel_rfl, fun j t ht => by
        rw [Tryd.params4] at ht
        have hm := Array.mem_of_getElem? ht
        simp at hm
        rcases hm with rfl | rfl | rfl
        · exact (show Tryd.prog.wantsStandIn 27 = false by kernel_rfl)
        · exact (show Tryd.prog.wantsStandIn 24 = false by kernel_rfl)
        · exact (show Tryd.prog.wantsStandIn 39 = false by kernel_rfl)⟩)
    (by kernel_rfl)
#print axioms relAsksCard_holds
end Go.Proofs.YtpncpbdfomgcgaaDoor
