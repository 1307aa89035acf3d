/- THE LAW SeqcWeaves: its row and its tied card. -/
import Derived.Test.YtnplmhfjoemgdaaGreatDoorRows
import Derived.Test.YtnplmhfjoemgdaaGreatDoorCards
import Derived.Test.YtnplmhfjoemgdaaGreatDoorTie
import Derived.Test.YtnplmhfjoemgdaaGreatDoorG25
import Derived.Test.YtnplmhfjoemgdaaGreatDoorScJ
import Derived.Test.YtnplmhfjoemgdaaGreatDoorG24
import Derived.LaidMore
import Derived.Stop.Joined
import Derived.SevenTiedAt
set_option linter.unusedSimpArgs false
set_option linter.unusedVariables false
namespace Go.Proofs.YtnplmhfjoemgdaaGreatDoor
open Go Go.Eng Go.Rl Go.Frm
open Go.ChangeShapes Go.WideShapes Go.ChangeAt Go.RowKit Go.Joins

set_option maxRecDepth 100000 in
theorem liftedSeqcWeaves (os : Os) (started : os.Started) (H : Type) (enc : TypeId × Value → H) :
    ReturnsInHanded {} Tryz.checked os 8 .any (fun w args => (Rows.seqcWeavesSpec.pre enc Tryz.prog Tryz.f8 [] false w args ∧ laidMetH Tryz.prog lay1 w) ∧ sizedMet enc Tryz.prog Tryz.f8 (OpenSpec.ofChange Rows.seqcWeavesSpec) false w args)
      (Rows.seqcWeavesSpec.post enc Tryz.prog Tryz.f8 false true false false) := by
  refine returnsInHanded_of_change_and (C := Tryz.checked) (X := fun w _ => laidMetH Tryz.prog lay1 w) (fun _ _ _ hh h => h.of_heap hh) own started (by kernel_rfl) Tryz.func8
    (ChangeSpec.witness_shaped (enc := enc) (C := Tryz.checked) (os := os) (X := fun w _ => laidMetH Tryz.prog lay1 w) false (World.doorLaid Tryz.prog 400 os) #[.agg #[.slice none 0 0, .slice none 0 0, .slice none 0 0, .slice none 0 0, .slice none 0 0, .slice none 0 0, .slice none 0 0, .slice none 0 0, .slice none 0 0], .slice none 0 0] 8 rfl (World.shaped_of_RefB (by kernel_rfl) (by kernel_rfl)) (by kernel_rfl) (by kernel_rfl) (by kernel_rfl) (door_met os _)) ?_
  intro W base args ds gs before hval0 hW _ hsz0 hL _
  have hval : ∀ (j : Nat) t v, Tryz.f8.params[j]? = some t → args[j]? = some v → Value.okWide Tryz.prog W .any base t v := hval0
  have hsz : (DataW.weightsEach Tryz.prog (Tryz.f8.params.toList ++ Rows.seqcWeavesSpec.plain.varTypes Tryz.prog) (ds ++ gs)).all (· ≤ reachBytes) = true := hsz0
  have hW' := hW
  obtain ⟨p, q, hA0, hV, rfl, _, _⟩ := hW
  have hA : DataW.TrodAll enc Tryz.prog W 0 (fun _ => true) true Tryz.f8.params.toList args.toList ds p := hA0
  rw [Tryz.params8] at hA hval hsz
  obtain ⟨v0, v1, d0, d1, p0, p1, rfl, rfl, rfl, g0, g1⟩ := trodAll_two hA
  obtain ⟨rfl, rfl⟩ := trodVars_none hV
  obtain ⟨_, rfl, lv_t, iv_t, ev_t, bv_t, av_t, dv_t, cv_t, tv_t, nv_t, T_t, rfl, h_t, b_t⟩ := arg_struct Tryz.underlying30 (hval 0 30 v0 rfl rfl) g0 (sz_at hsz (j := 0) (t := 30) rfl rfl) (opn_trace)
  have x1 := arg_one (cells_slice Tryz.underlying23 (hval 1 23 v1 rfl rfl)) g1 (sz_at hsz (j := 1) (t := 23) rfl rfl) (opn_slice (en := Eng.encI) (sz := 1) Tryz.underlying23 (by kernel_rfl) (opn_ely (el_i64 Tryz.underlying3)))
  obtain ⟨picks, picks', y1, h_picks, b_picks, e_picks⟩ := x1
  obtain rfl : v1 = picks := by simpa using y1
  refine Calls.mono (seqcWeaves_spec v1 picks' W h_t h_picks (tab_of hL)) fun e W' h => ?_
  unfold PurR at h
  obtain ⟨v, rfl, hbel, rfl⟩ := h
  exact ⟨_, rfl, post_pure laidOut (fun t ht => by
    rw [Tryz.params8] at ht
    simp at ht
    rcases ht with rfl | rfl <;> exact ⟨by kernel_rfl, of_decide_eq_true (by kernel_rfl)⟩) rfl rfl Tryz.underlying4 hW' rfl rfl rfl hbel⟩

theorem seqcWeaves_holds : Rows.SeqcWeavesSaid :=
  OpenClaim.holds_of_wide 8 Tryz.f8 rfl rfl rfl rfl rfl rfl rfl ⟨rfl, rfl, rfl, rfl, rfl⟩ rfl rfl rfl rfl rfl (by kernel_rfl) Tryz.func8 (by kernel_rfl)
    (of_decide_eq_true (by kernel_rfl)) (by unfold Func.isWrapper; rw [if_neg (of_decide_eq_false (by kernel_rfl))]; exact ⟨rfl, rfl⟩)
    (fun os started H enc _ => liftedSeqcWeaves os started H enc)

set_option maxHeartbeats 16000000 in
theorem seqcWeavesCard_holds : Rows.SeqcWeavesCardSaid :=
  Claim7.holds_tied_plain_at .later [] [.data] true (true, "7f030369f1d87d30ad73a3ecda773d5b76f8967368ae064da7f26ab878b15e63") false
    seqcWeaves_holds (fun _ h => by cases h) (by kernel_rfl) (fun _ h => by cases h) seqcWeaves_row_tie rfl ⟨rfl, rfl⟩ (by kernel_rfl) rfl
    (fun f fn hf hfn => by
      obtain rfl : f = 8 := Option.some.inj ((show Tryz.prog.funcNamed "alembic/alembiclaw18.SeqcWeaves" = some 8 by kernel_rfl).symm.trans hf) |>.symm
      obtain rfl : fn = Tryz.f8 := (Option.some.inj (Tryz.func8.symm.trans hfn)).symm
      exact ⟨by kernel_rfl, fun j t ht => by
        rw [Tryz.params8] at ht
        have hm := Array.mem_of_getElem? ht
        simp at hm
        rcases hm with rfl | rfl
        · exact (show Tryz.prog.wantsStandIn 30 = false by kernel_rfl)
        · exact (show Tryz.prog.wantsStandIn 23 = false by kernel_rfl)⟩)
    (by kernel_rfl)
#print axioms seqcWeavesCard_holds
end Go.Proofs.YtnplmhfjoemgdaaGreatDoor
