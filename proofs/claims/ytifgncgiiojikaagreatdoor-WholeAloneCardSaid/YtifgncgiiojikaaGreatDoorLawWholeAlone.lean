/- THE LAW WholeAlone: its row and its tied card. -/
import Derived.Test.YtifgncgiiojikaaGreatDoorRows
import Derived.Test.YtifgncgiiojikaaGreatDoorCards
import Derived.Test.YtifgncgiiojikaaGreatDoorTie
import Derived.Test.YtifgncgiiojikaaGreatDoorG25
import Derived.Test.YtifgncgiiojikaaGreatDoorWaB
import Derived.Test.YtifgncgiiojikaaGreatDoorG24
import Derived.LaidMore
import Derived.Stop.Joined
import Derived.SevenTiedAt
set_option linter.unusedSimpArgs false
set_option linter.unusedVariables false
namespace Go.Proofs.YtifgncgiiojikaaGreatDoor
open Go Go.Eng Go.Rl Go.Frm
open Go.ChangeShapes Go.WideShapes Go.ChangeAt Go.RowKit Go.Joins

set_option maxRecDepth 100000 in
theorem liftedWholeAlone (os : Os) (started : os.Started) (H : Type) (enc : TypeId × Value → H) :
    ReturnsInHanded {} Tryz.checked os 3 .any (fun w args => (Rows.wholeAloneSpec.pre enc Tryz.prog Tryz.f3 [] false w args ∧ laidMetH Tryz.prog lay1 w) ∧ sizedMet enc Tryz.prog Tryz.f3 (OpenSpec.ofChange Rows.wholeAloneSpec) false w args)
      (Rows.wholeAloneSpec.post enc Tryz.prog Tryz.f3 false true false false) := by
  refine returnsInHanded_of_change_and (C := Tryz.checked) (X := fun w _ => laidMetH Tryz.prog lay1 w) (fun _ _ _ hh h => h.of_heap hh) own started (by kernel_rfl) Tryz.func3
    (ChangeSpec.witness_shaped (enc := enc) (C := Tryz.checked) (os := os) (X := fun w _ => laidMetH Tryz.prog lay1 w) false (World.doorLaid Tryz.prog 400 os) #[.agg #[.slice none 0 0, .slice none 0 0, .slice none 0 0, .slice none 0 0, .slice none 0 0, .slice none 0 0, .slice none 0 0, .slice none 0 0, .slice none 0 0], .agg #[.slice none 0 0, .slice none 0 0]] 8 rfl (World.shaped_of_RefB (by kernel_rfl) (by kernel_rfl)) (by kernel_rfl) (by kernel_rfl) (by kernel_rfl) (door_met os _)) ?_
  intro W base args ds gs before hval0 hW _ hsz0 hL _
  have hval : ∀ (j : Nat) t v, Tryz.f3.params[j]? = some t → args[j]? = some v → Value.okWide Tryz.prog W .any base t v := hval0
  have hsz : (DataW.weightsEach Tryz.prog (Tryz.f3.params.toList ++ Rows.wholeAloneSpec.plain.varTypes Tryz.prog) (ds ++ gs)).all (· ≤ reachBytes) = true := hsz0
  have hW' := hW
  obtain ⟨p, q, hA0, hV, rfl, _, _⟩ := hW
  have hA : DataW.TrodAll enc Tryz.prog W 0 (fun _ => true) true Tryz.f3.params.toList args.toList ds p := hA0
  rw [Tryz.params3] at hA hval hsz
  obtain ⟨v0, v1, d0, d1, p0, p1, rfl, rfl, rfl, g0, g1⟩ := trodAll_two hA
  obtain ⟨rfl, rfl⟩ := trodVars_none hV
  obtain ⟨_, rfl, lv_t, iv_t, ev_t, bv_t, av_t, dv_t, cv_t, tv_t, nv_t, T_t, rfl, h_t, b_t⟩ := arg_struct Tryz.underlying30 (hval 0 30 v0 rfl rfl) g0 (sz_at hsz (j := 0) (t := 30) rfl rfl) (opn_trace)
  obtain ⟨_, rfl, fv_c, ov_c, C_c, rfl, h_c, b_c, d_c⟩ := arg_struct Tryz.underlying33 (hval 1 33 v1 rfl rfl) g1 (sz_at hsz (j := 1) (t := 33) rfl rfl) (opn_cand)
  refine Calls.mono (wholeAlone_spec fv_c ov_c C_c W h_t h_c b_t (tab_of hL)) fun e W' h => ?_
  unfold PurR at h
  obtain ⟨v, rfl, hbel, rfl⟩ := h
  exact ⟨_, rfl, post_pure laidOut (fun t ht => by
    rw [Tryz.params3] at ht
    simp at ht
    rcases ht with rfl | rfl <;> exact ⟨by kernel_rfl, of_decide_eq_true (by kernel_rfl)⟩) rfl rfl Tryz.underlying4 hW' rfl rfl rfl hbel⟩

theorem wholeAlone_holds : Rows.WholeAloneSaid :=
  OpenClaim.holds_of_wide 3 Tryz.f3 rfl rfl rfl rfl rfl rfl rfl ⟨rfl, rfl, rfl, rfl, rfl⟩ rfl rfl rfl rfl rfl (by kernel_rfl) Tryz.func3 (by kernel_rfl)
    (of_decide_eq_true (by kernel_rfl)) (by unfold Func.isWrapper; rw [if_neg (of_decide_eq_false (by kernel_rfl))]; exact ⟨rfl, rfl⟩)
    (fun os started H enc _ => liftedWholeAlone os started H enc)

set_option maxHeartbeats 16000000 in
theorem wholeAloneCard_holds : Rows.WholeAloneCardSaid :=
  Claim7.holds_tied_plain_at .later [] [.data] true (true, "70cd8b9919c0e16c83a6039e06235796ad5adef5609339f47f06868e26cae6e9") false
    wholeAlone_holds (fun _ h => by cases h) (by kernel_rfl) (fun _ h => by cases h) wholeAlone_row_tie rfl ⟨rfl, rfl⟩ (by kernel_rfl) rfl
    (fun f fn hf hfn => by
      obtain rfl : f = 3 := Option.some.inj ((show Tryz.prog.funcNamed "alembic/alembictop.WholeAlone" = some 3 by kernel_rfl).symm.trans hf) |>.symm
      obtain rfl : fn = Tryz.f3 := (Option.some.inj (Tryz.func3.symm.trans hfn)).symm
      exact ⟨by kernel_rfl, fun j t ht => by
        rw [Tryz.params3] at ht
        have hm := Array.mem_of_getElem? ht
        simp at hm
        rcases hm with rfl | rfl
        · exact (show Tryz.prog.wantsStandIn 30 = false by kernel_rfl)
        · exact (show Tryz.prog.wantsStandIn 33 = false by kernel_rfl)⟩)
    (by kernel_rfl)
#print axioms wholeAloneCard_holds
end Go.Proofs.YtifgncgiiojikaaGreatDoor
