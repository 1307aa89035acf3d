/- THE LAW RelOwn: its row and its tied card. -/
import Derived.Test.YtpncpbdfomgcgaaDoorRows
import Derived.Test.YtpncpbdfomgcgaaDoorCards
import Derived.Test.YtpncpbdfomgcgaaDoorTie
import Derived.Test.YtpncpbdfomgcgaaDoorRok
import Derived.Test.YtpncpbdfomgcgaaDoorOpq
import Derived.Test.YtpncpbdfomgcgaaDoorDoor
import Derived.LaidMore
import Derived.Stop.Joined
import Derived.SevenTiedAt
namespace Go.Proofs.YtpncpbdfomgcgaaDoor
open Go Go.Eng Go.Rl Go.Frm
open Go.ChangeShapes Go.WideShapes Go.ChangeAt Go.RowKit Go.Joins

set_option maxRecDepth 100000 in
theorem liftedRelOwn (os : Os) (started : os.Started) (H : Type) (enc : TypeId × Value → H) :
    ReturnsInHanded {} Tryd.checked os 8 .any (fun w args => (Rows.relOwnSpec.pre enc Tryd.prog Tryd.f8 [] false w args ∧ laidMetH Tryd.prog lay1 w) ∧ sizedMet enc Tryd.prog Tryd.f8 (OpenSpec.ofChange Rows.relOwnSpec) false w args)
      (Rows.relOwnSpec.post enc Tryd.prog Tryd.f8 false true false false) := by
  refine returnsInHanded_of_change_and (C := Tryd.checked) (X := fun w _ => laidMetH Tryd.prog lay1 w) (fun _ _ _ hh h => h.of_heap hh) own started (by kernel_rfl) Tryd.func8
    (ChangeSpec.witness_shaped (enc := enc) (C := Tryd.checked) (os := os) (X := fun w _ => laidMetH Tryd.prog lay1 w) false (World.doorLaid Tryd.prog 400 os) #[.agg #[.int .i64 0, .slice none 0 0], .agg #[.int .i64 0, .slice none 0 0]] 8 rfl (World.shaped_of_RefB (by kernel_rfl) (by kernel_rfl)) (by kernel_rfl) (by kernel_rfl) (by kernel_rfl) (door_met os _)) ?_
  intro W base args ds gs before hval0 hW _ hsz0 hL _
  have hval : ∀ (j : Nat) t v, Tryd.f8.params[j]? = some t → args[j]? = some v → Value.okWide Tryd.prog W .any base t v := hval0
  have hsz : (DataW.weightsEach Tryd.prog (Tryd.f8.params.toList ++ Rows.relOwnSpec.plain.varTypes Tryd.prog) (ds ++ gs)).all (· ≤ reachBytes) = true := hsz0
  have hW' := hW
  obtain ⟨p, q, hA0, hV, rfl, _, _⟩ := hW
  have hA : DataW.TrodAll enc Tryd.prog W 0 (fun _ => true) true Tryd.f8.params.toList args.toList ds p := hA0
  rw [Tryd.params8] at hA hval hsz
  obtain ⟨v0, v1, d0, d1, p0, p1, rfl, rfl, rfl, g0, g1⟩ := trodAll_two hA
  obtain ⟨rfl, rfl⟩ := trodVars_none hV
  obtain ⟨_, rfl, _, _, rfl, ⟨aN, rfl, l_aN, u_aN⟩, _, _, rfl, ⟨aRows, aRows', rfl, h_aRows, b_aRows, e_aRows⟩, rfl⟩ := arg_struct Tryd.underlying27 (hval 0 27 v0 rfl rfl) g0 (sz_at hsz (j := 0) (t := 27) rfl rfl) (opn_struct Tryd.underlying27 (by kernel_rfl) (.cons (opn_i64 Tryd.underlying3) (.cons (opn_slice (en := encW) (sz := 1) Tryd.underlying25 (by kernel_rfl) (opn_ely (el_u64 Tryd.underlying38))) .nil)))
  obtain ⟨_, rfl, _, _, rfl, ⟨bN, rfl, l_bN, u_bN⟩, _, _, rfl, ⟨bRows, bRows', rfl, h_bRows, b_bRows, e_bRows⟩, rfl⟩ := arg_struct Tryd.underlying27 (hval 1 27 v1 rfl rfl) g1 (sz_at hsz (j := 1) (t := 27) rfl rfl) (opn_struct Tryd.underlying27 (by kernel_rfl) (.cons (opn_i64 Tryd.underlying3) (.cons (opn_slice (en := encW) (sz := 1) Tryd.underlying25 (by kernel_rfl) (opn_ely (el_u64 Tryd.underlying38))) .nil)))
  refine Calls.mono (relOwn_spec aN aRows aRows' bN bRows bRows' W h_aRows h_bRows (tab_of hL) b_aRows b_bRows) fun e W' h => ?_
  unfold PurR at h
  obtain ⟨v, rfl, hbel, rfl⟩ := h
  exact ⟨_, rfl, post_pure laidOut (fun t ht => by
    rw [Tryd.params8] at ht
    simp at ht
    rcases ht with rfl | rfl <;> exact ⟨by kernel_rfl, of_decide_eq_true (by kernel_rfl)⟩) rfl rfl Tryd.underlying4 hW' rfl rfl rfl hbel⟩

theorem relOwn_holds : Rows.RelOwnSaid :=
  OpenClaim.holds_of_wide 8 Tryd.f8 rfl rfl rfl rfl rfl rfl rfl ⟨rfl, rfl, rfl, rfl, rfl⟩ rfl rfl rfl rfl rfl (by kernel_rfl) Tryd.func8 (by kernel_rfl)
    (of_decide_eq_true (by kernel_rfl)) (by unfold Func.isWrapper; rw [if_neg (of_decide_eq_false (by kernel_rfl))]; exact ⟨rfl, rfl⟩)
    (fun os started H enc _ => liftedRelOwn os started H enc)

theorem relOwnCard_holds : Rows.RelOwnCardSaid :=
  Claim7.holds_tied_plain_at .later [] [.data] true (true, "b79d73ff54fb8fb0df4b295753801d13a56390ad4b3b76b31e32d4077928e13a") false
    relOwn_holds (fun _ h => by cases h) (by kernel_rfl) (fun _ h => by cases h) relOwn_row_tie rfl ⟨rfl, rfl⟩ (by kernel_rfl) rfl
    (fun f fn hf hfn => by
      obtain rfl : f = 8 := Option.some.inj ((show Tryd.prog.funcNamed "alembic/alembiclaw01.RelOwn" = some 8 by kernel_rfl).symm.trans hf) |>.symm
      obtain rfl : fn = Tryd.f8 := (Option.some.inj (Tryd.func8.symm.trans hfn)).symm
      exact ⟨by kernel_rfl, fun j t ht => by
        rw [Tryd.params8] at ht
        have hm := Array.mem_of_getElem? ht
        simp at hm
        subst hm
        exact (show Tryd.prog.wantsStandIn 27 = false by kernel_rfl)⟩)
    (by kernel_rfl)
#print axioms relOwnCard_holds
end Go.Proofs.YtpncpbdfomgcgaaDoor
