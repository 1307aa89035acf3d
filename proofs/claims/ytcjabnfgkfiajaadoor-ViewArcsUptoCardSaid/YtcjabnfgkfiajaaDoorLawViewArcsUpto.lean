/- THE LAW ViewArcs, for inputs of bulk at most 1048576: its row and its tied card. -/
import Derived.Test.YtcjabnfgkfiajaaDoorRows
import Derived.Test.YtcjabnfgkfiajaaDoorCards
import Derived.Test.YtcjabnfgkfiajaaDoorTie
import Derived.Test.YtcjabnfgkfiajaaDoorG25
import Derived.Test.YtcjabnfgkfiajaaDoorVwY
import Derived.Test.YtcjabnfgkfiajaaDoorOpu
import Derived.Test.YtcjabnfgkfiajaaDoorUpt
import Derived.Test.YtcjabnfgkfiajaaDoorG24
import Derived.LaidMore
import Derived.Stop.Joined
import Derived.SevenTiedAt
set_option linter.unusedSimpArgs false
set_option linter.unusedVariables false
namespace Go.Proofs.YtcjabnfgkfiajaaDoor
open Go Go.Eng Go.Rl Go.Frm
open Go.ChangeShapes Go.WideShapes Go.ChangeAt Go.RowKit Go.Joins

theorem bulk_pos {H : Type} (d : DataW H) : 1 ≤ Rows.uptoBulk d := by
  cases d with
  | lit x => cases x <;> simp [Rows.uptoBulk]
  | _ => simp [Rows.uptoBulk]
theorem bulk_all {H : Type} (l : List (DataW H)) : l.length ≤ Rows.uptoBulkAll l := by
  induction l with
  | nil => simp
  | cons d r ih => simp only [Rows.uptoBulkAll, List.length_cons]; have := bulk_pos d; omega

set_option maxRecDepth 100000 in
theorem liftedViewArcs (os : Os) (started : os.Started) (H : Type) (enc : TypeId × Value → H) (F : Stop.Interp) :
    ReturnsInHanded {} Tryd.checked os 3 .any (fun w args => ((Rows.OpenSpec.upto Rows.viewArcsSpec).pre enc Tryd.prog Tryd.f3 [] false w args ∧ laidMetH Tryd.prog lay1 w) ∧ sizedMet enc Tryd.prog Tryd.f3 (Rows.OpenSpec.upto Rows.viewArcsSpec) false w args)
      (((Rows.OpenSpec.upto Rows.viewArcsSpec).at F).post enc Tryd.prog Tryd.f3 false true false false) := by
  refine returnsInHanded_of_cond_and (s := Rows.OpenSpec.upto Rows.viewArcsSpec) (hk := rfl) (C := Tryd.checked) (X := fun w _ => laidMetH Tryd.prog lay1 w) (fun _ _ _ hh h => h.of_heap hh) own started (by kernel_rfl) Tryd.func3
    (witness_cond (s := Rows.OpenSpec.upto Rows.viewArcsSpec) (hk := rfl) (enc := enc) (C := Tryd.checked) (os := os) (X := fun w _ => laidMetH Tryd.prog lay1 w) false (World.doorLaid Tryd.prog 400 os) #[.agg #[.int .i64 0, .slice none 0 0, .int .i64 0, .slice none 0 0, .int .i64 0, .slice none 0 0, .int .i64 0, .slice none 0 0, .int .i64 0, .slice none 0 0, .int .i64 0, .slice none 0 0, .int .i64 0, .slice none 0 0, .int .i64 0, .slice none 0 0, .int .i64 0, .slice none 0 0, .int .i64 0, .slice none 0 0, .int .i64 0, .slice none 0 0], .slice none 0 0] 8 rfl (World.shaped_of_RefB (by kernel_rfl) (by kernel_rfl)) (by kernel_rfl) (by kernel_rfl) (by kernel_rfl) (door_met os _)) ?_
  intro W base args ds gs before hval0 hW _ hkk hsz0 hL _
  have hval : ∀ (j : Nat) t v, Tryd.f3.params[j]? = some t → args[j]? = some v → Value.okWide Tryd.prog W .any base t v := hval0
  have hsz : (DataW.weightsEach Tryd.prog (Tryd.f3.params.toList ++ (Rows.OpenSpec.upto Rows.viewArcsSpec).bare.plain.varTypes Tryd.prog) (ds ++ gs)).all (· ≤ reachBytes) = true := hsz0
  have hW' := hW
  obtain ⟨p, q, hA0, hV, rfl, _, _⟩ := hW
  have hA : DataW.TrodAll enc Tryd.prog W 0 (fun _ => true) true Tryd.f3.params.toList args.toList ds p := hA0
  rw [Tryd.params3] at hA hval hsz
  obtain ⟨v0, v1, d0, d1, p0, p1, rfl, rfl, rfl, g0, g1⟩ := trodAll_two hA
  obtain ⟨rfl, rfl⟩ := trodVars_none hV
  obtain ⟨_, rfl, n1, n2, n3, n4, n5, n6, n7, n8, n9, n10, n11, s1, s2, s3, s4, s5, s6, s7, s8, s9, s10, s11, r1, r2, r3, r4, r5, r6, r7, r8, r9, r10, r11, rfl, h_x⟩ := arg_struct Tryd.underlying28 (hval 0 _ v0 rfl rfl) g0 (sz_at hsz (j := 0) (t := 28) rfl rfl) (opn_rels)
  obtain ⟨fuel, hf⟩ := g1
  rw [cells_slice Tryd.underlying29 (hval 1 _ v1 rfl rfl)] at hf
  obtain ⟨lv, l, hv1, h_l, hb⟩ := sl_open Tryd.underlying29 (sz := 1) (by kernel_rfl) (el_i64 Tryd.underlying3) hf
  obtain rfl : v1 = lv := by simpa using hv1
  have hlen : l.length ≤ 1048576 := by
    have h2 : Rows.uptoBulkAll [d0, d1] ≤ 1048576 := of_decide_eq_true hkk
    simp only [Rows.uptoBulkAll] at h2
    rcases hb with ⟨_, rfl⟩ | ⟨el, sp, rfl, he⟩
    · simp
    · have h3 : Rows.uptoBulk (DataW.slice el sp) = Rows.uptoBulkAll el + Rows.uptoBulkAll sp + 1 := by simp only [Rows.uptoBulk]
      have h4 := bulk_all el
      rw [h3] at h2
      omega
  refine Calls.mono (viewArcs_spec n1 n2 n3 n4 n5 n6 n7 n8 n9 n10 n11 s1 s2 s3 s4 s5 s6 s7 s8 s9 s10 s11 r1 r2 r3 r4 r5 r6 r7 r8 r9 r10 r11 v1 l W h_l (by omega) h_x (tab_of hL)) fun e W' h => ?_
  unfold PurR at h
  obtain ⟨v, rfl, hbel, rfl⟩ := h
  exact ⟨_, rfl, post_pure laidOut (fun t ht => by
    rw [Tryd.params3] at ht
    simp at ht
    rcases ht with rfl | rfl <;> exact ⟨by kernel_rfl, of_decide_eq_true (by kernel_rfl)⟩) rfl rfl Tryd.underlying4 hW' rfl rfl rfl hbel⟩

theorem viewArcsUpto_holds : Rows.ViewArcsUptoSaid :=
  OpenClaim.holds_of_cond 3 Tryd.f3 rfl rfl rfl rfl rfl rfl rfl ⟨rfl, rfl, rfl, rfl, rfl⟩ rfl rfl rfl rfl rfl (by kernel_rfl) Tryd.func3 (by kernel_rfl)
    (of_decide_eq_true (by kernel_rfl)) (by unfold Func.isWrapper; rw [if_neg (of_decide_eq_false (by kernel_rfl))]; exact ⟨rfl, rfl⟩)
    (fun os started H enc _ F => liftedViewArcs os started H enc F)

set_option maxRecDepth 100000 in
set_option maxHeartbeats 16000000 in
theorem viewArcsUptoCard_holds : Rows.ViewArcsUptoCardSaid :=
  Claim7.holds_tied_plain_at .later [] [.data] true (true, "c9c6aef4b1afda55ac18e329126d050d998e452ad8d6b440402eadd5d7ad5e64") false
    viewArcsUpto_holds (fun _ h => by cases h) (by kernel_rfl) (fun _ h => by cases h) viewArcs_row_tie rfl ⟨rfl, rfl⟩ (by kernel_rfl) rfl
    (fun f fn hf hfn => by
      obtain rfl : f = 3 := Option.some.inj ((show Tryd.prog.funcNamed "alembic/alembiclaw17.ViewArcs" = some 3 by kernel_rfl).symm.trans hf) |>.symm
      obtain rfl : fn = Tryd.f3 := (Option.some.inj (Tryd.func3.symm.trans hfn)).symm
      exact ⟨by kernel_rfl, fun j t ht => by
        rw [Tryd.params3] at ht
        have hm := Array.mem_of_getElem? ht
        simp at hm
        rcases hm with rfl | rfl
        · exact (show Tryd.prog.wantsStandIn 28 = false by kernel_rfl)
        · exact (show Tryd.prog.wantsStandIn 29 = false by kernel_rfl)⟩)
    (by kernel_rfl)
#print axioms viewArcsUptoCard_holds
end Go.Proofs.YtcjabnfgkfiajaaDoor
