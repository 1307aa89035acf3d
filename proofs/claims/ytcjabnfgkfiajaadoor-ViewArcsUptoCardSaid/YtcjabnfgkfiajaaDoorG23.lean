import Derived.Test.YtcjabnfgkfiajaaDoorG22
set_option linter.unusedSimpArgs false
set_option linter.unusedVariables false
section
/- The walks: awake, refused; the laws ViewOf, ViewWhy. -/
namespace Go.Proofs.YtcjabnfgkfiajaaDoor
open Go Go.Eng Go.Tc Go.Rl Go.Vw
attribute [local irreducible] wpList Code.wp bodyPost Exit.then Exit.inBlock Calls
theorem small_whyE : whyE smallT sc1 = 0 := by
  unfold whyE
  rw [if_pos small1]; kernel_rfl
theorem small_whyL : whyL smallT sc1 = [⟨0, 1, 1⟩, ⟨1, 0, 4⟩] := by
  unfold whyL
  rw [if_pos ⟨small1, by kernel_rfl⟩]; kernel_rfl
theorem small_coh : cohB smallT sc2 = true := by
  unfold cohB
  rw [if_pos small2]; kernel_rfl

set_option maxHeartbeats 6400000 in
theorem vawake_spec (w : World) (hT : Tab w) : Pur Tryd.prog 9 [] w fun _ v _ => v = .bool true := by
  refine enter_pur Tryd.func9 Tryd.ntmps9 rfl rfl ?_
  refine gO_ ?_
  refine wl_fx (fx_call (spec := fun w' hw => small_spec w') (next := ?_))
  rintro v n1 w1 ⟨lv, iv, ev, bv, av, dv, cv, tv, nv, rfl, hT1⟩ hn1
  refine gO_ ?_
  refine wl_fx (fx_lit (next := ?_))
  intro v7 hv7
  refine gO_ ?_
  refine wl_fx (fx_lit (next := ?_))
  intro v8 hv8
  refine gO_ ?_
  refine wl_fx (fx_lit (next := ?_))
  intro v9 hv9
  refine gO_ ?_
  refine wl_fx (fx_call_mk (spec := fun w' hw => vwhy_spec v7 v9 sc1 w' (hT1.now hw (.head _)) ⟨hw.lend (.tail _ (.tail _ (.head _))), ⟨[v8], hw.lend (.head _), rfl, fun i hi => (by obtain rfl : i = 0 := Nat.lt_one_iff.1 hi; exact hw.lend (.tail _ (.head _)))⟩, fun i hi => (by obtain rfl : i = 0 := Nat.lt_one_iff.1 hi; decide)⟩ (hT.now hw (.tail _ (.head _)))) (next := ?_))
  rintro v n2 es w2 ⟨a1, ha1, rfl, rfl⟩
  rw [small_whyE, small_whyL]
  generalize hxs : ([⟨0, 1, 1⟩, ⟨1, 0, 4⟩] : List Arc) = xs at *
  have hxl : xs.length = 2 := by rw [← hxs]; rfl
  have hx0 : xs.getD 0 default = ⟨0, 1, 1⟩ := by rw [← hxs]; rfl
  have hx1 : xs.getD 1 default = ⟨1, 0, 4⟩ := by rw [← hxs]; rfl
  refine gO_ ?_
  refine wl_fx (fx_call (spec := fun w' hw => small_spec w') (next := ?_))
  rintro v n3 w3 ⟨lv2, iv2, ev2, bv2, av2, dv2, cv2, tv2, nv2, rfl, hT2⟩ hn3
  refine gO_ ?_
  refine wl_fx (fx_lit (next := ?_))
  intro v16 hv16
  refine gO_ ?_
  refine wl_fx (fx_lit (next := ?_))
  intro v17 hv17
  refine gO_ ?_
  refine wl_fx (fx_lit (next := ?_))
  intro v18 hv18
  refine gO_ ?_
  refine wl_fx (fx_call (spec := fun w' hw => vcoh_spec v16 v18 sc2 w' (hT2.now hw (.head _)) ⟨hw.lend (.tail _ (.tail _ (.head _))), ⟨[v17], hw.lend (.head _), rfl, fun i hi => (by obtain rfl : i = 0 := Nat.lt_one_iff.1 hi; exact hw.lend (.tail _ (.head _)))⟩, fun i hi => (by obtain rfl : i = 0 := Nat.lt_one_iff.1 hi; decide)⟩ (hT.now hw (.tail _ (.tail _ (.tail _ (.head _)))))) (next := ?_))
  rintro v n4 w4 rfl hn4
  rw [small_coh, small2]
  refine gO_ ?_
  refine wl_ag (v := .bool (dc (xs.getD 0 default = ⟨0, 1, 1⟩))) (h := ?_) (next := ?_)
  · exact qy_eqS (p := xs.getD 0 default) (q := ⟨0, 1, 1⟩)
  refine gO_ ?_
  refine wl_ag (v := .bool (dc (xs.getD 1 default = ⟨1, 0, 4⟩))) (h := ?_) (next := ?_)
  · exact qy_eqS (p := xs.getD 1 default) (q := ⟨1, 0, 4⟩)
  refine gO_ ?_
  refine pur_ret Tryd.results9 (.tmp rfl .nil) (.tail _ (.tail _ (.tail _ (.tail _ (.head _))))) fun w' hw => ?_
  simp only [dc_eq, hxl, hx0, hx1]
  rfl
end Go.Proofs.YtcjabnfgkfiajaaDoor
end

section
/- The laws ViewOf, ViewWhy, walked. -/
namespace Go.Tc
open Go Go.Eng
theorem cd_of {w : World} {fv ov : Value} {rf : List Int} {ovs : List Value} {b : Nat} (hb : b = 8) {Ψ : Int → Prop} (h1 : Sl All w encI 1 fv rf) (h2 : Sl All w encV 1 ov ovs) (h3 : ∀ x, x ∈ ovs → ∃ xs, Sl All w encI 1 x xs ∧ xs.length * b ≤ 140737488351232 ∧ ∀ y, y ∈ xs → Ψ y) : ∃ c, CdIn All w fv ov c ∧ c.rf = rf ∧ ovs.length = c.co.length := by
  subst hb
  have h4 : ∃ xss : List (List Int), ovs.length = xss.length ∧ ∀ i, i < xss.length → Sl All w encI 1 (ovs.getD i default) (xss.getD i default) ∧ (xss.getD i default).length * 8 ≤ 140737488351232 := by
    clear h2
    induction ovs with
    | nil => exact ⟨[], rfl, fun i hi => absurd hi (Nat.not_lt_zero _)⟩
    | cons v ovs ih =>
      obtain ⟨xss, hl, hall⟩ := ih fun x hx => h3 x (.tail _ hx)
      obtain ⟨xs, g1, g2, _⟩ := h3 v (.head _)
      refine ⟨xs :: xss, by simp [hl], fun i hi => ?_⟩
      cases i with
      | zero => exact ⟨g1, g2⟩
      | succ i => exact hall i (by simpa using hi)
  obtain ⟨xss, hl, hall⟩ := h4
  exact ⟨⟨rf, xss⟩, ⟨h1, ⟨ovs, h2, hl, fun i hi => (hall i hi).1⟩, fun i hi => (hall i hi).2⟩, rfl, hl⟩
end Go.Tc
namespace Go.Proofs.YtcjabnfgkfiajaaDoor
open Go Go.Eng Go.Tc Go.Rl Go.Vw
attribute [local irreducible] wpList Code.wp bodyPost Exit.then Exit.inBlock Calls

end Go.Proofs.YtcjabnfgkfiajaaDoor
end
