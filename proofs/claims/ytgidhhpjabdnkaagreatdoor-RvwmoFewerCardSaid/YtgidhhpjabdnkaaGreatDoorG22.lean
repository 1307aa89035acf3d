import Derived.Test.YtgidhhpjabdnkaaGreatDoorG21
import Derived.Test.YtgidhhpjabdnkaaGreatDoorG20
set_option linter.unusedSimpArgs false
set_option linter.unusedVariables false
section
/- The walks: view.Why, alembicref17.Why (printed by gen_why.py). -/
namespace Go.Eng
open Go
theorem sl_nil {τ : Type} {S : Nat → Prop} {enc : τ → List Value} (w : World) (sz : Nat) : Sl S w enc sz (.slice none 0 0) ([] : List τ) :=
  ⟨⟨none, 0, 0, rfl, rfl, Nat.le_refl _, Nat.zero_le _, fun h => absurd h (Nat.lt_irrefl _)⟩, fun i x j u hi => by simp at hi, fun _ _ _ h => by cases h⟩
end Go.Eng
namespace Go.Proofs.YtgidhhpjabdnkaaGreatDoor
open Go Go.Eng Go.Tc Go.Rl Go.Vw
attribute [local irreducible] wpList Code.wp bodyPost Exit.then Exit.inBlock Calls
def whyR (t : Tr) (c : Cd) : Rs := [((t.evs.length : Int), relOf t.evs.length (poP t)), ((t.evs.length : Int), relOf t.evs.length (plP t)), ((t.evs.length : Int), relOf t.evs.length (rfP t c)), ((t.evs.length : Int), relOf t.evs.length (exP t (rfP t c))), ((t.evs.length : Int), relOf t.evs.length (coP t c)), ((t.evs.length : Int), relOf t.evs.length (exP t (coP t c))), ((t.evs.length : Int), relOf t.evs.length (frP t c)), ((t.evs.length : Int), relOf t.evs.length (exP t (frP t c))), ((t.evs.length : Int), relOf t.evs.length (cmP t c)), ((t.evs.length : Int), List.replicate t.evs.length 0#64), ((t.evs.length : Int), List.replicate t.evs.length 0#64)]
def whyE (t : Tr) (c : Cd) : Int := if cdE t c = 0 then if roundE t.evs.length (relOf t.evs.length (hdP t c)) = 0 then arcsE (whyR t c) (roundS t.evs.length (relOf t.evs.length (hdP t c))) else roundE t.evs.length (relOf t.evs.length (hdP t c)) else cdE t c
def whyL (t : Tr) (c : Cd) : List Arc := if cdE t c = 0 ∧ roundE t.evs.length (relOf t.evs.length (hdP t c)) = 0 then arcsL (whyR t c) (roundS t.evs.length (relOf t.evs.length (hdP t c))) else []
theorem roundS_len (n : Nat) (rows : List W) (h : relOk n rows = true) : (roundS n rows).length ≤ 65 := by
  have hn := relOk_le h
  unfold roundS ints
  rw [if_pos h, List.length_map]
  unfold roundL
  cases hf : findR (bt rows) n n with
  | none => simp [hf]
  | some q =>
    obtain ⟨f, l⟩ := q
    obtain ⟨_, _, h3⟩ := findR_some _ _ _ _ _ hf
    have := dl_le (p := bt rows) (m := n) (s := f) n f
    unfold dd at h3
    simp only [Int.toNat_natCast, hf, List.length_cons, pathR_length]
    omega

set_option maxHeartbeats 6400000 in
theorem vwhy_spec {lv iv ev bv av dv cv tv nv : Value} {t : Tr} (fv ov : Value) (c : Cd) (w : World) (h : TrIn All w lv iv ev bv av dv cv tv nv t) (hc : CdIn All w fv ov c) (hT : Tab w) :
    Mk Tryz.prog 62 [.agg #[lv, iv, ev, bv, av, dv, cv, tv, nv], .agg #[fv, ov]] w (ArcsΨ (whyE t c) (whyL t c)) := by
  have hfs := hc.rf.sv
  have hos := hc.cosv
  have hE := h.evs; have hEl := hE.le
  refine enter_mk Tryz.func62 Tryz.ntmps62 rfl rfl ?_
  refine gO_ ?_
  refine wl_fx (fx_box (next := ?_)); intro bT
  refine gO_ ?_
  refine wl_fx (fx_box (next := ?_)); intro bC
  refine gO_ ?_
  refine wl_fx (fx_call_mk (spec := fun w' hw => vof_spec fv ov c w' (h.now hw (.head _)) (hc.now hw (.head _)) (hT.now hw (.head _))) (next := ?_))
  rintro v n1 es w1 ⟨s1, s2, s3, s4, s5, s6, s7, s8, s9, ⟨hs1, hs2, hs3, hs4, hs5, hs6, hs7, hs8, hs9⟩, rfl, rfl⟩
  refine gO_ ?_
  refine wl_fx (fx_alloc (next := ?_)); intro b6
  refine gO_ ?_
  refine wl_fx (fx_store_box (i := 0) (hi := rfl) (next := ?_))
  refine gO_ ?_
  refine wc_cond rfl (fun h1 => ?_) (fun h1 => ?_)
  · rw [Bool.not_eq_true', dc_false] at h1
    refine gO_ ?_
    refine kp_nil 82 3 encArc ?_
    refine mk_ret Tryz.results62 (.tmp rfl (.tmp rfl .nil)) (.tail _ (.head _)) [_] [0] rfl (by decide) fun w' hw => ?_
    unfold whyE whyL
    rw [if_neg h1, if_neg (fun h => h1 h.1)]
    exact ⟨_, sv_nil, rfl, rfl⟩
  · rw [Bool.not_eq_false', dc_true] at h1
    obtain ⟨ht, hcb⟩ := cdE_ok h1
    obtain ⟨hb, hlb⟩ := trOk_lens ht
    have hV := vwOf_ok h1
    rw [hV]
    refine gO_ ?_
    refine wl_fx (fx_call_mk (spec := fun w' hw => vheld_spec t.evs.length s1 s2 s3 s4 s5 s6 s7 s8 s9 (relOf t.evs.length (plP t)) (relOf t.evs.length (cmP t c)) w' hs1 hs2 hs3 hs4 hs5 hs6 hs7 hs8 hs9 (hw.lend (.tail _ (.tail _ (.head _)))) (hw.lend (.tail _ (.tail _ (.tail _ (.tail _ (.tail _ (.tail _ (.tail _ (.tail _ (.tail _ (.head _))))))))))) (relOk_relOf _ _ hb) (relOk_relOf _ _ hb)) (next := ?_))
    rintro v n2 es w2 ⟨s, hs, rfl, rfl⟩
    rw [relOf_uni hb]
    refine gO_ ?_
    refine wl_fx (fx_call_mk (spec := fun w' hw => round_all t.evs.length s (relOf t.evs.length (hdP t c)) w' (hw.lend (.head _))) (next := ?_))
    rintro v n3 es w3 ⟨pv, hpv, rfl, rfl⟩
    have hre : roundE t.evs.length (relOf t.evs.length (hdP t c)) = 0 ∨ roundE t.evs.length (relOf t.evs.length (hdP t c)) = 4 := by
      unfold roundE; rw [if_pos (relOk_relOf _ _ hb)]; split <;> simp
    generalize hE2 : roundE t.evs.length (relOf t.evs.length (hdP t c)) = e at *
    have hln := roundS_len t.evs.length (relOf t.evs.length (hdP t c)) (relOk_relOf _ _ hb)
    generalize hL2 : roundS t.evs.length (relOf t.evs.length (hdP t c)) = l at *
    refine gO_ ?_
    refine wc_cond rfl (fun h2 => ?_) (fun h2 => ?_)
    · rw [Bool.not_eq_true', dc_false] at h2
      refine gO_ ?_
      refine kp_nil 82 3 encArc ?_
      refine mk_ret Tryz.results62 (.tmp rfl (.tmp rfl .nil)) (.tail _ (.tail _ (.tail _ (.head _)))) [_] [0] rfl (by decide) fun w' hw => ?_
      unfold whyE whyL
      rw [if_pos h1, hE2, if_neg h2, if_neg (fun h => h2 h.2)]
      exact ⟨_, sv_nil, rfl, rfl⟩
    · rw [Bool.not_eq_false', dc_true] at h2
      refine gO_ ?_
      refine wl_fx (fx_call_mk (spec := fun w' hw => of_ok hb (.slice none 0 0) [] w' (sl_nil _ _) (fun x hx => by cases hx)) (next := ?_))
      rintro v n4 es w4 ⟨sz, hsz, rfl, rfl⟩
      rw [show relOf t.evs.length (memb []) = List.replicate t.evs.length 0#64 by rw [← relOf_zero]; exact relOf_ext fun a b _ _ => rfl]
      refine gO_ ?_
      refine wl_fx (fx_alloc (next := ?_)); intro b9
      refine gO_ ?_
      refine wl_fx (fx_store_box (i := 0) (hi := rfl) (next := ?_))
      refine gO_ ?_
      refine wl_fx (fx_call_mk (spec := fun w' hw => varcs_spec t.evs.length t.evs.length t.evs.length t.evs.length t.evs.length t.evs.length t.evs.length t.evs.length t.evs.length t.evs.length t.evs.length s1 s2 s3 s4 s5 s6 s7 s8 s9 sz sz (relOf t.evs.length (poP t)) (relOf t.evs.length (plP t)) (relOf t.evs.length (rfP t c)) (relOf t.evs.length (exP t (rfP t c))) (relOf t.evs.length (coP t c)) (relOf t.evs.length (exP t (coP t c))) (relOf t.evs.length (frP t c)) (relOf t.evs.length (exP t (frP t c))) (relOf t.evs.length (cmP t c)) (List.replicate t.evs.length 0#64) (List.replicate t.evs.length 0#64) pv l w' (hw.lend (.tail _ (.tail _ (.head _)))) (by omega) ⟨rfl, hw.lend (.tail _ (.tail _ (.tail _ (.tail _ (.tail _ (.head _)))))), rfl, hw.lend (.tail _ (.tail _ (.tail _ (.tail _ (.tail _ (.tail _ (.head _))))))), rfl, hw.lend (.tail _ (.tail _ (.tail _ (.tail _ (.tail _ (.tail _ (.tail _ (.head _)))))))), rfl, hw.lend (.tail _ (.tail _ (.tail _ (.tail _ (.tail _ (.tail _ (.tail _ (.tail _ (.head _))))))))), rfl, hw.lend (.tail _ (.tail _ (.tail _ (.tail _ (.tail _ (.tail _ (.tail _ (.tail _ (.tail _ (.head _)))))))))), rfl, hw.lend (.tail _ (.tail _ (.tail _ (.tail _ (.tail _ (.tail _ (.tail _ (.tail _ (.tail _ (.tail _ (.head _))))))))))), rfl, hw.lend (.tail _ (.tail _ (.tail _ (.tail _ (.tail _ (.tail _ (.tail _ (.tail _ (.tail _ (.tail _ (.tail _ (.head _)))))))))))), rfl, hw.lend (.tail _ (.tail _ (.tail _ (.tail _ (.tail _ (.tail _ (.tail _ (.tail _ (.tail _ (.tail _ (.tail _ (.tail _ (.head _))))))))))))), rfl, hw.lend (.tail _ (.tail _ (.tail _ (.tail _ (.tail _ (.tail _ (.tail _ (.tail _ (.tail _ (.tail _ (.tail _ (.tail _ (.tail _ (.head _)))))))))))))), rfl, hw.lend (.tail _ (.head _)), rfl, hw.lend (.tail _ (.head _)), trivial⟩) (next := ?_))
      rintro v n5 es w5 ⟨av, hav, rfl, rfl⟩
      refine gO_ ?_
      refine mk_ret Tryz.results62 (.tmp rfl (.tmp rfl .nil)) (.tail _ (.tail _ (.tail _ (.tail _ (.tail _ (.head _)))))) [_] [0] rfl (by decide) fun w' hw => ?_
      unfold whyE whyL
      rw [if_pos h1, hE2, if_pos h2, if_pos ⟨h1, h2⟩, hL2]
      exact ⟨av, hav, rfl, rfl⟩

end Go.Proofs.YtgidhhpjabdnkaaGreatDoor
end

section
/- The walks: SameArcs, Same, awake, refused; the laws ViewOf, ViewWhy (printed by gen_vk.py). -/
namespace Go.Vw
open Go Go.Eng Go.Tc Go.Rl
def smallT : Tr := { locs := [⟨#[120]⟩], init := [0], evs := [⟨0, 0, 2, 0, 1, 0⟩, ⟨0, 1, 1, 0, 0, 0⟩], bars := [], addr := [], data := [], ctrl := [], things := [], ends := [] }
def sc1 : Cd := ⟨[-1, -1], [[0]]⟩
def sc2 : Cd := ⟨[-1, 0], [[0]]⟩
theorem small1 : cdE smallT sc1 = 0 := by
  unfold cdE
  rw [if_pos (show trOk smallT = true by kernel_rfl), if_pos ((candB_iff _ _).2 ⟨rfl, rfl, all_range.1 (by kernel_rfl), all_range.1 (by kernel_rfl)⟩)]
theorem small2 : cdE smallT sc2 = 0 := by
  unfold cdE
  rw [if_pos (show trOk smallT = true by kernel_rfl), if_pos ((candB_iff _ _).2 ⟨rfl, rfl, all_range.1 (by kernel_rfl), all_range.1 (by kernel_rfl)⟩)]
end Go.Vw
namespace Go.Proofs.YtgidhhpjabdnkaaGreatDoor
open Go Go.Eng Go.Tc Go.Rl Go.Vw
attribute [local irreducible] wpList Code.wp bodyPost Exit.then Exit.inBlock Calls
instance : EqS Tryz.prog 82 encArc := ⟨Tryz.eqGuardType82, fun x y w => by
  obtain ⟨a, b, e⟩ := x
  obtain ⟨c, d, f⟩ := y
  simp [encArc, run_equalIn_agg w 9999 82 _ _ (by rw [Program.fieldsOf, Tryz.underlying82]) Tryz.stoodInHeld82, Program.fieldsOf, Tryz.underlying82, Op.eqFields, part, isAgg, run_underlying Tryz.underlying3, run_equalIn_int w 9998 3 .i64 .i64 _ _ Tryz.underlying3]
  by_cases h1 : a = c <;> by_cases h2 : b = d <;> by_cases h3 : e = f <;> simp [h1, h2, h3]⟩

theorem _root_.Go.Eng.relv_eq {R S : List (Int × List (BitVec 64))} (hl : R.length = S.length) (h : ∀ i, i < R.length → (R.getD i default).1 = (S.getD i default).1 ∧ (R.getD i default).2 = (S.getD i default).2) : R = S :=
  getD_eq_of hl fun i hi => Prod.ext (h i hi).1 (h i hi).2

end Go.Proofs.YtgidhhpjabdnkaaGreatDoor
end
