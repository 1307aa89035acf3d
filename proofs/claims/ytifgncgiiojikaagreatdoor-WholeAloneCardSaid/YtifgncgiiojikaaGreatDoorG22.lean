import Derived.Test.YtifgncgiiojikaaGreatDoorG21
import Derived.Test.YtifgncgiiojikaaGreatDoorG20
set_option linter.unusedSimpArgs false
set_option linter.unusedVariables false
section
/- The walks: view.Why, alembicref17.Why (printed by gen_why.py). -/
namespace Go.Eng
open Go
theorem sl_nil {τ : Type} {S : Nat → Prop} {enc : τ → List Value} (w : World) (sz : Nat) : Sl S w enc sz (.slice none 0 0) ([] : List τ) :=
  ⟨⟨none, 0, 0, rfl, rfl, Nat.le_refl _, Nat.zero_le _, fun h => absurd h (Nat.lt_irrefl _)⟩, fun i x j u hi => by simp at hi, fun _ _ _ h => by cases h⟩
end Go.Eng
namespace Go.Proofs.YtifgncgiiojikaaGreatDoor
open Go Go.Eng Go.Tc Go.Rl Go.Vw
attribute [local irreducible] wpList Code.wp bodyPost Exit.then Exit.inBlock Calls
def whyR (t : Tr) (c : Cd) : Rs := [((t.evs.length : Int), relOf t.evs.length (poP t)), ((t.evs.length : Int), relOf t.evs.length (plP t)), ((t.evs.length : Int), relOf t.evs.length (rfP t c)), ((t.evs.length : Int), relOf t.evs.length (exP t (rfP t c))), ((t.evs.length : Int), relOf t.evs.length (coP t c)), ((t.evs.length : Int), relOf t.evs.length (exP t (coP t c))), ((t.evs.length : Int), relOf t.evs.length (frP t c)), ((t.evs.length : Int), relOf t.evs.length (exP t (frP t c))), ((t.evs.length : Int), relOf t.evs.length (cmP t c)), ((t.evs.length : Int), List.replicate t.evs.length 0#64), ((t.evs.length : Int), List.replicate t.evs.length 0#64)]
def whyE (t : Tr) (c : Cd) : Int := if cdE t c = 0 then if roundE t.evs.length (relOf t.evs.length (hdP t c)) = 0 then arcsE (whyR t c) (roundS t.evs.length (relOf t.evs.length (hdP t c))) else roundE t.evs.length (relOf t.evs.length (hdP t c)) else cdE t c
def whyL (t : Tr) (c : Cd) : List Arc := if cdE t c = 0 ∧ roundE t.evs.length (relOf t.evs.length (hdP t c)) = 0 then arcsL (whyR t c) (roundS t.evs.length (relOf t.evs.length (hdP t c))) else []
theorem roundS_len (n : Nat) (rows : List W) (h : relOk n rows = true) : (roundS n rows).length ≤ 65 := by
  have hn := relOk_le h
  unfold roundS ints
  rw [if_pos h, List.length_map]
  unfold roundL
  cases hf : findR (bt rows) n n with
  | none => simp [hf]
  | some q =>
    obtain ⟨f, l⟩ := q
    obtain ⟨_, _, h3⟩ := findR_some _ _ _ _ _ hf
    have := dl_le (p := bt rows) (m := n) (s := f) n f
    unfold dd at h3
    simp only [Int.toNat_natCast, hf, List.length_cons, pathR_length]
    omega

end Go.Proofs.YtifgncgiiojikaaGreatDoor
end

section
/- The walks: SameArcs, Same, awake, refused; the laws ViewOf, ViewWhy (printed by gen_vk.py). -/
namespace Go.Vw
open Go Go.Eng Go.Tc Go.Rl
def smallT : Tr := { locs := [⟨#[120]⟩], init := [0], evs := [⟨0, 0, 2, 0, 1, 0⟩, ⟨0, 1, 1, 0, 0, 0⟩], bars := [], addr := [], data := [], ctrl := [], things := [], ends := [] }
def sc1 : Cd := ⟨[-1, -1], [[0]]⟩
def sc2 : Cd := ⟨[-1, 0], [[0]]⟩
theorem small1 : cdE smallT sc1 = 0 := by
  unfold cdE
  rw [if_pos (show trOk smallT = true by kernel_rfl), if_pos ((candB_iff _ _).2 ⟨rfl, rfl, all_range.1 (by kernel_rfl), all_range.1 (by kernel_rfl)⟩)]
theorem small2 : cdE smallT sc2 = 0 := by
  unfold cdE
  rw [if_pos (show trOk smallT = true by kernel_rfl), if_pos ((candB_iff _ _).2 ⟨rfl, rfl, all_range.1 (by kernel_rfl), all_range.1 (by kernel_rfl)⟩)]
end Go.Vw
namespace Go.Proofs.YtifgncgiiojikaaGreatDoor
open Go Go.Eng Go.Tc Go.Rl Go.Vw
attribute [local irreducible] wpList Code.wp bodyPost Exit.then Exit.inBlock Calls
theorem _root_.Go.Eng.relv_eq {R S : List (Int × List (BitVec 64))} (hl : R.length = S.length) (h : ∀ i, i < R.length → (R.getD i default).1 = (S.getD i default).1 ∧ (R.getD i default).2 = (S.getD i default).2) : R = S :=
  getD_eq_of hl fun i hi => Prod.ext (h i hi).1 (h i hi).2

end Go.Proofs.YtifgncgiiojikaaGreatDoor
end
