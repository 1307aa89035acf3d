/- A trace, a candidate among a law's arguments. -/
import Derived.Test.YtdpcdbepeemflaaG09
import Derived.Test.YtdpcdbepeemflaaG24
set_option linter.unusedSimpArgs false
set_option linter.unusedVariables false
namespace Go.Tc
open Go Go.Eng
/-- what a trace's slices weigh -/
structure TrBig (t : Tr) : Prop where
  locs : t.locs.length * 16 ≤ 140737488351232
  init : t.init.length * 8 ≤ 140737488351232
  evs : t.evs.length * 48 ≤ 140737488351232
  bars : t.bars.length * 24 ≤ 140737488351232
  addr : t.addr.length * 16 ≤ 140737488351232
  data : t.data.length * 16 ≤ 140737488351232
  ctrl : t.ctrl.length * 16 ≤ 140737488351232
  things : t.things.length * 32 ≤ 140737488351232
  ends : t.ends.length * 16 ≤ 140737488351232
theorem cd_of {w : World} {fv ov : Value} {rf : List Int} {ovs : List Value} {b : Nat} (hb : b = 8) {Ψ : Int → Prop} (h1 : Sl All w encI 1 fv rf) (h2 : Sl All w encV 1 ov ovs) (h3 : ∀ x, x ∈ ovs → ∃ xs, Sl All w encI 1 x xs ∧ xs.length * b ≤ 140737488351232 ∧ ∀ y, y ∈ xs → Ψ y) : ∃ c, CdIn All w fv ov c ∧ c.rf = rf ∧ ovs.length = c.co.length := by
  subst hb
  have h4 : ∃ xss : List (List Int), ovs.length = xss.length ∧ ∀ i, i < xss.length → Sl All w encI 1 (ovs.getD i default) (xss.getD i default) ∧ (xss.getD i default).length * 8 ≤ 140737488351232 := by
    clear h2
    induction ovs with
    | nil => exact ⟨[], rfl, fun i hi => absurd hi (Nat.not_lt_zero _)⟩
    | cons v ovs ih =>
      obtain ⟨xss, hl, hall⟩ := ih fun x hx => h3 x (.tail _ hx)
      obtain ⟨xs, g1, g2, _⟩ := h3 v (.head _)
      refine ⟨xs :: xss, by simp [hl], fun i hi => ?_⟩
      cases i with
      | zero => exact ⟨g1, g2⟩
      | succ i => exact hall i (by simpa using hi)
  obtain ⟨xss, hl, hall⟩ := h4
  exact ⟨⟨rf, xss⟩, ⟨h1, ⟨ovs, h2, hl, fun i hi => (hall i hi).1⟩, fun i hi => (hall i hi).2⟩, rfl, hl⟩
end Go.Tc
namespace Go.Proofs.Ytdpcdbepeemflaa
open Go Go.Eng Go.Tc Go.Frm
open Go.ChangeShapes Go.WideShapes Go.ChangeAt Go.RowKit
section
variable {H : Type} {enc : TypeId × Value → H} {W : World}
theorem ely_int : Ely enc Try.prog W 3 Eng.encI fun _ => True := opn_ely (el_i64 Try.underlying3)
theorem ely_str : Ely enc Try.prog W 9 encT fun _ => True := (opn_string Try.underlying9).mono fun cs ⟨s, h, _⟩ => ⟨s, h, trivial⟩
theorem ely_ev : Ely enc Try.prog W 45 encEv fun _ => True :=
  (opn_struct Try.underlying45 (by kernel_rfl) (.cons (opn_i64 Try.underlying3) (.cons (opn_i64 Try.underlying3) (.cons (opn_i64 Try.underlying3) (.cons (opn_i64 Try.underlying3) (.cons (opn_i64 Try.underlying3) (.cons (opn_i64 Try.underlying3) .nil))))))).mono (by
    rintro cs ⟨_, _, rfl, ⟨a, rfl, -⟩, _, _, rfl, ⟨b, rfl, -⟩, _, _, rfl, ⟨c, rfl, -⟩, _, _, rfl, ⟨d, rfl, -⟩, _, _, rfl, ⟨e, rfl, -⟩, _, _, rfl, ⟨f, rfl, -⟩, rfl⟩
    exact ⟨⟨a, b, c, d, e, f⟩, rfl, trivial⟩)
theorem ely_bar : Ely enc Try.prog W 98 encBar fun _ => True :=
  (opn_struct Try.underlying98 (by kernel_rfl) (.cons (opn_i64 Try.underlying3) (.cons (opn_i64 Try.underlying3) (.cons (opn_i64 Try.underlying3) .nil)))).mono (by
    rintro cs ⟨_, _, rfl, ⟨a, rfl, -⟩, _, _, rfl, ⟨b, rfl, -⟩, _, _, rfl, ⟨c, rfl, -⟩, rfl⟩
    exact ⟨⟨a, b, c⟩, rfl, trivial⟩)
theorem ely_pair : Ely enc Try.prog W 100 encPair fun _ => True :=
  (opn_struct Try.underlying100 (by kernel_rfl) (.cons (opn_i64 Try.underlying3) (.cons (opn_i64 Try.underlying3) .nil))).mono (by
    rintro cs ⟨_, _, rfl, ⟨a, rfl, -⟩, _, _, rfl, ⟨b, rfl, -⟩, rfl⟩
    exact ⟨⟨a, b⟩, rfl, trivial⟩)
theorem ely_thing : Ely enc Try.prog W 83 encThing fun _ => True :=
  (opn_struct Try.underlying83 (by kernel_rfl) (.cons (opn_i64 Try.underlying3) (.cons (opn_i64 Try.underlying3) (.cons (opn_string Try.underlying9) .nil)))).mono (by
    rintro cs ⟨_, _, rfl, ⟨a, rfl, -⟩, _, _, rfl, ⟨b, rfl, -⟩, _, _, rfl, ⟨c, rfl, -⟩, rfl⟩
    exact ⟨⟨a, b, c⟩, rfl, trivial⟩)
theorem ely_end : Ely enc Try.prog W 52 encEnd fun _ => True :=
  (opn_struct Try.underlying52 (by kernel_rfl) (.cons (opn_i64 Try.underlying3) (.cons (opn_i64 Try.underlying3) .nil))).mono (by
    rintro cs ⟨_, _, rfl, ⟨a, rfl, -⟩, _, _, rfl, ⟨b, rfl, -⟩, rfl⟩
    exact ⟨⟨a, b⟩, rfl, trivial⟩)
theorem ely_ints : Ely enc Try.prog W 23 encV fun v => ∃ xs, Sl All W Eng.encI 1 v xs ∧ xs.length * Try.prog.bytesOf 3 ≤ 140737488351232 ∧ ∀ y, y ∈ xs → True :=
  (opn_slice (en := Eng.encI) (sz := 1) Try.underlying23 (by kernel_rfl) ely_int).mono (by
    rintro cs ⟨v, xs, rfl, h1, h2, h3⟩
    exact ⟨v, rfl, xs, h1, h2, h3⟩)
theorem opn_trace : Opn enc Try.prog W 30 fun cs => ∃ lv iv ev bv av dv cv tv nv t, cs = [lv, iv, ev, bv, av, dv, cv, tv, nv] ∧ TrIn All W lv iv ev bv av dv cv tv nv t ∧ TrBig t :=
  (opn_struct Try.underlying30 (by kernel_rfl) (.cons (opn_slice (en := encT) (sz := 1) Try.underlying22 (by kernel_rfl) ely_str) (.cons (opn_slice (en := Eng.encI) (sz := 1) Try.underlying23 (by kernel_rfl) ely_int)
    (.cons (opn_slice (en := encEv) (sz := 6) Try.underlying24 (by kernel_rfl) ely_ev) (.cons (opn_slice (en := encBar) (sz := 3) Try.underlying25 (by kernel_rfl) ely_bar)
    (.cons (opn_slice (en := encPair) (sz := 2) Try.underlying26 (by kernel_rfl) ely_pair) (.cons (opn_slice (en := encPair) (sz := 2) Try.underlying26 (by kernel_rfl) ely_pair) (.cons (opn_slice (en := encPair) (sz := 2) Try.underlying26 (by kernel_rfl) ely_pair)
    (.cons (opn_slice (en := encThing) (sz := 3) Try.underlying27 (by kernel_rfl) ely_thing) (.cons (opn_slice (en := encEnd) (sz := 2) Try.underlying28 (by kernel_rfl) ely_end) .nil)))))))))).mono (by
    rintro cs ⟨_, _, rfl, ⟨lv, l, rfl, h1, b1, -⟩, _, _, rfl, ⟨iv, i, rfl, h2, b2, -⟩, _, _, rfl, ⟨ev, e, rfl, h3, b3, -⟩, _, _, rfl, ⟨bv, b, rfl, h4, b4, -⟩, _, _, rfl, ⟨av, a, rfl, h5, b5, -⟩, _, _, rfl, ⟨dv, d, rfl, h6, b6, -⟩, _, _, rfl, ⟨cv, c, rfl, h7, b7, -⟩, _, _, rfl, ⟨tv, th, rfl, h8, b8, -⟩, _, _, rfl, ⟨nv, n, rfl, h9, b9, -⟩, rfl⟩
    rw [show Try.prog.bytesOf 9 = 16 by kernel_rfl] at b1
    rw [show Try.prog.bytesOf 3 = 8 by kernel_rfl] at b2
    rw [show Try.prog.bytesOf 45 = 48 by kernel_rfl] at b3
    rw [show Try.prog.bytesOf 98 = 24 by kernel_rfl] at b4
    rw [show Try.prog.bytesOf 100 = 16 by kernel_rfl] at b5 b6 b7
    rw [show Try.prog.bytesOf 83 = 32 by kernel_rfl] at b8
    rw [show Try.prog.bytesOf 52 = 16 by kernel_rfl] at b9
    exact ⟨lv, iv, ev, bv, av, dv, cv, tv, nv, ⟨l, i, e, b, a, d, c, th, n⟩, rfl, ⟨h1, h2, h3, h4, h5, h6, h7, h8, h9⟩, ⟨b1, b2, b3, b4, b5, b6, b7, b8, b9⟩⟩)
theorem opn_cand : Opn enc Try.prog W 33 fun cs => ∃ fv ov c, cs = [fv, ov] ∧ CdIn All W fv ov c ∧ c.rf.length * 8 ≤ 140737488351232 ∧ c.co.length * 24 ≤ 140737488351232 :=
  (opn_struct Try.underlying33 (by kernel_rfl) (.cons (opn_slice (en := Eng.encI) (sz := 1) Try.underlying23 (by kernel_rfl) ely_int) (.cons (opn_slice (en := encV) (sz := 1) Try.underlying31 (by kernel_rfl) ely_ints) .nil))).mono (by
    rintro cs ⟨_, _, rfl, ⟨fv, f, rfl, h1, b1, -⟩, _, _, rfl, ⟨ov, o, rfl, h2, b2, e2⟩, rfl⟩
    rw [show Try.prog.bytesOf 3 = 8 by kernel_rfl] at b1
    rw [show Try.prog.bytesOf 23 = 24 by kernel_rfl] at b2
    obtain ⟨c, hc, e3, e4⟩ := cd_of (show Try.prog.bytesOf 3 = 8 by kernel_rfl) h1 h2 e2
    exact ⟨fv, ov, c, rfl, hc, by rw [e3]; exact b1, by rw [← e4]; exact b2⟩)
end
end Go.Proofs.Ytdpcdbepeemflaa
