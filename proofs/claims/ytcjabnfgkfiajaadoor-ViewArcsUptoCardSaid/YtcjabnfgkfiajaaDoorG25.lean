import Derived.Test.YtcjabnfgkfiajaaDoorG23
import Derived.Test.YtcjabnfgkfiajaaDoorG24
set_option linter.unusedSimpArgs false
set_option linter.unusedVariables false
section
/- A trace, a candidate among a law's arguments. -/
namespace Go.Tc
open Go Go.Eng
/-- what a trace's slices weigh -/
structure TrBig (t : Tr) : Prop where
  locs : t.locs.length * 16 ≤ 140737488351232
  init : t.init.length * 8 ≤ 140737488351232
  evs : t.evs.length * 48 ≤ 140737488351232
  bars : t.bars.length * 24 ≤ 140737488351232
  addr : t.addr.length * 16 ≤ 140737488351232
  data : t.data.length * 16 ≤ 140737488351232
  ctrl : t.ctrl.length * 16 ≤ 140737488351232
  things : t.things.length * 32 ≤ 140737488351232
  ends : t.ends.length * 16 ≤ 140737488351232
end Go.Tc
namespace Go.Proofs.YtcjabnfgkfiajaaDoor
open Go Go.Eng Go.Tc Go.Frm
open Go.ChangeShapes Go.WideShapes Go.ChangeAt Go.RowKit
section
variable {H : Type} {enc : TypeId × Value → H} {W : World}
theorem ely_int : Ely enc Tryd.prog W 3 Eng.encI fun _ => True := opn_ely (el_i64 Tryd.underlying3)
theorem ely_str : Ely enc Tryd.prog W 9 encT fun _ => True := (opn_string Tryd.underlying9).mono fun cs ⟨s, h, _⟩ => ⟨s, h, trivial⟩
theorem ely_ev : Ely enc Tryd.prog W 53 encEv fun _ => True :=
  (opn_struct Tryd.underlying53 (by kernel_rfl) (.cons (opn_i64 Tryd.underlying3) (.cons (opn_i64 Tryd.underlying3) (.cons (opn_i64 Tryd.underlying3) (.cons (opn_i64 Tryd.underlying3) (.cons (opn_i64 Tryd.underlying3) (.cons (opn_i64 Tryd.underlying3) .nil))))))).mono (by
    rintro cs ⟨_, _, rfl, ⟨a, rfl, -⟩, _, _, rfl, ⟨b, rfl, -⟩, _, _, rfl, ⟨c, rfl, -⟩, _, _, rfl, ⟨d, rfl, -⟩, _, _, rfl, ⟨e, rfl, -⟩, _, _, rfl, ⟨f, rfl, -⟩, rfl⟩
    exact ⟨⟨a, b, c, d, e, f⟩, rfl, trivial⟩)
theorem ely_bar : Ely enc Tryd.prog W 128 encBar fun _ => True :=
  (opn_struct Tryd.underlying128 (by kernel_rfl) (.cons (opn_i64 Tryd.underlying3) (.cons (opn_i64 Tryd.underlying3) (.cons (opn_i64 Tryd.underlying3) .nil)))).mono (by
    rintro cs ⟨_, _, rfl, ⟨a, rfl, -⟩, _, _, rfl, ⟨b, rfl, -⟩, _, _, rfl, ⟨c, rfl, -⟩, rfl⟩
    exact ⟨⟨a, b, c⟩, rfl, trivial⟩)
theorem ely_pair : Ely enc Tryd.prog W 89 encPair fun _ => True :=
  (opn_struct Tryd.underlying89 (by kernel_rfl) (.cons (opn_i64 Tryd.underlying3) (.cons (opn_i64 Tryd.underlying3) .nil))).mono (by
    rintro cs ⟨_, _, rfl, ⟨a, rfl, -⟩, _, _, rfl, ⟨b, rfl, -⟩, rfl⟩
    exact ⟨⟨a, b⟩, rfl, trivial⟩)
theorem ely_thing : Ely enc Tryd.prog W 112 encThing fun _ => True :=
  (opn_struct Tryd.underlying112 (by kernel_rfl) (.cons (opn_i64 Tryd.underlying3) (.cons (opn_i64 Tryd.underlying3) (.cons (opn_string Tryd.underlying9) .nil)))).mono (by
    rintro cs ⟨_, _, rfl, ⟨a, rfl, -⟩, _, _, rfl, ⟨b, rfl, -⟩, _, _, rfl, ⟨c, rfl, -⟩, rfl⟩
    exact ⟨⟨a, b, c⟩, rfl, trivial⟩)
theorem ely_end : Ely enc Tryd.prog W 114 encEnd fun _ => True :=
  (opn_struct Tryd.underlying114 (by kernel_rfl) (.cons (opn_i64 Tryd.underlying3) (.cons (opn_i64 Tryd.underlying3) .nil))).mono (by
    rintro cs ⟨_, _, rfl, ⟨a, rfl, -⟩, _, _, rfl, ⟨b, rfl, -⟩, rfl⟩
    exact ⟨⟨a, b⟩, rfl, trivial⟩)
theorem ely_ints : Ely enc Tryd.prog W 29 encV fun v => ∃ xs, Sl All W Eng.encI 1 v xs ∧ xs.length * Tryd.prog.bytesOf 3 ≤ 140737488351232 ∧ ∀ y, y ∈ xs → True :=
  (opn_slice (en := Eng.encI) (sz := 1) Tryd.underlying29 (by kernel_rfl) ely_int).mono (by
    rintro cs ⟨v, xs, rfl, h1, h2, h3⟩
    exact ⟨v, rfl, xs, h1, h2, h3⟩)
theorem opn_trace : Opn enc Tryd.prog W 45 fun cs => ∃ lv iv ev bv av dv cv tv nv t, cs = [lv, iv, ev, bv, av, dv, cv, tv, nv] ∧ TrIn All W lv iv ev bv av dv cv tv nv t ∧ TrBig t :=
  (opn_struct Tryd.underlying45 (by kernel_rfl) (.cons (opn_slice (en := encT) (sz := 1) Tryd.underlying38 (by kernel_rfl) ely_str) (.cons (opn_slice (en := Eng.encI) (sz := 1) Tryd.underlying29 (by kernel_rfl) ely_int)
    (.cons (opn_slice (en := encEv) (sz := 6) Tryd.underlying39 (by kernel_rfl) ely_ev) (.cons (opn_slice (en := encBar) (sz := 3) Tryd.underlying40 (by kernel_rfl) ely_bar)
    (.cons (opn_slice (en := encPair) (sz := 2) Tryd.underlying41 (by kernel_rfl) ely_pair) (.cons (opn_slice (en := encPair) (sz := 2) Tryd.underlying41 (by kernel_rfl) ely_pair) (.cons (opn_slice (en := encPair) (sz := 2) Tryd.underlying41 (by kernel_rfl) ely_pair)
    (.cons (opn_slice (en := encThing) (sz := 3) Tryd.underlying42 (by kernel_rfl) ely_thing) (.cons (opn_slice (en := encEnd) (sz := 2) Tryd.underlying43 (by kernel_rfl) ely_end) .nil)))))))))).mono (by
    rintro cs ⟨_, _, rfl, ⟨lv, l, rfl, h1, b1, -⟩, _, _, rfl, ⟨iv, i, rfl, h2, b2, -⟩, _, _, rfl, ⟨ev, e, rfl, h3, b3, -⟩, _, _, rfl, ⟨bv, b, rfl, h4, b4, -⟩, _, _, rfl, ⟨av, a, rfl, h5, b5, -⟩, _, _, rfl, ⟨dv, d, rfl, h6, b6, -⟩, _, _, rfl, ⟨cv, c, rfl, h7, b7, -⟩, _, _, rfl, ⟨tv, th, rfl, h8, b8, -⟩, _, _, rfl, ⟨nv, n, rfl, h9, b9, -⟩, rfl⟩
    rw [show Tryd.prog.bytesOf 9 = 16 by kernel_rfl] at b1
    rw [show Tryd.prog.bytesOf 3 = 8 by kernel_rfl] at b2
    rw [show Tryd.prog.bytesOf 53 = 48 by kernel_rfl] at b3
    rw [show Tryd.prog.bytesOf 128 = 24 by kernel_rfl] at b4
    rw [show Tryd.prog.bytesOf 89 = 16 by kernel_rfl] at b5 b6 b7
    rw [show Tryd.prog.bytesOf 112 = 32 by kernel_rfl] at b8
    rw [show Tryd.prog.bytesOf 114 = 16 by kernel_rfl] at b9
    exact ⟨lv, iv, ev, bv, av, dv, cv, tv, nv, ⟨l, i, e, b, a, d, c, th, n⟩, rfl, ⟨h1, h2, h3, h4, h5, h6, h7, h8, h9⟩, ⟨b1, b2, b3, b4, b5, b6, b7, b8, b9⟩⟩)
theorem opn_cand : Opn enc Tryd.prog W 48 fun cs => ∃ fv ov c, cs = [fv, ov] ∧ CdIn All W fv ov c ∧ c.rf.length * 8 ≤ 140737488351232 ∧ c.co.length * 24 ≤ 140737488351232 :=
  (opn_struct Tryd.underlying48 (by kernel_rfl) (.cons (opn_slice (en := Eng.encI) (sz := 1) Tryd.underlying29 (by kernel_rfl) ely_int) (.cons (opn_slice (en := encV) (sz := 1) Tryd.underlying46 (by kernel_rfl) ely_ints) .nil))).mono (by
    rintro cs ⟨_, _, rfl, ⟨fv, f, rfl, h1, b1, -⟩, _, _, rfl, ⟨ov, o, rfl, h2, b2, e2⟩, rfl⟩
    rw [show Tryd.prog.bytesOf 3 = 8 by kernel_rfl] at b1
    rw [show Tryd.prog.bytesOf 29 = 24 by kernel_rfl] at b2
    obtain ⟨c, hc, e3, e4⟩ := cd_of (show Tryd.prog.bytesOf 3 = 8 by kernel_rfl) h1 h2 e2
    exact ⟨fv, ov, c, rfl, hc, by rw [e3]; exact b1, by rw [← e4]; exact b2⟩)
end
end Go.Proofs.YtcjabnfgkfiajaaDoor
end
