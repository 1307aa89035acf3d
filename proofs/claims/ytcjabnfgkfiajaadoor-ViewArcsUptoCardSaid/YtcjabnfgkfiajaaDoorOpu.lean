/- The struct Rels among a law's arguments (printed by gen_opu.py). -/
import Derived.Test.YtcjabnfgkfiajaaDoorG23
import Derived.Test.YtcjabnfgkfiajaaDoorG25
import Derived.Test.YtcjabnfgkfiajaaDoorG24
set_option linter.unusedSimpArgs false
set_option linter.unusedVariables false
namespace Go.Proofs.YtcjabnfgkfiajaaDoor
open Go Go.Eng Go.Tc Go.Frm Go.Vw
open Go.ChangeShapes Go.WideShapes Go.ChangeAt Go.RowKit
section
variable {H : Type} {enc : TypeId × Value → H} {W : World}
theorem ely_u64 : Ely enc Tryd.prog W 77 encW fun _ => True := opn_ely (el_u64 Tryd.underlying77)
theorem opn_rel1 : Opn enc Tryd.prog W 24 fun cs => ∃ n sv rows, cs = [.int .i64 n, sv] ∧ Sl All W encW 1 sv rows :=
  (opn_struct Tryd.underlying24 (by kernel_rfl) (.cons (opn_i64 Tryd.underlying3) (.cons (opn_slice (en := encW) (sz := 1) Tryd.underlying22 (by kernel_rfl) ely_u64) .nil))).mono (by
    rintro cs ⟨_, _, rfl, ⟨n, rfl, -⟩, _, _, rfl, ⟨sv, rows, rfl, h1, -, -⟩, rfl⟩
    exact ⟨n, sv, rows, rfl, h1⟩)
theorem opn_views : Opn enc Tryd.prog W 26 fun cs => ∃ n1 n2 n3 n4 n5 n6 n7 n8 n9 s1 s2 s3 s4 s5 s6 s7 s8 s9 r1 r2 r3 r4 r5 r6 r7 r8 r9, cs = [.int .i64 n1, s1, .int .i64 n2, s2, .int .i64 n3, s3, .int .i64 n4, s4, .int .i64 n5, s5, .int .i64 n6, s6, .int .i64 n7, s7, .int .i64 n8, s8, .int .i64 n9, s9] ∧ SlsR All W [⟨n1, s1⟩, ⟨n2, s2⟩, ⟨n3, s3⟩, ⟨n4, s4⟩, ⟨n5, s5⟩, ⟨n6, s6⟩, ⟨n7, s7⟩, ⟨n8, s8⟩, ⟨n9, s9⟩] [(n1, r1), (n2, r2), (n3, r3), (n4, r4), (n5, r5), (n6, r6), (n7, r7), (n8, r8), (n9, r9)] :=
  (opn_struct Tryd.underlying26 (by kernel_rfl) (.cons opn_rel1 (.cons opn_rel1 (.cons opn_rel1 (.cons opn_rel1 (.cons opn_rel1 (.cons opn_rel1 (.cons opn_rel1 (.cons opn_rel1 (.cons opn_rel1 .nil)))))))))).mono (by
    rintro cs ⟨_, _, rfl, ⟨n1, s1, r1, rfl, h1⟩, _, _, rfl, ⟨n2, s2, r2, rfl, h2⟩, _, _, rfl, ⟨n3, s3, r3, rfl, h3⟩, _, _, rfl, ⟨n4, s4, r4, rfl, h4⟩, _, _, rfl, ⟨n5, s5, r5, rfl, h5⟩, _, _, rfl, ⟨n6, s6, r6, rfl, h6⟩, _, _, rfl, ⟨n7, s7, r7, rfl, h7⟩, _, _, rfl, ⟨n8, s8, r8, rfl, h8⟩, _, _, rfl, ⟨n9, s9, r9, rfl, h9⟩, rfl⟩
    exact ⟨n1, n2, n3, n4, n5, n6, n7, n8, n9, s1, s2, s3, s4, s5, s6, s7, s8, s9, r1, r2, r3, r4, r5, r6, r7, r8, r9, rfl, ⟨rfl, h1, rfl, h2, rfl, h3, rfl, h4, rfl, h5, rfl, h6, rfl, h7, rfl, h8, rfl, h9, trivial⟩⟩)
theorem opn_rels : Opn enc Tryd.prog W 28 fun cs => ∃ n1 n2 n3 n4 n5 n6 n7 n8 n9 n10 n11 s1 s2 s3 s4 s5 s6 s7 s8 s9 s10 s11 r1 r2 r3 r4 r5 r6 r7 r8 r9 r10 r11, cs = [.int .i64 n1, s1, .int .i64 n2, s2, .int .i64 n3, s3, .int .i64 n4, s4, .int .i64 n5, s5, .int .i64 n6, s6, .int .i64 n7, s7, .int .i64 n8, s8, .int .i64 n9, s9, .int .i64 n10, s10, .int .i64 n11, s11] ∧ SlsR All W [⟨n1, s1⟩, ⟨n2, s2⟩, ⟨n3, s3⟩, ⟨n4, s4⟩, ⟨n5, s5⟩, ⟨n6, s6⟩, ⟨n7, s7⟩, ⟨n8, s8⟩, ⟨n9, s9⟩, ⟨n10, s10⟩, ⟨n11, s11⟩] [(n1, r1), (n2, r2), (n3, r3), (n4, r4), (n5, r5), (n6, r6), (n7, r7), (n8, r8), (n9, r9), (n10, r10), (n11, r11)] :=
  (opn_struct Tryd.underlying28 (by kernel_rfl) (.cons opn_views (.cons opn_rel1 (.cons opn_rel1 .nil)))).mono (by
    rintro cs ⟨_, _, rfl, ⟨n1, n2, n3, n4, n5, n6, n7, n8, n9, s1, s2, s3, s4, s5, s6, s7, s8, s9, r1, r2, r3, r4, r5, r6, r7, r8, r9, rfl, hv⟩, _, _, rfl, ⟨n10, s10, r10, rfl, h10⟩, _, _, rfl, ⟨n11, s11, r11, rfl, h11⟩, rfl⟩
    obtain ⟨-, h1, -, h2, -, h3, -, h4, -, h5, -, h6, -, h7, -, h8, -, h9, -⟩ := hv
    exact ⟨n1, n2, n3, n4, n5, n6, n7, n8, n9, n10, n11, s1, s2, s3, s4, s5, s6, s7, s8, s9, s10, s11, r1, r2, r3, r4, r5, r6, r7, r8, r9, r10, r11, rfl, ⟨rfl, h1, rfl, h2, rfl, h3, rfl, h4, rfl, h5, rfl, h6, rfl, h7, rfl, h8, rfl, h9, rfl, h10, rfl, h11, trivial⟩⟩)
end
end Go.Proofs.YtcjabnfgkfiajaaDoor
