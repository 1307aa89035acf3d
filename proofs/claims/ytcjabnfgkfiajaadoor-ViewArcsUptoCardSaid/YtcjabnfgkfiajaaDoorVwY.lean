/- The law ViewArcs, walked (printed by gen_va.py). -/
import Derived.Test.YtcjabnfgkfiajaaDoorG23
set_option linter.unusedSimpArgs false
set_option linter.unusedVariables false
namespace Go.Proofs.YtcjabnfgkfiajaaDoor
open Go Go.Eng Go.Tc Go.Rl Go.Vw
attribute [local irreducible] wpList Code.wp bodyPost Exit.then Exit.inBlock Calls

set_option maxRecDepth 4000 in
set_option maxHeartbeats 6400000 in
theorem viewArcs_spec (n1 n2 n3 n4 n5 n6 n7 n8 n9 n10 n11 : Int) (s1 s2 s3 s4 s5 s6 s7 s8 s9 s10 s11 : Value) (r1 r2 r3 r4 r5 r6 r7 r8 r9 r10 r11 : List W) (lv : Value) (l : List Int) (w : World) (hl : Sl All w Eng.encI 1 lv l) (hbig : l.length * 24 ≤ 140737488355328)
    (hs : SlsR All w [⟨n1, s1⟩, ⟨n2, s2⟩, ⟨n3, s3⟩, ⟨n4, s4⟩, ⟨n5, s5⟩, ⟨n6, s6⟩, ⟨n7, s7⟩, ⟨n8, s8⟩, ⟨n9, s9⟩, ⟨n10, s10⟩, ⟨n11, s11⟩] [(n1, r1), (n2, r2), (n3, r3), (n4, r4), (n5, r5), (n6, r6), (n7, r7), (n8, r8), (n9, r9), (n10, r10), (n11, r11)]) (hT : Tab w) :
    Pur Tryd.prog 3 [.agg #[.int .i64 n1, s1, .int .i64 n2, s2, .int .i64 n3, s3, .int .i64 n4, s4, .int .i64 n5, s5, .int .i64 n6, s6, .int .i64 n7, s7, .int .i64 n8, s8, .int .i64 n9, s9, .int .i64 n10, s10, .int .i64 n11, s11], lv] w fun _ v _ => v = .bool true := by
  have hll := hl.le
  have hlv := hl.sv
  have hsv1 : SV s1 := by obtain ⟨_, hb1, _, hb2, _, hb3, _, hb4, _, hb5, _, hb6, _, hb7, _, hb8, _, hb9, _, hb10, _, hb11, _⟩ := hs; exact hb1.sv
  have hsv2 : SV s2 := by obtain ⟨_, hb1, _, hb2, _, hb3, _, hb4, _, hb5, _, hb6, _, hb7, _, hb8, _, hb9, _, hb10, _, hb11, _⟩ := hs; exact hb2.sv
  have hsv3 : SV s3 := by obtain ⟨_, hb1, _, hb2, _, hb3, _, hb4, _, hb5, _, hb6, _, hb7, _, hb8, _, hb9, _, hb10, _, hb11, _⟩ := hs; exact hb3.sv
  have hsv4 : SV s4 := by obtain ⟨_, hb1, _, hb2, _, hb3, _, hb4, _, hb5, _, hb6, _, hb7, _, hb8, _, hb9, _, hb10, _, hb11, _⟩ := hs; exact hb4.sv
  have hsv5 : SV s5 := by obtain ⟨_, hb1, _, hb2, _, hb3, _, hb4, _, hb5, _, hb6, _, hb7, _, hb8, _, hb9, _, hb10, _, hb11, _⟩ := hs; exact hb5.sv
  have hsv6 : SV s6 := by obtain ⟨_, hb1, _, hb2, _, hb3, _, hb4, _, hb5, _, hb6, _, hb7, _, hb8, _, hb9, _, hb10, _, hb11, _⟩ := hs; exact hb6.sv
  have hsv7 : SV s7 := by obtain ⟨_, hb1, _, hb2, _, hb3, _, hb4, _, hb5, _, hb6, _, hb7, _, hb8, _, hb9, _, hb10, _, hb11, _⟩ := hs; exact hb7.sv
  have hsv8 : SV s8 := by obtain ⟨_, hb1, _, hb2, _, hb3, _, hb4, _, hb5, _, hb6, _, hb7, _, hb8, _, hb9, _, hb10, _, hb11, _⟩ := hs; exact hb8.sv
  have hsv9 : SV s9 := by obtain ⟨_, hb1, _, hb2, _, hb3, _, hb4, _, hb5, _, hb6, _, hb7, _, hb8, _, hb9, _, hb10, _, hb11, _⟩ := hs; exact hb9.sv
  have hsv10 : SV s10 := by obtain ⟨_, hb1, _, hb2, _, hb3, _, hb4, _, hb5, _, hb6, _, hb7, _, hb8, _, hb9, _, hb10, _, hb11, _⟩ := hs; exact hb10.sv
  have hsv11 : SV s11 := by obtain ⟨_, hb1, _, hb2, _, hb3, _, hb4, _, hb5, _, hb6, _, hb7, _, hb8, _, hb9, _, hb10, _, hb11, _⟩ := hs; exact hb11.sv
  refine enter_pur Tryd.func3 Tryd.ntmps3 rfl rfl ?_
  refine gO_ ?_
  refine wl_fx (fx_box (next := ?_)); intro bx
  refine gO_ ?_
  refine kp_nil 3 1 Eng.encI ?_
  refine wl_fx (fx_append_base (k := 0) (hk := rfl) (hlen := by simp; omega) (next := ?_)); intro v12 hv12
  refine gO_ ?_
  refine wl_fx (fx_call_mk (spec := fun w' hw => varcs_spec n1 n2 n3 n4 n5 n6 n7 n8 n9 n10 n11 s1 s2 s3 s4 s5 s6 s7 s8 s9 s10 s11 r1 r2 r3 r4 r5 r6 r7 r8 r9 r10 r11 v12 l w' (hw.lend (.head _)) hbig (hs.now hw (.head _))) (next := ?_))
  rintro v m1 es w1 ⟨a1, ha1, rfl, rfl⟩
  refine gO_ ?_
  refine wl_fx (fx_call_mk (spec := fun w' hw => rarcs_spec n1 n2 n3 n4 n5 n6 n7 n8 n9 n10 n11 s1 s2 s3 s4 s5 s6 s7 s8 s9 s10 s11 r1 r2 r3 r4 r5 r6 r7 r8 r9 r10 r11 lv l w' (hw.now hl (.tail _ (.head _))) hbig (hs.now hw (.tail _ (.head _)))) (next := ?_))
  rintro v m2 es w2 ⟨a2, ha2, rfl, rfl⟩
  refine gO_ ?_
  refine wl_fx (fx_call (spec := fun w' hw => samearcs_spec a1 a2 _ _ w' (hw.lend (.tail _ (.head _))) (hw.lend (.head _))) (next := ?_))
  rintro v m3 w3 rfl hm3
  refine gO_ ?_
  refine wl_gx (h := gx_call (spec := fun _ w' hw => sameInts_spec v12 lv l l w' (hw.lend (.tail _ (.tail _ (.head _)))) (hw.now hl (.tail _ (.tail _ (.tail _ (.head _))))))) (next := ?_)
  refine gO_ ?_
  refine wl_gx (h := gx_call (spec := fun _ w' hw => vawake_spec w' (hT.now hw (.tail _ (.tail _ (.tail _ (.head _))))))) (next := ?_)
  refine gO_ ?_
  refine pur_ret Tryd.results3 (.tmp rfl .nil) (.tail _ (.tail _ (.tail _ (.head _)))) fun w' hw => ?_
  simp only [dc_eq, decide_true, Bool.and_true]
  rfl
end Go.Proofs.YtcjabnfgkfiajaaDoor
