import Derived.Test.YtnplmhfjoemgdaaGreatDoorG18
import Derived.Test.YtnplmhfjoemgdaaGreatDoorG20
set_option linter.unusedSimpArgs false
set_option linter.unusedVariables false
section
/- The walks: alembicref17.All, name, Arcs (printed by gen_rarcs.py). -/
namespace Go.Proofs.YtnplmhfjoemgdaaGreatDoor
open Go Go.Eng Go.Tc Go.Rl Go.Vw
attribute [local irreducible] wpList Code.wp bodyPost Exit.then Exit.inBlock Calls

set_option maxHeartbeats 1600000 in
theorem rall_spec (n1 n2 n3 n4 n5 n6 n7 n8 n9 : Int) (s1 s2 s3 s4 s5 s6 s7 s8 s9 : Value) (w : World) (hs1 : SV s1) (hs2 : SV s2) (hs3 : SV s3) (hs4 : SV s4) (hs5 : SV s5) (hs6 : SV s6) (hs7 : SV s7) (hs8 : SV s8) (hs9 : SV s9) :
    Mk Tryz.prog 121 [.agg #[.int .i64 n1, s1, .int .i64 n2, s2, .int .i64 n3, s3, .int .i64 n4, s4, .int .i64 n5, s5, .int .i64 n6, s6, .int .i64 n7, s7, .int .i64 n8, s8, .int .i64 n9, s9]] w fun _ v es _ => SV v ∧ es = [.own v 33 2 encRelV [⟨n1, s1⟩, ⟨n2, s2⟩, ⟨n3, s3⟩, ⟨n4, s4⟩, ⟨n5, s5⟩, ⟨n6, s6⟩, ⟨n7, s7⟩, ⟨n8, s8⟩, ⟨n9, s9⟩]] := by
  refine enter_mk Tryz.func121 Tryz.ntmps121 rfl rfl ?_
  refine gO_ ?_
  refine wl_fx (fx_box (next := ?_)); intro bv
  refine gO_ ?_
  refine wl_fx (fx_lit (next := ?_))
  intro v21 hv21
  refine gO_ ?_
  exact mk_ret Tryz.results121 (.tmp rfl .nil) (.head _) [_] [0] rfl (by decide) fun w' hw => ⟨hv21, rfl⟩

set_option maxHeartbeats 3200000 in
theorem rname_spec (n1 n2 n3 n4 n5 n6 n7 n8 n9 n10 n11 : Int) (s1 s2 s3 s4 s5 s6 s7 s8 s9 s10 s11 : Value) (r1 r2 r3 r4 r5 r6 r7 r8 r9 r10 r11 : List W) (a b : Int) (w : World)
    (hs : SlsR All w [⟨n1, s1⟩, ⟨n2, s2⟩, ⟨n3, s3⟩, ⟨n4, s4⟩, ⟨n5, s5⟩, ⟨n6, s6⟩, ⟨n7, s7⟩, ⟨n8, s8⟩, ⟨n9, s9⟩, ⟨n10, s10⟩, ⟨n11, s11⟩] [(n1, r1), (n2, r2), (n3, r3), (n4, r4), (n5, r5), (n6, r6), (n7, r7), (n8, r8), (n9, r9), (n10, r10), (n11, r11)]) :
    Pur Tryz.prog 122 [.agg #[.int .i64 n1, s1, .int .i64 n2, s2, .int .i64 n3, s3, .int .i64 n4, s4, .int .i64 n5, s5, .int .i64 n6, s6, .int .i64 n7, s7, .int .i64 n8, s8, .int .i64 n9, s9], .agg #[.int .i64 n10, s10], .agg #[.int .i64 n11, s11], .int .i64 a, .int .i64 b] w fun _ v _ => v = .int .i64 (kindOf [(n1, r1), (n2, r2), (n3, r3), (n4, r4), (n5, r5), (n6, r6), (n7, r7), (n8, r8), (n9, r9), (n10, r10), (n11, r11)] a b) := by
  obtain ⟨-, h1, -, h2, -, h3, -, h4, -, h5, -, h6, -, h7, -, h8, -, h9, -, h10, -, h11, -⟩ := hs
  have hs1 := h1.sv
  have hs2 := h2.sv
  have hs3 := h3.sv
  have hs4 := h4.sv
  have hs5 := h5.sv
  have hs6 := h6.sv
  have hs7 := h7.sv
  have hs8 := h8.sv
  have hs9 := h9.sv
  have hs10 := h10.sv
  have hs11 := h11.sv
  refine enter_pur Tryz.func122 Tryz.ntmps122 rfl rfl ?_
  refine gO_ ?_
  refine wl_fx (fx_box (next := ?_)); intro bv
  refine gO_ ?_
  refine wl_fx (fx_box (next := ?_)); intro bf
  refine gO_ ?_
  refine wl_fx (fx_box (next := ?_)); intro bp
  refine gO_ ?_
  refine wl_fx (fx_call (spec := fun w' hw => rhas_spec n3 s3 r3 a b w' (hw.now h3 (.head _))) (next := ?_))
  rintro v0 p0 w0 rfl hn0
  refine gO_ ?_
  refine wc_cond rfl (fun e0 => ?_) (fun e0 => ?_)
  · refine gO_ ?_
    refine pur_ret Tryz.results122 (.tmp rfl .nil) (.tail _ (.head _)) fun w' hw => ?_
    unfold kindOf
    rw [if_pos (show hasR [(n1, r1), (n2, r2), (n3, r3), (n4, r4), (n5, r5), (n6, r6), (n7, r7), (n8, r8), (n9, r9), (n10, r10), (n11, r11)] 2 a b = true from e0)]; rfl
  · have e0 : ¬ hasR [(n1, r1), (n2, r2), (n3, r3), (n4, r4), (n5, r5), (n6, r6), (n7, r7), (n8, r8), (n9, r9), (n10, r10), (n11, r11)] 2 a b = true := by rw [show hasR [(n1, r1), (n2, r2), (n3, r3), (n4, r4), (n5, r5), (n6, r6), (n7, r7), (n8, r8), (n9, r9), (n10, r10), (n11, r11)] 2 a b = false from e0]; simp
    refine gO_ ?_
    refine wl_fx (fx_call (spec := fun w' hw => rhas_spec n5 s5 r5 a b w' (hw.now h5 (.tail _ (.head _)))) (next := ?_))
    rintro v1 p1 w1 rfl hn1
    refine gO_ ?_
    refine wc_cond rfl (fun e1 => ?_) (fun e1 => ?_)
    · refine gO_ ?_
      refine pur_ret Tryz.results122 (.tmp rfl .nil) (.tail _ (.tail _ (.head _))) fun w' hw => ?_
      unfold kindOf
      rw [if_neg e0, if_pos (show hasR [(n1, r1), (n2, r2), (n3, r3), (n4, r4), (n5, r5), (n6, r6), (n7, r7), (n8, r8), (n9, r9), (n10, r10), (n11, r11)] 4 a b = true from e1)]; rfl
    · have e1 : ¬ hasR [(n1, r1), (n2, r2), (n3, r3), (n4, r4), (n5, r5), (n6, r6), (n7, r7), (n8, r8), (n9, r9), (n10, r10), (n11, r11)] 4 a b = true := by rw [show hasR [(n1, r1), (n2, r2), (n3, r3), (n4, r4), (n5, r5), (n6, r6), (n7, r7), (n8, r8), (n9, r9), (n10, r10), (n11, r11)] 4 a b = false from e1]; simp
      refine gO_ ?_
      refine wl_fx (fx_call (spec := fun w' hw => rhas_spec n7 s7 r7 a b w' (hw.now h7 (.tail _ (.tail _ (.head _))))) (next := ?_))
      rintro v2 p2 w2 rfl hn2
      refine gO_ ?_
      refine wc_cond rfl (fun e2 => ?_) (fun e2 => ?_)
      · refine gO_ ?_
        refine pur_ret Tryz.results122 (.tmp rfl .nil) (.tail _ (.tail _ (.tail _ (.head _)))) fun w' hw => ?_
        unfold kindOf
        rw [if_neg e0, if_neg e1, if_pos (show hasR [(n1, r1), (n2, r2), (n3, r3), (n4, r4), (n5, r5), (n6, r6), (n7, r7), (n8, r8), (n9, r9), (n10, r10), (n11, r11)] 6 a b = true from e2)]; rfl
      · have e2 : ¬ hasR [(n1, r1), (n2, r2), (n3, r3), (n4, r4), (n5, r5), (n6, r6), (n7, r7), (n8, r8), (n9, r9), (n10, r10), (n11, r11)] 6 a b = true := by rw [show hasR [(n1, r1), (n2, r2), (n3, r3), (n4, r4), (n5, r5), (n6, r6), (n7, r7), (n8, r8), (n9, r9), (n10, r10), (n11, r11)] 6 a b = false from e2]; simp
        refine gO_ ?_
        refine wl_fx (fx_call (spec := fun w' hw => rhas_spec n10 s10 r10 a b w' (hw.now h10 (.tail _ (.tail _ (.tail _ (.head _)))))) (next := ?_))
        rintro v3 p3 w3 rfl hn3
        refine gO_ ?_
        refine wc_cond rfl (fun e3 => ?_) (fun e3 => ?_)
        · refine gO_ ?_
          refine pur_ret Tryz.results122 (.tmp rfl .nil) (.tail _ (.tail _ (.tail _ (.tail _ (.head _))))) fun w' hw => ?_
          unfold kindOf
          rw [if_neg e0, if_neg e1, if_neg e2, if_pos (show hasR [(n1, r1), (n2, r2), (n3, r3), (n4, r4), (n5, r5), (n6, r6), (n7, r7), (n8, r8), (n9, r9), (n10, r10), (n11, r11)] 9 a b = true from e3)]; rfl
        · have e3 : ¬ hasR [(n1, r1), (n2, r2), (n3, r3), (n4, r4), (n5, r5), (n6, r6), (n7, r7), (n8, r8), (n9, r9), (n10, r10), (n11, r11)] 9 a b = true := by rw [show hasR [(n1, r1), (n2, r2), (n3, r3), (n4, r4), (n5, r5), (n6, r6), (n7, r7), (n8, r8), (n9, r9), (n10, r10), (n11, r11)] 9 a b = false from e3]; simp
          refine gO_ ?_
          refine wl_fx (fx_call (spec := fun w' hw => rhas_spec n11 s11 r11 a b w' (hw.now h11 (.tail _ (.tail _ (.tail _ (.tail _ (.head _))))))) (next := ?_))
          rintro v4 p4 w4 rfl hn4
          refine gO_ ?_
          refine wc_cond rfl (fun e4 => ?_) (fun e4 => ?_)
          · refine gO_ ?_
            refine pur_ret Tryz.results122 (.tmp rfl .nil) (.tail _ (.tail _ (.tail _ (.tail _ (.tail _ (.head _)))))) fun w' hw => ?_
            unfold kindOf
            rw [if_neg e0, if_neg e1, if_neg e2, if_neg e3, if_pos (show hasR [(n1, r1), (n2, r2), (n3, r3), (n4, r4), (n5, r5), (n6, r6), (n7, r7), (n8, r8), (n9, r9), (n10, r10), (n11, r11)] 10 a b = true from e4)]; rfl
          · have e4 : ¬ hasR [(n1, r1), (n2, r2), (n3, r3), (n4, r4), (n5, r5), (n6, r6), (n7, r7), (n8, r8), (n9, r9), (n10, r10), (n11, r11)] 10 a b = true := by rw [show hasR [(n1, r1), (n2, r2), (n3, r3), (n4, r4), (n5, r5), (n6, r6), (n7, r7), (n8, r8), (n9, r9), (n10, r10), (n11, r11)] 10 a b = false from e4]; simp
            refine gO_ ?_
            refine wl_fx (fx_call (spec := fun w' hw => rhas_spec n1 s1 r1 a b w' (hw.now h1 (.tail _ (.tail _ (.tail _ (.tail _ (.tail _ (.head _)))))))) (next := ?_))
            rintro v5 p5 w5 rfl hn5
            refine gO_ ?_
            refine wc_cond rfl (fun e5 => ?_) (fun e5 => ?_)
            · refine gO_ ?_
              refine pur_ret Tryz.results122 (.tmp rfl .nil) (.tail _ (.tail _ (.tail _ (.tail _ (.tail _ (.tail _ (.head _))))))) fun w' hw => ?_
              unfold kindOf
              rw [if_neg e0, if_neg e1, if_neg e2, if_neg e3, if_neg e4, if_pos (show hasR [(n1, r1), (n2, r2), (n3, r3), (n4, r4), (n5, r5), (n6, r6), (n7, r7), (n8, r8), (n9, r9), (n10, r10), (n11, r11)] 0 a b = true from e5)]; rfl
            · have e5 : ¬ hasR [(n1, r1), (n2, r2), (n3, r3), (n4, r4), (n5, r5), (n6, r6), (n7, r7), (n8, r8), (n9, r9), (n10, r10), (n11, r11)] 0 a b = true := by rw [show hasR [(n1, r1), (n2, r2), (n3, r3), (n4, r4), (n5, r5), (n6, r6), (n7, r7), (n8, r8), (n9, r9), (n10, r10), (n11, r11)] 0 a b = false from e5]; simp
              refine gO_ ?_
              refine pur_ret Tryz.results122 (.tmp rfl .nil) (.tail _ (.tail _ (.tail _ (.tail _ (.tail _ (.tail _ (.head _))))))) fun w' hw => ?_
              unfold kindOf
              rw [if_neg e0, if_neg e1, if_neg e2, if_neg e3, if_neg e4, if_neg e5]; rfl

set_option maxHeartbeats 16000000 in
theorem rarcs_spec (n1 n2 n3 n4 n5 n6 n7 n8 n9 n10 n11 : Int) (s1 s2 s3 s4 s5 s6 s7 s8 s9 s10 s11 : Value) (r1 r2 r3 r4 r5 r6 r7 r8 r9 r10 r11 : List W) (lv : Value) (l : List Int) (w : World) (hl : Sl All w Eng.encI 1 lv l) (hbig : l.length * 24 ≤ 140737488355328)
    (hs : SlsR All w [⟨n1, s1⟩, ⟨n2, s2⟩, ⟨n3, s3⟩, ⟨n4, s4⟩, ⟨n5, s5⟩, ⟨n6, s6⟩, ⟨n7, s7⟩, ⟨n8, s8⟩, ⟨n9, s9⟩, ⟨n10, s10⟩, ⟨n11, s11⟩] [(n1, r1), (n2, r2), (n3, r3), (n4, r4), (n5, r5), (n6, r6), (n7, r7), (n8, r8), (n9, r9), (n10, r10), (n11, r11)]) :
    Mk Tryz.prog 83 [.agg #[.int .i64 n1, s1, .int .i64 n2, s2, .int .i64 n3, s3, .int .i64 n4, s4, .int .i64 n5, s5, .int .i64 n6, s6, .int .i64 n7, s7, .int .i64 n8, s8, .int .i64 n9, s9], .agg #[.int .i64 n10, s10], .agg #[.int .i64 n11, s11], lv] w (ArcsΨ (arcsE [(n1, r1), (n2, r2), (n3, r3), (n4, r4), (n5, r5), (n6, r6), (n7, r7), (n8, r8), (n9, r9), (n10, r10), (n11, r11)] l) (arcsL [(n1, r1), (n2, r2), (n3, r3), (n4, r4), (n5, r5), (n6, r6), (n7, r7), (n8, r8), (n9, r9), (n10, r10), (n11, r11)] l)) := by
  have hll := hl.le
  have hlv := hl.sv
  have hs' := hs
  have hs0 := hs
  obtain ⟨-, h1, -, h2, -, h3, -, h4, -, h5, -, h6, -, h7, -, h8, -, h9, -, h10, -, h11, -⟩ := hs'
  have hs1 := h1.sv
  have hs2 := h2.sv
  have hs3 := h3.sv
  have hs4 := h4.sv
  have hs5 := h5.sv
  have hs6 := h6.sv
  have hs7 := h7.sv
  have hs8 := h8.sv
  have hs9 := h9.sv
  have hs10 := h10.sv
  have hs11 := h11.sv
  have fail : ∀ {e : Int}, arcsE [(n1, r1), (n2, r2), (n3, r3), (n4, r4), (n5, r5), (n6, r6), (n7, r7), (n8, r8), (n9, r9), (n10, r10), (n11, r11)] l = e → e ≠ 0 → ∀ w', ArcsΨ (arcsE [(n1, r1), (n2, r2), (n3, r3), (n4, r4), (n5, r5), (n6, r6), (n7, r7), (n8, r8), (n9, r9), (n10, r10), (n11, r11)] l) (arcsL [(n1, r1), (n2, r2), (n3, r3), (n4, r4), (n5, r5), (n6, r6), (n7, r7), (n8, r8), (n9, r9), (n10, r10), (n11, r11)] l) w.heap.size (.tuple #[.slice none 0 0, .int .i64 e]) [.own (.slice none 0 0) 62 3 encArc []] w' := fun {e} h1 h2 w' => by
    unfold arcsL
    rw [h1, if_neg h2]
    exact ⟨_, sv_nil, rfl, rfl⟩
  have hone : ∀ y, y ∈ ([⟨n10, s10⟩, ⟨n11, s11⟩] : List RelV) → y.s.oneCell' = true := fun y hy => by
    simp only [List.mem_cons, List.not_mem_nil, or_false] at hy
    rcases hy with rfl | rfl
    · exact hs10.one
    · exact hs11.one
  refine enter_mk Tryz.func83 Tryz.ntmps83 rfl rfl ?_
  refine gO_ ?_
  refine wl_fx (fx_box (next := ?_)); intro bv
  refine gO_ ?_
  refine wl_fx (fx_box (next := ?_)); intro bf
  refine gO_ ?_
  refine wl_fx (fx_box (next := ?_)); intro bp
  refine gO_ ?_
  refine wc_cutA (fun s : Value => SV s) (fun s => [(10, true, s), (6, true, .pointer (some ⟨bp, 0, none⟩)), (5, true, .pointer (some ⟨bf, 0, none⟩)), (4, true, .pointer (some ⟨bv, 0, none⟩)), (3, true, lv)]) (fun s => Mem [(w, All)] [.own s 33 2 encRelV [⟨n1, s1⟩, ⟨n2, s2⟩, ⟨n3, s3⟩, ⟨n4, s4⟩, ⟨n5, s5⟩, ⟨n6, s6⟩, ⟨n7, s7⟩, ⟨n8, s8⟩, ⟨n9, s9⟩, ⟨n10, s10⟩, ⟨n11, s11⟩], .box bp [.int .i64 n11, s11] 33, .box bf [.int .i64 n10, s10] 33, .box bv [.int .i64 n1, s1, .int .i64 n2, s2, .int .i64 n3, s3, .int .i64 n4, s4, .int .i64 n5, s5, .int .i64 n6, s6, .int .i64 n7, s7, .int .i64 n8, s8, .int .i64 n9, s9] 78]) ?_ ?_
  · refine wc_drawS (Mem [(w, All)] [.box bp [.int .i64 n11, s11] 33, .box bf [.int .i64 n10, s10] 33, .box bv [.int .i64 n1, s1, .int .i64 n2, s2, .int .i64 n3, s3, .int .i64 n4, s4, .int .i64 n5, s5, .int .i64 n6, s6, .int .i64 n7, s7, .int .i64 n8, s8, .int .i64 n9, s9] 78]) [0, 2, 3, 999] mixed (fun _ h => h.last rfl) ?_
    refine kG_ ?_
    refine kg_br2 1 4 (h1 := ?_) (h2 := ?_)
    · refine ks_f [999] _ (hSS := fun _ h => h) (h := fx_call_mk (spec := fun w' hw => rall_spec n1 n2 n3 n4 n5 n6 n7 n8 n9 s1 s2 s3 s4 s5 s6 s7 s8 s9 w' hs1 hs2 hs3 hs4 hs5 hs6 hs7 hs8 hs9) (next := ?_))
      rintro v20 q1 es w1 ⟨hv20, rfl⟩
      refine kp_S ?_ (fun _ h => (h.last rfl).sel [1, 2, 3] rfl (by decide))
      refine kg_br1 4 (h1 := ?_)
      refine ks_f [5, 6] _ (hSS := fun _ h => h) (h := fx_lit (enc := encRelV) (dec := decRelV) (e := 33) (sz := 2) (len := 2) (qs := [(0, [.int .i64 n10, s10]), (1, [.int .i64 n11, s11])]) (next := ?_))
      intro v23 hv23
      refine kp_S ?_ (fun _ h => (h.last rfl).sel [2, 3, 4] rfl (by decide))
      refine kg_f _ (h := fx_append_own (k := 1) (hk := rfl) (hm := .head _) (hok := hone) (hlen := by simp) (next := ?_)) (hSS := fun _ h => h)
      intro v24 hv24
      refine kp_S ?_ (fun _ h => (h.last rfl).sel [2, 3, 4] rfl (by decide))
      refine kG_ ?_
      exact po_cut v24 hv24 ⟨rfl, rfl, rfl, rfl, rfl, trivial⟩ (fun _ h => (h.last rfl).tail)
    · refine ks_f [999] _ (hSS := fun _ h => h) (h := fx_lit (enc := encRelV) (dec := decRelV) (e := 33) (sz := 2) (len := 2) (qs := [(0, [.int .i64 n10, s10]), (1, [.int .i64 n11, s11])]) (next := ?_))
      intro v23 hv23
      refine kp_S ?_ (fun _ h => (h.last rfl).sel [1, 2, 3] rfl (by decide))
      refine kg_br1 1 (h1 := ?_)
      refine ks_f [5, 6] _ (hSS := fun _ h => h) (h := fx_call_mk (spec := fun w' hw => rall_spec n1 n2 n3 n4 n5 n6 n7 n8 n9 s1 s2 s3 s4 s5 s6 s7 s8 s9 w' hs1 hs2 hs3 hs4 hs5 hs6 hs7 hs8 hs9) (next := ?_))
      rintro v20 q1 es w1 ⟨hv20, rfl⟩
      refine kp_S ?_ (fun _ h => (h.last rfl).sel [2, 3, 4] rfl (by decide))
      refine kg_f _ (h := fx_append_own (k := 0) (hk := rfl) (hm := .tail _ (.head _)) (hok := hone) (hlen := by simp) (next := ?_)) (hSS := fun _ h => h)
      intro v24 hv24
      refine kp_S ?_ (fun _ h => (h.last rfl).sel [2, 3, 4] rfl (by decide))
      refine kG_ ?_
      exact po_cut v24 hv24 ⟨rfl, rfl, rfl, rfl, rfl, trivial⟩ (fun _ h => (h.last rfl).sel [0, 2, 3, 4] rfl (by decide))
  intro v24 hv24
  generalize hR : ([(n1, r1), (n2, r2), (n3, r3), (n4, r4), (n5, r5), (n6, r6), (n7, r7), (n8, r8), (n9, r9), (n10, r10), (n11, r11)] : Rs) = R at *
  have hR0 : (R.getD 0 default).1 = n1 := by rw [← hR]; rfl
  have hRl : R.length = 11 := by rw [← hR]; rfl
  generalize hV : ([⟨n1, s1⟩, ⟨n2, s2⟩, ⟨n3, s3⟩, ⟨n4, s4⟩, ⟨n5, s5⟩, ⟨n6, s6⟩, ⟨n7, s7⟩, ⟨n8, s8⟩, ⟨n9, s9⟩, ⟨n10, s10⟩, ⟨n11, s11⟩] : List RelV) = V at *
  have hVl : V.length = 11 := by rw [← hV]; rfl
  refine gO_ ?_
  refine wc_loop (fun i : Nat => i ≤ 11 ∧ ∀ j, j < i → relOk (R.getD j default).1 (R.getD j default).2 = true) (fun i => [(11, true, .int .i64 i), (10, true, v24), (6, true, .pointer (some ⟨bp, 0, none⟩)), (5, true, .pointer (some ⟨bf, 0, none⟩)), (4, true, .pointer (some ⟨bv, 0, none⟩)), (3, true, lv)])
    (fun i => Mem [(w, All)] [.own v24 33 2 encRelV V, .box bp [.int .i64 n11, s11] 33, .box bf [.int .i64 n10, s10] 33, .box bv [.int .i64 n1, s1, .int .i64 n2, s2, .int .i64 n3, s3, .int .i64 n4, s4, .int .i64 n5, s5, .int .i64 n6, s6, .int .i64 n7, s7, .int .i64 n8, s8, .int .i64 n9, s9] 78]) (fun s => 11 - s) 0 ⟨Nat.zero_le _, fun j hj => absurd hj (Nat.not_lt_zero _)⟩ ⟨rfl, rfl, rfl, rfl, rfl, rfl, trivial⟩ (fun _ h => h.last rfl) ?_
  rintro i ⟨hi, hall⟩
  refine gO_ ?_
  refine wc_cond rfl (fun g1 => ?_) (fun g1 => ?_)
  · have g1' : i < V.length := by rw [dc_true] at g1; omega
    obtain ⟨e1, e2⟩ := hs.get g1'
    have e3 := e2.sv
    refine gO_ ?_
    refine wl_fx (fx_call (spec := fun w' hw => may_spec (V.getD i default).n (V.getD i default).s (R.getD i default).2 w' (hw.now e2 (.head _))) (next := ?_))
    rintro v p1 w1 rfl hn1
    rw [e1]
    refine gO_ ?_
    refine wc_cond rfl (fun g2 => ?_) (fun g2 => ?_)
    · rw [Bool.not_eq_true'] at g2
      refine gO_ ?_
      refine kp_nil 62 3 encArc ?_
      exact mk_ret Tryz.results83 (.tmp rfl (.tmp rfl .nil)) (.tail _ (.head _)) [_] [0] rfl (by decide) fun w' hw => fail (by unfold arcsE; rw [okR_not (by omega) g2]; rfl) (by decide) w'
    · rw [Bool.not_eq_false'] at g2
      refine gO_ ?_
      exact po_loop (i + 1) ⟨by omega, seenT hall g2⟩ (by omega) ⟨rfl, rfl, rfl, rfl, rfl, rfl, trivial⟩ (fun _ h => h.last rfl)
  · have hin : i = 11 := by rw [dc_false] at g1; omega
    have hok : okR R = true := okR_all fun j hj => hall j (by omega)
    refine gO_ ?_
    refine wc_loop (fun i : Nat => i ≤ 11 ∧ ∀ j, j < i → (R.getD j default).1 = (R.getD 0 default).1) (fun i => [(12, true, .int .i64 i), (10, true, v24), (6, true, .pointer (some ⟨bp, 0, none⟩)), (5, true, .pointer (some ⟨bf, 0, none⟩)), (4, true, .pointer (some ⟨bv, 0, none⟩)), (3, true, lv)])
      (fun i => Mem [(w, All)] [.own v24 33 2 encRelV V, .box bp [.int .i64 n11, s11] 33, .box bf [.int .i64 n10, s10] 33, .box bv [.int .i64 n1, s1, .int .i64 n2, s2, .int .i64 n3, s3, .int .i64 n4, s4, .int .i64 n5, s5, .int .i64 n6, s6, .int .i64 n7, s7, .int .i64 n8, s8, .int .i64 n9, s9] 78]) (fun s => 11 - s) 0 ⟨Nat.zero_le _, fun j hj => absurd hj (Nat.not_lt_zero _)⟩ ⟨rfl, rfl, rfl, rfl, rfl, rfl, trivial⟩ (fun _ h => h.last rfl) ?_
    rintro i ⟨hi, hall⟩
    refine gO_ ?_
    refine wc_cond rfl (fun g1 => ?_) (fun g1 => ?_)
    · have g1' : i < V.length := by rw [dc_true] at g1; omega
      obtain ⟨e1, e2⟩ := hs.get g1'
      refine gO_ ?_
      refine wc_draw [0, 1, 2, 3, 4, 5, 6, 7, 8] mixed ?_
      refine kG_ ?_
      refine gO_ ?_
      refine wc_cond rfl (fun g2 => ?_) (fun g2 => ?_)
      · rw [Bool.not_eq_true', dc_false, e1, ← hR0] at g2
        refine gO_ ?_
        refine kp_nil 62 3 encArc ?_
        exact mk_ret Tryz.results83 (.tmp rfl (.tmp rfl .nil)) (.head _) [_] [0] rfl (by decide) fun w' hw => fail (by unfold arcsE; rw [hok, sameN_not (by omega) g2]; rfl) (by decide) w'
      · rw [Bool.not_eq_false', dc_true, e1, ← hR0] at g2
        refine gO_ ?_
        refine po_loop (i + 1) ⟨by omega, fun j hj => ?_⟩ (by omega) ⟨rfl, rfl, rfl, rfl, rfl, rfl, trivial⟩ (fun _ h => h.last rfl)
        by_cases hji : j < i
        · exact hall j hji
        · obtain rfl : j = i := by omega
          exact g2
    · have hin : i = 11 := by rw [dc_false] at g1; omega
      have hsm : sameN R = true := sameN_all fun j hj => hall j (by omega)
      refine gO_ ?_
      refine wc_loop (fun i : Nat => i ≤ l.length ∧ ∀ j, j < i → (!(decide (l.getD j default < 0) || decide (n1 ≤ l.getD j default))) = true) (fun i => [(13, true, .int .i64 i), (6, true, .pointer (some ⟨bp, 0, none⟩)), (5, true, .pointer (some ⟨bf, 0, none⟩)), (4, true, .pointer (some ⟨bv, 0, none⟩)), (3, true, lv)])
        (fun i => Mem [(w, All)] [.box bp [.int .i64 n11, s11] 33, .box bf [.int .i64 n10, s10] 33, .box bv [.int .i64 n1, s1, .int .i64 n2, s2, .int .i64 n3, s3, .int .i64 n4, s4, .int .i64 n5, s5, .int .i64 n6, s6, .int .i64 n7, s7, .int .i64 n8, s8, .int .i64 n9, s9] 78]) (fun s => l.length - s) 0 ⟨Nat.zero_le _, fun j hj => absurd hj (Nat.not_lt_zero _)⟩ ⟨rfl, rfl, rfl, rfl, rfl, trivial⟩ (fun _ h => (h.last rfl).tail) ?_
      rintro i ⟨hi, hall⟩
      refine gO_ ?_
      refine wc_cond rfl (fun g1 => ?_) (fun g1 => ?_)
      · have g1' : i < l.length := by rw [dc_true] at g1; omega
        refine gO_ ?_
        refine wc_draw [0, 1, 2, 3, 4, 5, 6, 7, 8, 9, 10, 11, 12, 13, 14] mixed ?_
        refine kG_ ?_
        refine gO_ ?_
        refine wc_cond rfl (fun g2 => ?_) (fun g2 => ?_)
        · rw [dc_eq, dc_eq] at g2
          refine gO_ ?_
          refine kp_nil 62 3 encArc ?_
          exact mk_ret Tryz.results83 (.tmp rfl (.tmp rfl .nil)) (.head _) [_] [0] rfl (by decide) fun w' hw => fail (by
            have : rngL (R.getD 0 default).1 l = false := by rw [hR0]; exact all_range_f g1' (by rw [g2]; rfl)
            unfold arcsE; rw [hok, hsm, this]; rfl) (by decide) w'
        · rw [dc_eq, dc_eq] at g2
          refine gO_ ?_
          exact po_loop (i + 1) ⟨by omega, seenT hall (by rw [g2]; rfl)⟩ (by omega) ⟨rfl, rfl, rfl, rfl, rfl, trivial⟩ (fun _ h => h.last rfl)
      · have hin : i = l.length := by rw [dc_false] at g1; omega
        have hrg : rngL (R.getD 0 default).1 l = true := by rw [hR0]; exact all_range.2 fun j hj => hall j (by omega)
        refine gO_ ?_
        refine wc_cond rfl (fun g2 => ?_) (fun g2 => ?_)
        · rw [dc_true] at g2
          have g3 : l.length = 0 := by omega
          refine gO_ ?_
          refine kp_nil 62 3 encArc ?_
          exact mk_ret Tryz.results83 (.tmp rfl (.tmp rfl .nil)) (.head _) [_] [0] rfl (by decide) fun w' hw => fail (by unfold arcsE; rw [hok, hsm, hrg, if_pos rfl, if_pos rfl, if_pos rfl, if_pos g3]) (by decide) w'
        rw [dc_false] at g2
        have g3 : ¬ l.length = 0 := by omega
        have hE : arcsE R l = if named R l = true then 0 else 4 := by unfold arcsE; rw [hok, hsm, hrg, if_pos rfl, if_pos rfl, if_pos rfl, if_neg g3]
        · refine gO_ ?_
          refine kp_nil 62 3 encArc ?_
          refine wc_loop (fun s : Nat × Value × List Arc => s.1 ≤ l.length ∧ SV s.2.1 ∧ s.2.2 = arcsTo R l s.1 ∧ ∀ j, j < s.1 → decide (¬ kindOf R (l.getD j default) (nxt l j) = 0) = true) (fun s => [(15, true, .int .i64 s.1), (14, true, s.2.1), (6, true, .pointer (some ⟨bp, 0, none⟩)), (5, true, .pointer (some ⟨bf, 0, none⟩)), (4, true, .pointer (some ⟨bv, 0, none⟩)), (3, true, lv)])
            (fun s => Mem [(w, All)] [.own s.2.1 62 3 encArc s.2.2, .box bp [.int .i64 n11, s11] 33, .box bf [.int .i64 n10, s10] 33, .box bv [.int .i64 n1, s1, .int .i64 n2, s2, .int .i64 n3, s3, .int .i64 n4, s4, .int .i64 n5, s5, .int .i64 n6, s6, .int .i64 n7, s7, .int .i64 n8, s8, .int .i64 n9, s9] 78]) (fun s => l.length - s.1) (0, .slice none 0 0, []) ⟨Nat.zero_le _, sv_nil, rfl, fun j hj => absurd hj (Nat.not_lt_zero _)⟩ ⟨rfl, rfl, rfl, rfl, rfl, rfl, trivial⟩ (fun _ h => h) ?_
          rintro ⟨i, v1, xs⟩ ⟨hi, hv1, hxs, hall⟩
          dsimp only at hi hv1 hxs hall ⊢
          have hxl : xs.length = i := by rw [hxs]; simp [arcsTo]
          refine gO_ ?_
          refine wc_cond rfl (fun k1 => ?_) (fun k1 => ?_)
          · have k1' : i < l.length := by rw [dc_true] at k1; omega
            have hmod : (i + 1) % l.length < l.length := Nat.mod_lt _ (by omega)
            refine gO_ ?_
            refine wc_draw [0, 1, 2, 3, 4, 5, 6, 7, 8, 9, 10, 11, 12, 13] mixed ?_
            refine kG_ ?_
            refine gO_ ?_
            refine wl_fx (fx_call (spec := fun w' hw => rname_spec n1 n2 n3 n4 n5 n6 n7 n8 n9 n10 n11 s1 s2 s3 s4 s5 s6 s7 s8 s9 s10 s11 r1 r2 r3 r4 r5 r6 r7 r8 r9 r10 r11 (l.getD i default) (nxt l i) w' (by rw [hV, hR]; exact SlsR.now hw (.head _) hs)) (next := ?_))
            rintro v p2 w2 rfl hn2
            rw [hR]
            refine gO_ ?_
            refine wc_cond rfl (fun k2 => ?_) (fun k2 => ?_)
            · rw [dc_true] at k2
              refine gO_ ?_
              refine kp_nil 62 3 encArc ?_
              exact mk_ret Tryz.results83 (.tmp rfl (.tmp rfl .nil)) (.tail _ (.head _)) [_] [0] rfl (by decide) fun w' hw => fail (by
                have : named R l = false := all_range_f k1' (decide_eq_false fun h => h k2)
                rw [hE, this]; rfl) (by decide) w'
            · rw [dc_false] at k2
              refine gO_ ?_
              refine wl_fx (fx_lit (next := ?_))
              intro v5 hv5
              refine gO_ ?_
              refine wl_fx (fx_append_own (k := 1) (hk := rfl) (hlen := by simp only [List.map, List.length_cons, List.length_nil]; omega) (next := ?_))
              intro v6 hv6
              refine gO_ ?_
              refine po_loop (i + 1, v6, xs ++ [(⟨l.getD i default, nxt l i, kindOf R (l.getD i default) (nxt l i)⟩ : Arc)]) ⟨by dsimp only; omega, hv6, by dsimp only; rw [hxs, arcsTo_succ]; rfl, seenT hall (decide_eq_true k2)⟩ (by dsimp only; omega) ⟨rfl, rfl, rfl, rfl, rfl, rfl, trivial⟩ (fun _ h => (h.last rfl).tail)
          · have hin2 : i = l.length := by rw [dc_false] at k1; omega
            have hnm : named R l = true := all_range.2 fun j hj => hall j (by omega)
            refine gO_ ?_
            refine mk_ret Tryz.results83 (.tmp rfl (.tmp rfl .nil)) (.head _) [_] [0] rfl (by decide) fun w' hw => ?_
            unfold arcsL
            rw [hE, if_pos hnm, if_pos rfl]
            exact ⟨v1, hv1, rfl, by rw [hxs, hin2]⟩
end Go.Proofs.YtnplmhfjoemgdaaGreatDoor
end

section
/- The walks: view.held, Coherent; alembicref17.Held, Coherent (printed by gen_coh.py). -/
namespace Go.Vw
open Go Go.Eng Go.Tc Go.Rl
theorem vwOf_ok {t : Tr} {c : Cd} (h : cdE t c = 0) : vwOf t c = { n := t.evs.length, po := relOf t.evs.length (poP t), pl := relOf t.evs.length (plP t), rf := relOf t.evs.length (rfP t c), rfe := relOf t.evs.length (exP t (rfP t c)), co := relOf t.evs.length (coP t c), coe := relOf t.evs.length (exP t (coP t c)), fr := relOf t.evs.length (frP t c), fre := relOf t.evs.length (exP t (frP t c)), cm := relOf t.evs.length (cmP t c) } := if_pos h
def hdP (t : Tr) (c : Cd) (i j : Nat) : Bool := plP t i j || cmP t c i j
theorem _root_.Go.Tc.CdIn.cosv {S : Nat → Prop} {w : World} {fv cv : Value} {c : Cd} (h : CdIn S w fv cv c) : SV cv := by
  obtain ⟨vs, hv, _⟩ := h.co
  exact hv.sv
end Go.Vw
namespace Go.Proofs.YtnplmhfjoemgdaaGreatDoor
open Go Go.Eng Go.Tc Go.Rl Go.Vw
attribute [local irreducible] wpList Code.wp bodyPost Exit.then Exit.inBlock Calls
def cohB (t : Tr) (c : Cd) : Bool := if cdE t c = 0 then acycS t.evs.length (relOf t.evs.length (hdP t c)) else false

set_option maxHeartbeats 1600000 in
theorem vheld_spec (m : Nat) (s1 s2 s3 s4 s5 s6 s7 s8 s9 : Value) (a b : List W) (w : World) (hs1 : SV s1) (hs2 : SV s2) (hs3 : SV s3) (hs4 : SV s4) (hs5 : SV s5) (hs6 : SV s6) (hs7 : SV s7) (hs8 : SV s8) (hs9 : SV s9) (ha : Sl All w encW 1 s2 a) (hb : Sl All w encW 1 s9 b) (oa : relOk m a = true) (ob : relOk m b = true) :
    Mk Tryz.prog 77 [.agg #[.int .i64 m, s1, .int .i64 m, s2, .int .i64 m, s3, .int .i64 m, s4, .int .i64 m, s5, .int .i64 m, s6, .int .i64 m, s7, .int .i64 m, s8, .int .i64 m, s9]] w (Rel1Ψ m (uni m a b)) := by
  refine enter_mk Tryz.func77 Tryz.ntmps77 rfl rfl ?_
  refine gO_ ?_
  refine wl_fx (fx_box (next := ?_)); intro bv
  refine gO_ ?_
  refine wl_fx (fx_alloc (next := ?_)); intro b2
  refine gO_ ?_
  refine wl_fx (fx_call_mk (spec := fun w' hw => union_ok oa ob (hw.now ha (.head _)) (hw.now hb (.head _))) (next := ?_))
  rintro v n1 es w1 ⟨s, hs, rfl, rfl⟩
  refine gO_ ?_
  refine wl_fx (fx_alloc (next := ?_)); intro b3
  refine gO_ ?_
  refine wl_fx (fx_store_box (i := 0) (hi := rfl) (next := ?_))
  refine gO_ ?_
  refine wl_fx (fx_store_box (i := 2) (hi := rfl) (next := ?_))
  refine gO_ ?_
  exact mk_ret Tryz.results77 (.cellN inferInstance rfl (.tail _ (.tail _ (.head _))) rfl .nil) (.tail _ (.head _)) [_] [1] rfl (by decide) fun w' hw => ⟨s, hs, rfl, rfl⟩

set_option maxHeartbeats 1600000 in
theorem rheld_spec (m : Nat) (s1 s2 s3 s4 s5 s6 s7 s8 s9 : Value) (a b : List W) (w : World) (hs1 : SV s1) (hs2 : SV s2) (hs3 : SV s3) (hs4 : SV s4) (hs5 : SV s5) (hs6 : SV s6) (hs7 : SV s7) (hs8 : SV s8) (hs9 : SV s9) (ha : Sl All w encW 1 s2 a) (hb : Sl All w encW 1 s9 b) (oa : relOk m a = true) (ob : relOk m b = true) :
    Mk Tryz.prog 57 [.agg #[.int .i64 m, s1, .int .i64 m, s2, .int .i64 m, s3, .int .i64 m, s4, .int .i64 m, s5, .int .i64 m, s6, .int .i64 m, s7, .int .i64 m, s8, .int .i64 m, s9]] w (Rel1Ψ m (uni m a b)) := by
  refine enter_mk Tryz.func57 Tryz.ntmps57 rfl rfl ?_
  refine gO_ ?_
  refine wl_fx (fx_box (next := ?_)); intro bv
  refine gO_ ?_
  refine wl_fx (fx_alloc (next := ?_)); intro b2
  refine gO_ ?_
  refine wl_fx (fx_call_mk (spec := fun w' hw => runion_ok oa ob (hw.now ha (.head _)) (hw.now hb (.head _))) (next := ?_))
  rintro v n1 es w1 ⟨s, hs, rfl, rfl⟩
  refine gO_ ?_
  refine wl_fx (fx_alloc (next := ?_)); intro b3
  refine gO_ ?_
  refine wl_fx (fx_store_box (i := 0) (hi := rfl) (next := ?_))
  refine gO_ ?_
  refine wl_fx (fx_store_box (i := 2) (hi := rfl) (next := ?_))
  refine gO_ ?_
  exact mk_ret Tryz.results57 (.cellN inferInstance rfl (.tail _ (.tail _ (.head _))) rfl .nil) (.tail _ (.head _)) [_] [1] rfl (by decide) fun w' hw => ⟨s, hs, rfl, rfl⟩

set_option maxHeartbeats 3200000 in
theorem vcoh_spec {lv iv ev bv av dv cv tv nv : Value} {t : Tr} (fv ov : Value) (c : Cd) (w : World) (h : TrIn All w lv iv ev bv av dv cv tv nv t) (hc : CdIn All w fv ov c) (hT : Tab w) :
    Pur Tryz.prog 33 [.agg #[lv, iv, ev, bv, av, dv, cv, tv, nv], .agg #[fv, ov]] w fun _ v _ => v = .tuple #[.bool (cohB t c), .int .i64 (cdE t c)] := by
  have hfs := hc.rf.sv
  have hos := hc.cosv
  refine enter_pur Tryz.func33 Tryz.ntmps33 rfl rfl ?_
  refine gO_ ?_
  refine wl_fx (fx_box (next := ?_)); intro bT
  refine gO_ ?_
  refine wl_fx (fx_box (next := ?_)); intro bC
  refine gO_ ?_
  refine wl_fx (fx_call_mk (spec := fun w' hw => vof_spec fv ov c w' (h.now hw (.head _)) (hc.now hw (.head _)) (hT.now hw (.head _))) (next := ?_))
  rintro v n1 es w1 ⟨s1, s2, s3, s4, s5, s6, s7, s8, s9, ⟨hs1, hs2, hs3, hs4, hs5, hs6, hs7, hs8, hs9⟩, rfl, rfl⟩
  refine gO_ ?_
  refine wl_fx (fx_alloc (next := ?_)); intro b6
  refine gO_ ?_
  refine wl_fx (fx_store_box (i := 0) (hi := rfl) (next := ?_))
  refine gO_ ?_
  refine wc_cond rfl (fun h1 => ?_) (fun h1 => ?_)
  · rw [Bool.not_eq_true', dc_false] at h1
    refine gO_ ?_
    refine pur_ret Tryz.results33 (.tmp rfl (.tmp rfl .nil)) (.tail _ (.head _)) fun w' hw => ?_
    unfold cohB
    rw [if_neg h1]; rfl
  · rw [Bool.not_eq_false', dc_true] at h1
    obtain ⟨ht, hcb⟩ := cdE_ok h1
    obtain ⟨hb, hlb⟩ := trOk_lens ht
    have hV := vwOf_ok h1
    rw [hV]
    refine gO_ ?_
    refine wl_fx (fx_call_mk (spec := fun w' hw => vheld_spec t.evs.length s1 s2 s3 s4 s5 s6 s7 s8 s9 (relOf t.evs.length (plP t)) (relOf t.evs.length (cmP t c)) w' hs1 hs2 hs3 hs4 hs5 hs6 hs7 hs8 hs9 (hw.lend (.tail _ (.tail _ (.head _)))) (hw.lend (.tail _ (.tail _ (.tail _ (.tail _ (.tail _ (.tail _ (.tail _ (.tail _ (.tail _ (.head _))))))))))) (relOk_relOf _ _ hb) (relOk_relOf _ _ hb)) (next := ?_))
    rintro v n2 es w2 ⟨s, hs, rfl, rfl⟩
    rw [relOf_uni hb]
    refine gO_ ?_
    refine wl_fx (fx_call (spec := fun w' hw => acyclic_spec t.evs.length s (relOf t.evs.length (hdP t c)) w' (hw.lend (.head _))) (next := ?_))
    rintro v n3 w3 rfl hn3
    refine gO_ ?_
    refine pur_ret Tryz.results33 (.tmp rfl (.tmp rfl .nil)) (.tail _ (.tail _ (.tail _ (.head _)))) fun w' hw => ?_
    unfold cohB
    rw [if_pos h1, h1, relOk_relOf _ _ hb]; rfl

end Go.Proofs.YtnplmhfjoemgdaaGreatDoor
end
