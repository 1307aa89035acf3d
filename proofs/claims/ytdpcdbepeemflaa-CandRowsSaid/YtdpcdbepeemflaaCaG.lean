/- alembiclaw16.sb, awake. -/
import Derived.Test.YtdpcdbepeemflaaCaF
import Derived.Test.YtdpcdbepeemflaaCaC
import Derived.Test.YtdpcdbepeemflaaCmp
set_option linter.unusedSimpArgs false
set_option linter.unusedVariables false
namespace Go.Tc
open Go Go.Eng
def sbT : Tr := { locs := [⟨#[120]⟩, ⟨#[121]⟩], init := [0, 0], evs := [⟨0, 0, 2, 0, 1, 0⟩, ⟨0, 1, 1, 1, 0, 0⟩, ⟨1, 0, 2, 1, 1, 0⟩, ⟨1, 1, 1, 0, 0, 0⟩], bars := [], addr := [], data := [], ctrl := [], things := [⟨0, 0, ByteArray.empty⟩, ⟨1, 0, ByteArray.empty⟩], ends := [⟨2, 1⟩, ⟨2, 3⟩] }
def sbC : Cd := ⟨[-1, 2, -1, -1], [[0], [2]]⟩
end Go.Tc
namespace Go.Proofs.Ytdpcdbepeemflaa
open Go Go.Eng Go.Tc
attribute [local irreducible] wpList Code.wp bodyPost Exit.then Exit.inBlock Calls
theorem sbT_ok : trOk sbT = true := by kernel_rfl
theorem sbT_n : candN sbT = 4 := by kernel_rfl
theorem sbT_e : cntE sbT = 0 := by unfold cntE; rw [if_pos sbT_ok, sbT_n]; rfl
theorem sbT_c : cntN sbT = 4 := by unfold cntN; rw [if_pos sbT_ok, sbT_n]; rfl
theorem sbT_at : candAt sbT 2 = sbC := by kernel_rfl
theorem sbT_atE : atE sbT 2 = 0 := by unfold atE; rw [if_pos sbT_e, sbT_c]; rfl
theorem sbT_atC : atC sbT 2 = sbC := by unfold atC; rw [if_pos sbT_atE]; exact sbT_at
theorem sbT_z : cdE sbT sbC = 0 := by
  unfold cdE
  rw [if_pos sbT_ok, if_pos ((candB_iff _ _).2 ⟨rfl, rfl, all_range.1 (by kernel_rfl), all_range.1 (by kernel_rfl)⟩)]
theorem sbT_num : numL sbT sbC 2 = 2 := by kernel_rfl
theorem sbT_fin : finT sbT sbC = [1, 0] := by kernel_rfl
theorem slN {τ : Type} {S : Nat → Prop} {enc : τ → List Value} (w : World) (sz : Nat) : Sl S w enc sz (.slice none 0 0) ([] : List τ) :=
  ⟨⟨none, 0, 0, rfl, rfl, Nat.le_refl _, by unfold maxLen; omega, fun h => absurd h (Nat.lt_irrefl _)⟩, fun i x j u hi => (by simp at hi), fun a n cap hv => (by cases hv)⟩

set_option maxHeartbeats 1600000 in
theorem sb16_spec (w : World) : Pur Try.prog 29 [] w fun m v w' => ∃ lv iv ev bv av dv cv tv nv, v = .agg #[lv, iv, ev, bv, av, dv, cv, tv, nv] ∧ TrIn (Fr m) w' lv iv ev bv av dv cv tv nv sbT := by
  refine enter_pur Try.func29 Try.ntmps29 rfl rfl ?_
  refine gO_ ?_
  refine wl_fx (fx_alloc (next := ?_)); intro br0
  refine gO_ ?_
  refine wl_fx (fx_lit (next := ?_))
  intro v1 hv1
  refine gO_ ?_
  refine wl_fx (fx_lit (next := ?_))
  intro v2 hv2
  refine gO_ ?_
  refine wl_fx (fx_lit (next := ?_))
  intro v7 hv7
  refine gO_ ?_
  refine wl_fx (fx_lit (next := ?_))
  intro v10 hv10
  refine gO_ ?_
  refine wl_fx (fx_lit (next := ?_))
  intro v13 hv13
  refine gO_ ?_
  refine wl_fx (fx_store_box (i := 5) (hi := rfl) (next := ?_))
  refine gO_ ?_
  refine pur_ret Try.results29 (.cellN inferInstance rfl (.tail _ (.tail _ (.tail _ (.tail _ (.tail _ (.head _)))))) rfl .nil) (.head _) fun w' hw => ?_
  exact ⟨_, _, _, _, _, _, _, _, _, rfl, hw.give (.tail _ (.tail _ (.tail _ (.tail _ (.head _))))) (.head _), hw.give (.tail _ (.tail _ (.tail _ (.head _)))) (.head _), hw.give (.tail _ (.tail _ (.head _))) (.head _), slN _ _, slN _ _, slN _ _, slN _ _, hw.give (.tail _ (.head _)) (.head _), hw.give (.head _) (.head _)⟩

set_option maxRecDepth 8000 in
set_option maxHeartbeats 12800000 in
theorem awake16_spec (w : World) : Pur Try.prog 12 [] w fun _ v _ => v = .bool true := by
  refine enter_pur Try.func12 Try.ntmps12 rfl rfl ?_
  refine gO_ ?_
  refine wl_fx (fx_call (spec := fun w' hw => sb16_spec w') (next := ?_))
  rintro v n1 w1 ⟨a1, a2, a3, a4, a5, a6, a7, a8, a9, rfl, hA⟩ hn1
  refine gO_ ?_
  refine wl_fx (fx_call (spec := fun w' hw => cCount_spec w' (hA.now hw (.head _))) (next := ?_))
  rintro v n2 w2 rfl hn2
  rw [sbT_c, sbT_e]
  refine kp_mem (A' := Mem [(w, All)] []) (fun _ h => h.last rfl) ?_
  refine gO_ ?_
  refine wl_fx (fx_call (spec := fun w' hw => sb16_spec w') (next := ?_))
  rintro v n3 w3 ⟨b1, b2, b3, b4, b5, b6, b7, b8, b9, rfl, hB⟩ hn3
  refine gO_ ?_
  refine wl_fx (fx_call_mk (spec := fun w' hw => cAt_spec 2 w' (hB.now hw (.head _))) (next := ?_))
  rintro v n4 es w4 ⟨ra, oa, vs, hra, hoa, rfl, hvl, rfl⟩
  rw [sbT_atE, sbT_atC]
  refine kp_mem (A' := Mem [(w, All)] [.own ra 3 1 Eng.encI sbC.rf, pack2 3 23 oa vs sbC.co]) (fun _ h => h.last rfl) ?_
  generalize hys : sbC.rf = ys
  have hyl : ys.length = 4 := by rw [← hys]; rfl
  have hy1 : ys.getD 1 default = 2 := by rw [← hys]; rfl
  refine gO_ ?_
  refine wl_fx (fx_alloc (next := ?_)); intro bc
  refine gO_ ?_
  refine wl_fx (fx_store_box (i := 0) (hi := rfl) (next := ?_))
  refine gO_ ?_
  refine wl_fx (fx_call (spec := fun w' hw => sb16_spec w') (next := ?_))
  rintro v n5 w5 ⟨c1, c2, c3, c4, c5, c6, c7, c8, c9, rfl, hC⟩ hn5
  refine gO_ ?_
  refine wl_fx (fx_lit (next := ?_))
  intro v21 hv21
  refine gO_ ?_
  refine wl_fx (fx_lit (next := ?_))
  intro v22 hv22
  refine gO_ ?_
  refine wl_fx (fx_lit (next := ?_))
  intro v23 hv23
  refine gO_ ?_
  refine wl_fx (fx_lit (next := ?_))
  intro v24 hv24
  refine gO_ ?_
  refine wl_fx (fx_call (spec := fun w' hw => cNumber_spec v21 v24 sbC w' (hC.now hw (.head _)) ⟨hw.lend (.tail _ (.tail _ (.tail _ (.head _)))), ⟨[v22, v23], hw.lend (.head _), rfl, fun i hi => (by
      obtain rfl | rfl : i = 0 ∨ i = 1 := by have : i < 2 := hi; omega
      · exact hw.lend (.tail _ (.tail _ (.head _)))
      · exact hw.lend (.tail _ (.head _)))⟩, fun i hi => (by
      obtain rfl | rfl : i = 0 ∨ i = 1 := by have : i < 2 := hi; omega
      · decide
      · decide)⟩ sbT_z sbT_e) (next := ?_))
  rintro v n6 w6 rfl hn6
  rw [show numL sbT sbC sbT.locs.length = 2 from sbT_num]
  refine kp_mem (A' := Mem [(w, All)] [.box bc [ra, oa] 33, .own ra 3 1 Eng.encI ys]) (fun _ h => (h.last rfl).sel [4, 5] rfl (by decide)) ?_
  refine gO_ ?_
  refine wl_fx (fx_call (spec := fun w' hw => sb16_spec w') (next := ?_))
  rintro v n7 w7 ⟨d1, d2, d3, d4, d5, d6, d7, d8, d9, rfl, hD⟩ hn7
  refine gO_ ?_
  refine wl_fx (fx_lit (next := ?_))
  intro v31 hv31
  refine gO_ ?_
  refine wl_fx (fx_lit (next := ?_))
  intro v32 hv32
  refine gO_ ?_
  refine wl_fx (fx_lit (next := ?_))
  intro v33 hv33
  refine gO_ ?_
  refine wl_fx (fx_lit (next := ?_))
  intro v34 hv34
  refine gO_ ?_
  refine wl_fx (fx_call (spec := fun w' hw => cFinal_spec v31 v34 sbC w' (hD.now hw (.head _)) ⟨hw.lend (.tail _ (.tail _ (.tail _ (.head _)))), ⟨[v32, v33], hw.lend (.head _), rfl, fun i hi => (by
      obtain rfl | rfl : i = 0 ∨ i = 1 := by have : i < 2 := hi; omega
      · exact hw.lend (.tail _ (.tail _ (.head _)))
      · exact hw.lend (.tail _ (.head _)))⟩, fun i hi => (by
      obtain rfl | rfl : i = 0 ∨ i = 1 := by have : i < 2 := hi; omega
      · decide
      · decide)⟩ sbT_z) (next := ?_))
  rintro v n8 w8 ⟨uf, rfl, hF⟩ hn8
  rw [sbT_fin] at hF
  have hFs := hF.sv
  refine kp_mem (A' := Mem [(w8, Fr n8), (w, All)] [.box bc [ra, oa] 33, .own ra 3 1 Eng.encI ys]) (fun _ h => h.dropB1.sel [4, 5] rfl (by decide)) ?_
  refine gO_ ?_
  refine wl_gyes (by rfl) (by rfl) (by simp only [dc_eq, hyl, show (1 : Int).toNat = 1 from rfl, hy1]; rfl) ?_
  refine wl_fx (fx_lit (next := ?_))
  intro v76 hv76
  refine gO_ ?_
  refine wl_gx (h := gx_call (spec := fun _ w' hw => alike_spec uf v76 [1, 0] [1, 0] w' (hw.now hF (.head _)) (hw.lend (.head _)))) (next := ?_)
  refine gO_ ?_
  refine pur_ret Try.results12 (.tmp rfl .nil) (.tail _ (.head _)) fun w' hw => ?_
  simp only [dc_eq, hyl, show (1 : Int).toNat = 1 from rfl, hy1]
  rfl
end Go.Proofs.Ytdpcdbepeemflaa
