/- Maps from int: made, filled, read; pointers that are not nil; functions held against nil. -/
import Derived.Test.YtifgncgiiojikaaGreatDoorG02
set_option linter.unusedSimpArgs false
set_option linter.unusedVariables false
namespace Go.Eng
open Go Go.RowKit
def mapE (r : Nat) (es : List MapEntry) (k : Nat) : Ent := .gen [r] fun w => w.heap[r]? = some (.map es.toArray k)
theorem mapE_ok {r k : Nat} {es : List MapEntry} {w : World} (h : w.heap[r]? = some (.map es.toArray k)) : (mapE r es k).ok w := fun w' h' => (h' r (by simp)).trans h
theorem mapE_heap {r k : Nat} {es : List MapEntry} {w : World} (h : (mapE r es k).ok w) : w.heap[r]? = some (.map es.toArray k) := h w fun _ _ => rfl
theorem run_ck {P : Program} {w : World} {kt : TypeId} {x : Int} (hd : P.underlying kt = some (.int .i64)) (e : Bool) (n : Nat) : (Instr.checkKey e (n + 1) kt (.int .i64 x)).run P w = .ok () w := by
  unfold Instr.checkKey
  simp only [Sem.run_bind, run_underlying hd, Result.andThen]
  rfl
theorem run_ck10 {P : Program} {w : World} {kt : TypeId} {x : Int} (hd : P.underlying kt = some (.int .i64)) (e : Bool) : (Instr.checkKey e 10000 kt (.int .i64 x)).run P w = .ok () w := run_ck hd e 9999
theorem run_fk {P : Program} {w : World} {kt : TypeId} {k : Value} {l : List MapEntry} {a : Option (Nat × Value)} (hd : P.underlying kt = some (.int .i64)) (h : Instr.findNow (.int .i64) k l 0 = some a) : (Instr.findKey kt k l).run P w = .ok a w := by
  simp [Instr.findKey, run_underlying hd, Result.andThen, h]
theorem run_gm {P : Program} {w : World} {r : Nat} {es : Array MapEntry} {k : Nat} (hb : w.heap[r]? = some (.map es k)) : (getObj r).run P w = .ok (.map es k) w := by simp [getObj, Sem.run, hb]
theorem run_sm {P : Program} {w : World} {r : Nat} {es : Array MapEntry} {k : Nat} (o : Obj) (hb : w.heap[r]? = some (.map es k)) : (setObj r o).run P w = .ok () { w with heap := w.heap.setIfInBounds r o } := by simp [setObj, Sem.run, hb]
theorem run_mm {P : Program} (t : TypeId) (w : World) : (Instr.makeMap t none).run P w = .ok (.map (some w.heap.size)) (w.alloc (.map #[] 0)) := rfl
section
variable {P : Program} {N : Nat} {tm : Tm} {bs : List Base} {H : List Ent} {K : Act → World → Prop} {Q : Exit → Act → World → Prop} {A : World → Prop} {c : Bool}
theorem fx_makeMap {d : Nat} {t : TypeId} (hd : Nat.blt d N = true := by rfl)
    (next : ∀ r, KP N K ((d, true, .map (some r)) :: tm) (Mem bs (mapE r [] 0 :: H))) : FX P N (.makeMap t none) (some d) Q tm (Mem bs H) K := by
  unfold FX KP at *
  intro a w ty pos aft g hs hw
  unfold Oper.wp
  have hr : (execOp a.eval ⟨some d, .makeMap t none, ty, pos, aft, g⟩).run P w = .ok (.value (.map (some w.heap.size))) (w.alloc (.map #[] 0)) := by
    simp only [execOp, Option.map_none, Sem.run_bind, run_mm, Result.andThen]
    rfl
  rw [hr]
  refine next _ _ _ (by simpa using hs.put (Nat.ble_eq.mp hd) true _) (hw.new rfl rfl rfl (by simp) (fun k hk => heap_alloc_old w _ hk) (mapE_ok (heap_alloc_new w _)) (fun k hk => ?_) (fun k hk => ?_))
  · simp only [mapE, Ent.fp, List.mem_singleton] at hk; subst hk; simp
  · simp only [mapE, Ent.fp, List.mem_singleton] at hk; omega

theorem fx_insert {t kt et r k i : Nat} {n : Int} {v : Value} {es : List MapEntry} {m x y : Operand} [ht : TU P t (.map kt et)] [hk : TU P kt (.int .i64)]
    (hm : EV tm true m (.map (some r)) := by exact ⟨_, rfl, fun _ => rfl⟩) (hx : EV tm true x (.int .i64 n) := by exact ⟨_, rfl, fun _ => rfl⟩) (hy : EV tm true y v := by exact ⟨_, rfl, fun _ => rfl⟩)
    (hi : H[i]? = some (mapE r es k)) (hf : Instr.findNow (.int .i64) (.int .i64 n) es 0 = some none := by rfl)
    (next : KP N K tm (Mem bs (H.set i (mapE r (es ++ [⟨.int .i64 n, v, k⟩]) (k + 1))))) : FX P N (.insert t m x y) none Q tm (Mem bs H) K := by
  unfold FX KP at *
  intro a w ty pos aft g hs hw
  unfold Oper.wp
  have hb := mapE_heap (hw.own _ (List.mem_of_getElem? hi))
  have hrl : r < w.heap.size := by
    rcases Nat.lt_or_ge r w.heap.size with q | q
    · exact q
    · rw [Array.getElem?_eq_none q] at hb; cases hb
  have hr : (execOp a.eval ⟨none, .insert t m x y, ty, pos, aft, g⟩).run P w = .ok .skip { w with heap := w.heap.setIfInBounds r (.map (es.toArray.push ⟨.int .i64 n, v, k⟩) (k + 1)) } := by
    simp [execOp, hm.get hs rfl, hx.get hs rfl, hy.get hs rfl, Instr.mapUpdate, run_underlying ht.h, run_gm hb, run_ck10 hk.h, run_fk hk.h hf, run_sm _ hb, Result.andThen]
  rw [hr]
  refine next a _ hs (hw.upd hi rfl rfl rfl (by simp) (fun j _ hj => ?_) (mapE_ok ?_) (fun j hj => ?_) (fun j hj => .inl hj))
  · simp only [mapE, Ent.fp, List.mem_singleton] at hj
    simp [Array.getElem?_setIfInBounds, show ¬ r = j from fun e => hj e.symm]
  · simp [hrl]
  · simp only [mapE, Ent.fp, List.mem_singleton] at hj; subst hj; simpa using hrl

theorem qy_lookup_some {t kt et r k j : Nat} {n : Int} {v : Value} {es : List MapEntry} {m x : Operand} [ht : TU P t (.map kt et)] [hk : TU P kt (.int .i64)]
    (hm : EV tm c m (.map (some r))) (hx : EV tm c x (.int .i64 n)) (hmem : mapE r es k ∈ H) (hf : Instr.findNow (.int .i64) (.int .i64 n) es 0 = some (some (j, v))) : QY P N (.lookup t m x false) tm (Mem bs H) c v := by
  unfold QY
  intro hc a w d ty pos aft g hsim hw
  have hb := mapE_heap (hw.own _ hmem)
  simp only [execOp, hm.get hsim hc, hx.get hsim hc]
  refine run_v ?_
  simp [Instr.lookup, run_underlying ht.h, run_gm hb, run_ck10 hk.h, run_fk hk.h hf, Result.andThen]
theorem qy_lookup_none {t kt et r k sz b : Nat} {n : Int} {z : Value} {es : List MapEntry} {m x : Operand} [ht : TU P t (.map kt et)] [hk : TU P kt (.int .i64)] [hE : TE P et sz b z]
    (hm : EV tm c m (.map (some r))) (hx : EV tm c x (.int .i64 n)) (hmem : mapE r es k ∈ H) (hf : Instr.findNow (.int .i64) (.int .i64 n) es 0 = some none) : QY P N (.lookup t m x false) tm (Mem bs H) c z := by
  unfold QY
  intro hc a w d ty pos aft g hsim hw
  have hb := mapE_heap (hw.own _ hmem)
  obtain ⟨i, hi, _, _, hz⟩ := hE.h
  simp only [execOp, hm.get hsim hc, hx.get hsim hc]
  refine run_v ?_
  simp [Instr.lookup, run_underlying ht.h, run_gm hb, run_ck10 hk.h, run_fk hk.h hf, Result.andThen, zeroValue, typeInfo, hi, hz]
theorem qy_nilCheck {x : Operand} {a' : Addr} (hx : EV tm c x (.pointer (some a')) := by first | exact ⟨_, rfl, fun _ => rfl⟩ | exact ⟨_, rfl, fun h => h⟩ | exact ⟨_, rfl, and_l⟩) : QY P N (.nilCheck x) tm A c (.pointer (some a')) := by
  unfold QY
  intro hc a w d ty pos aft g hsim hw
  simp only [execOp, hx.get hsim hc]
  simp
end
end Go.Eng
