/- The walks: rvwmo's ways, rule, ppo, happens (printed by gen_rv3.py). -/
import Derived.Test.YtifgncgiiojikaaGreatDoorRvC
set_option linter.unusedSimpArgs false
set_option linter.unusedVariables false
namespace Go.Eng
open Go
theorem fx_q {P : Program} {N d : Nat} {op : Op} {Q : Exit → Act → World → Prop} {tm : Tm} {A : World → Prop} {K : Act → World → Prop} {v : Value} (h : QY P N op tm A true v) (next : KP N K ((d, true, v) :: tm) A) (hd : Nat.blt d N = true := by rfl) : FX P N op (some d) Q tm A K := by
  unfold FX KP QY at *
  intro a w ty pos aft g hs hw
  unfold Oper.wp
  rw [h rfl a w _ _ _ _ _ hs hw]
  exact next _ _ (by simpa using hs.put (Nat.ble_eq.mp hd) true v) hw
theorem qy_neFn {P : Program} {N : Nat} {tm : Tm} {A : World → Prop} {c : Bool} {t t' : TypeId} {x y : Operand} {fn : Fn} {xa xb : Array Value} {ps rs : Array TypeId} {vr : Bool} (ht : P.underlying t = some (.func ps rs vr)) (hx : EV tm c x (.func fn xa xb)) (hy : EV tm c y .nilFunc) : QY P N (.binOp .neq t x y t') tm A c (.bool true) := by
  unfold QY
  intro hc a w d ty pos aft g hsim hw
  simp only [execOp, hx.get hsim hc, hy.get hsim hc]
  have hg : (eqGuard .neq t x y (.func fn xa xb) .nilFunc).run P w = .ok () w := rfl
  have h : ∀ d : Nat, (Op.equalIn (d + 1) t (.func fn xa xb) .nilFunc).run P w = .ok false w := fun d => by simp [Op.equalIn, run_underlying ht]
  have hb : (binOp .neq t (.func fn xa xb) .nilFunc).run P w = .ok (.bool true) w := by
    simp only [binOp]
    simp [Op.equal, Op.maxDepth, h 9999]
  simp [hg, hb]
theorem qy_neNil {P : Program} {N : Nat} {tm : Tm} {A : World → Prop} {c : Bool} {t t' : TypeId} {x y : Operand} {ps rs : Array TypeId} {vr : Bool} (ht : P.underlying t = some (.func ps rs vr)) (hx : EV tm c x .nilFunc) (hy : EV tm c y .nilFunc) : QY P N (.binOp .neq t x y t') tm A c (.bool false) := by
  unfold QY
  intro hc a w d ty pos aft g hsim hw
  simp only [execOp, hx.get hsim hc, hy.get hsim hc]
  have hg : (eqGuard .neq t x y .nilFunc .nilFunc).run P w = .ok () w := rfl
  have h : ∀ d : Nat, (Op.equalIn (d + 1) t .nilFunc .nilFunc).run P w = .ok true w := fun d => by simp [Op.equalIn, run_underlying ht]
  have hb : (binOp .neq t .nilFunc .nilFunc).run P w = .ok (.bool false) w := by
    simp only [binOp]
    simp [Op.equal, Op.maxDepth, h 9999]
  simp [hg, hb]
end Go.Eng
namespace Go.Proofs.YtifgncgiiojikaaGreatDoor
open Go Go.Eng Go.Tc Go.Rl Go.Vw
attribute [local irreducible] wpList Code.wp bodyPost Exit.then Exit.inBlock Calls
instance : TU Tryz.prog 133 (.map 3 132) := ⟨Tryz.underlying133⟩
def wayL : List MapEntry := [⟨.int .i64 1, .func (.func 99) #[] #[], 0⟩, ⟨.int .i64 2, .func (.func 100) #[] #[], 1⟩, ⟨.int .i64 4, .func (.func 101) #[] #[], 2⟩, ⟨.int .i64 9, .func (.func 102) #[] #[], 3⟩, ⟨.int .i64 10, .func (.func 103) #[] #[], 4⟩, ⟨.int .i64 11, .func (.func 104) #[] #[], 5⟩, ⟨.int .i64 12, .func (.func 105) #[] #[], 6⟩, ⟨.int .i64 13, .func (.func 106) #[] #[], 7⟩]

set_option maxHeartbeats 3200000 in
theorem ways_spec (w : World) : Mk Tryz.prog 91 [] w fun _ v es _ => ∃ r, v = .map (some r) ∧ es = [mapE r wayL 8] := by
  refine enter_mk Tryz.func91 Tryz.ntmps91 rfl rfl ?_
  refine gO_ ?_
  refine wl_fx (fx_makeMap (next := ?_))
  intro r
  refine gO_ ?_
  refine wl_fx (fx_insert (i := 0) (hi := rfl) (next := ?_))
  refine gO_ ?_
  refine wl_fx (fx_insert (i := 0) (hi := rfl) (next := ?_))
  refine gO_ ?_
  refine wl_fx (fx_insert (i := 0) (hi := rfl) (next := ?_))
  refine gO_ ?_
  refine wl_fx (fx_insert (i := 0) (hi := rfl) (next := ?_))
  refine gO_ ?_
  refine wl_fx (fx_insert (i := 0) (hi := rfl) (next := ?_))
  refine gO_ ?_
  refine wl_fx (fx_insert (i := 0) (hi := rfl) (next := ?_))
  refine gO_ ?_
  refine wl_fx (fx_insert (i := 0) (hi := rfl) (next := ?_))
  refine gO_ ?_
  refine wl_fx (fx_insert (i := 0) (hi := rfl) (next := ?_))
  refine gO_ ?_
  exact mk_ret Tryz.results91 (.tmp rfl .nil) (.head _) [_] [0] rfl (by decide) fun w' hw => ⟨r, rfl, rfl⟩

theorem pair_po {t : Tr} (ht : trOk t = true) {l : List Pair} {w : Bool} (h : pairedB t l w = true) {a b : Nat} (ha : a < t.evs.length) (hb : b < t.evs.length) : (poP t a b && memb l a b) = memb l a b := by
  cases hm : memb l a b
  · rw [Bool.and_false]
  · obtain ⟨h1, h2, _, h4⟩ := pair_fact h hm
    rw [po_lt ht ha hb, decide_eq_true h1, h4]; rfl
/-- what a rule answers with: one of the relations that are known, or one of its own -/
def RuleAt (m : Nat) (w' : World) (sf sa sd : Value) (t : Tr) (c : Cd) (k : Nat) (s : Value) : Prop :=
  (k = 4 ∧ s = sf) ∨ (k = 9 ∧ s = sa) ∨ (k = 10 ∧ s = sd) ∨ Sl (Fr m) w' encW 1 s (relOf t.evs.length (ruleP t c k))
theorem RuleAt.now {lv iv ev bv av dv cv tv nv fv ov s1 s2 s3 s4 s5 s6 s7 s8 s9 sf sa sd sc : Value} {t : Tr} {c : Cd} {ba : Nat} {w w1 w2 : World} {m k : Nat} {s : Value} {bs : List Base} {H : List Ent} (h : AkIn w ba lv iv ev bv av dv cv tv nv fv ov s1 s2 s3 s4 s5 s6 s7 s8 s9 sf sa sd sc t c) (hR : RuleAt m w1 sf sa sd t c k s) (hw : Mem bs H w2) (h1 : (w1, Fr m) ∈ bs) (h2 : (w, All) ∈ bs) : Sl All w2 encW 1 s (relOf t.evs.length (ruleP t c k)) := by
  have ht := (cdE_ok h.z).1
  obtain ⟨g1, g2, g3⟩ := trOk_pairs ht
  rcases hR with ⟨rfl, rfl⟩ | ⟨rfl, rfl⟩ | ⟨rfl, rfl⟩ | hR
  · have e := relOf_ext (m := t.evs.length) (p := _) (q := ruleP t c ((4 : Nat) : Int)) fun a b _ _ => rfl
    rw [← e]; exact hw.now h.rf h2
  · have e := relOf_ext (m := t.evs.length) (p := fun a b => memb t.addr a b) (q := ruleP t c ((9 : Nat) : Int)) fun a b ha hb => (pair_po ht g1 ha hb).symm
    rw [← e]; exact hw.now h.ra h2
  · have e := relOf_ext (m := t.evs.length) (p := fun a b => memb t.data a b) (q := ruleP t c ((10 : Nat) : Int)) fun a b ha hb => (pair_po ht g2 ha hb).symm
    rw [← e]; exact hw.now h.rd h2
  · exact hw.now hR h1

set_option maxHeartbeats 12800000 in
theorem rvrule_spec {lv iv ev bv av dv cv tv nv fv ov s1 s2 s3 s4 s5 s6 s7 s8 s9 sf sa sd sc : Value} {t : Tr} {c : Cd} {ba : Nat} (k : Nat) (w : World) (h : AkIn w ba lv iv ev bv av dv cv tv nv fv ov s1 s2 s3 s4 s5 s6 s7 s8 s9 sf sa sd sc t c) (hk1 : 1 ≤ k) (hk2 : k ≤ 13) :
    Pur Tryz.prog 73 [.pointer (some ⟨ba, 0, none⟩), .int .i64 k] w fun m v w' => ∃ s, SV s ∧ v = .agg #[.int .i64 t.evs.length, s] ∧ RuleAt m w' sf sa sd t c k s := by
  have hsf := h.rf.sv
  have hsa := h.ra.sv
  have hsd := h.rd.sv
  refine enter_pur Tryz.func73 Tryz.ntmps73 rfl rfl ?_
  refine gO_ ?_
  refine wl_fx (fx_alloc (next := ?_)); intro b4
  refine gO_ ?_
  refine wl_fx (fx_call_mk (spec := fun w' hw => ways_spec w') (next := ?_))
  rintro v n1 es w1 ⟨r, rfl, rfl⟩
  refine gO_ ?_
  obtain rfl | rfl | rfl | rfl | rfl | rfl | rfl | rfl | rfl | rfl | rfl | rfl | rfl : k = 1 ∨ k = 2 ∨ k = 3 ∨ k = 4 ∨ k = 5 ∨ k = 6 ∨ k = 7 ∨ k = 8 ∨ k = 9 ∨ k = 10 ∨ k = 11 ∨ k = 12 ∨ k = 13 := by omega
  · refine wl_a (v := .func (.func 99) #[] #[]) (h := ?_) (next := ?_)
    · exact qy_lookup_some (r := r) (k := 8) (es := wayL) (hm := ⟨_, rfl, fun _ => rfl⟩) (hx := ⟨_, rfl, fun _ => rfl⟩) (hmem := .head _) (hf := rfl)
    refine gO_ ?_
    refine wl_a (v := .bool true) (h := ?_) (next := ?_)
    · exact qy_neFn Tryz.underlying132 ⟨_, rfl, fun _ => rfl⟩ ⟨_, rfl, fun _ => rfl⟩
    refine gO_ ?_
    refine wc_cond rfl (fun h1 => ?_) (fun h1 => ?_)
    · refine gO_ ?_
      refine wl_fx (fx_call_mk (k := 99) (first := []) (cap := []) (spec := fun w' hw => rvover_spec w' (h.now hw (.tail _ (.head _)))) (next := ?_))
      rintro v n2 es w2 ⟨s, hs, rfl, rfl⟩
      refine gO_ ?_
      refine wl_fx (fx_store_box (i := 2) (hi := rfl) (next := ?_))
      refine gO_ ?_
      exact pur_ret Tryz.results73 (.cellN inferInstance rfl (.tail _ (.tail _ (.head _))) rfl .nil) (.tail _ (.tail _ (.head _))) fun w' hw => ⟨s, hs, rfl, .inr (.inr (.inr (hw.give (.head _) (.tail _ (.tail _ (.head _))))))⟩
    · cases h1
  · refine wl_a (v := .func (.func 100) #[] #[]) (h := ?_) (next := ?_)
    · exact qy_lookup_some (r := r) (k := 8) (es := wayL) (hm := ⟨_, rfl, fun _ => rfl⟩) (hx := ⟨_, rfl, fun _ => rfl⟩) (hmem := .head _) (hf := rfl)
    refine gO_ ?_
    refine wl_a (v := .bool true) (h := ?_) (next := ?_)
    · exact qy_neFn Tryz.underlying132 ⟨_, rfl, fun _ => rfl⟩ ⟨_, rfl, fun _ => rfl⟩
    refine gO_ ?_
    refine wc_cond rfl (fun h1 => ?_) (fun h1 => ?_)
    · refine gO_ ?_
      refine wl_fx (fx_call_mk (k := 100) (first := []) (cap := []) (spec := fun w' hw => rvunlike_spec w' (h.now hw (.tail _ (.head _)))) (next := ?_))
      rintro v n2 es w2 ⟨s, hs, rfl, rfl⟩
      refine gO_ ?_
      refine wl_fx (fx_store_box (i := 2) (hi := rfl) (next := ?_))
      refine gO_ ?_
      exact pur_ret Tryz.results73 (.cellN inferInstance rfl (.tail _ (.tail _ (.head _))) rfl .nil) (.tail _ (.tail _ (.head _))) fun w' hw => ⟨s, hs, rfl, .inr (.inr (.inr (hw.give (.head _) (.tail _ (.tail _ (.head _))))))⟩
    · cases h1
  · refine wl_a (v := .nilFunc) (h := ?_) (next := ?_)
    · exact qy_lookup_none (r := r) (k := 8) (es := wayL) (hm := ⟨_, rfl, fun _ => rfl⟩) (hx := ⟨_, rfl, fun _ => rfl⟩) (hmem := .head _) (hf := rfl)
    refine gO_ ?_
    refine wl_a (v := .bool false) (h := ?_) (next := ?_)
    · exact qy_neNil Tryz.underlying132 ⟨_, rfl, fun _ => rfl⟩ ⟨_, rfl, fun _ => rfl⟩
    refine gO_ ?_
    refine wc_cond rfl (fun h1 => ?_) (fun h1 => ?_)
    · cases h1
    · refine gO_ ?_
      refine wl_fx (fx_call_mk (spec := fun w' hw => rvnone_spec w' (h.now hw (.tail _ (.head _)))) (next := ?_))
      rintro v n2 es w2 ⟨s, hs, rfl, rfl⟩
      refine gO_ ?_
      refine wl_fx (fx_store_box (i := 2) (hi := rfl) (next := ?_))
      refine gO_ ?_
      exact pur_ret Tryz.results73 (.cellN inferInstance rfl (.tail _ (.tail _ (.head _))) rfl .nil) (.tail _ (.tail _ (.head _))) fun w' hw => ⟨s, hs, rfl, .inr (.inr (.inr (hw.give (.head _) (.tail _ (.tail _ (.head _))))))⟩
  · refine wl_a (v := .func (.func 101) #[] #[]) (h := ?_) (next := ?_)
    · exact qy_lookup_some (r := r) (k := 8) (es := wayL) (hm := ⟨_, rfl, fun _ => rfl⟩) (hx := ⟨_, rfl, fun _ => rfl⟩) (hmem := .head _) (hf := rfl)
    refine gO_ ?_
    refine wl_a (v := .bool true) (h := ?_) (next := ?_)
    · exact qy_neFn Tryz.underlying132 ⟨_, rfl, fun _ => rfl⟩ ⟨_, rfl, fun _ => rfl⟩
    refine gO_ ?_
    refine wc_cond rfl (fun h1 => ?_) (fun h1 => ?_)
    · refine gO_ ?_
      refine wl_fx (fx_call (k := 101) (first := []) (cap := []) (spec := fun w' hw => rvfences_spec w' (h.now hw (.tail _ (.head _)))) (next := ?_))
      rintro v n2 w2 rfl hn2
      refine gO_ ?_
      refine wl_fx (fx_store_box (i := 1) (hi := rfl) (next := ?_))
      refine gO_ ?_
      exact pur_ret Tryz.results73 (.cellN inferInstance rfl (.tail _ (.head _)) rfl .nil) (.tail _ (.tail _ (.head _))) fun w' hw => ⟨sf, hsf, rfl, .inl ⟨rfl, rfl⟩⟩
    · cases h1
  · refine wl_a (v := .nilFunc) (h := ?_) (next := ?_)
    · exact qy_lookup_none (r := r) (k := 8) (es := wayL) (hm := ⟨_, rfl, fun _ => rfl⟩) (hx := ⟨_, rfl, fun _ => rfl⟩) (hmem := .head _) (hf := rfl)
    refine gO_ ?_
    refine wl_a (v := .bool false) (h := ?_) (next := ?_)
    · exact qy_neNil Tryz.underlying132 ⟨_, rfl, fun _ => rfl⟩ ⟨_, rfl, fun _ => rfl⟩
    refine gO_ ?_
    refine wc_cond rfl (fun h1 => ?_) (fun h1 => ?_)
    · cases h1
    · refine gO_ ?_
      refine wl_fx (fx_call_mk (spec := fun w' hw => rvnone_spec w' (h.now hw (.tail _ (.head _)))) (next := ?_))
      rintro v n2 es w2 ⟨s, hs, rfl, rfl⟩
      refine gO_ ?_
      refine wl_fx (fx_store_box (i := 2) (hi := rfl) (next := ?_))
      refine gO_ ?_
      exact pur_ret Tryz.results73 (.cellN inferInstance rfl (.tail _ (.tail _ (.head _))) rfl .nil) (.tail _ (.tail _ (.head _))) fun w' hw => ⟨s, hs, rfl, .inr (.inr (.inr (hw.give (.head _) (.tail _ (.tail _ (.head _))))))⟩
  · refine wl_a (v := .nilFunc) (h := ?_) (next := ?_)
    · exact qy_lookup_none (r := r) (k := 8) (es := wayL) (hm := ⟨_, rfl, fun _ => rfl⟩) (hx := ⟨_, rfl, fun _ => rfl⟩) (hmem := .head _) (hf := rfl)
    refine gO_ ?_
    refine wl_a (v := .bool false) (h := ?_) (next := ?_)
    · exact qy_neNil Tryz.underlying132 ⟨_, rfl, fun _ => rfl⟩ ⟨_, rfl, fun _ => rfl⟩
    refine gO_ ?_
    refine wc_cond rfl (fun h1 => ?_) (fun h1 => ?_)
    · cases h1
    · refine gO_ ?_
      refine wl_fx (fx_call_mk (spec := fun w' hw => rvnone_spec w' (h.now hw (.tail _ (.head _)))) (next := ?_))
      rintro v n2 es w2 ⟨s, hs, rfl, rfl⟩
      refine gO_ ?_
      refine wl_fx (fx_store_box (i := 2) (hi := rfl) (next := ?_))
      refine gO_ ?_
      exact pur_ret Tryz.results73 (.cellN inferInstance rfl (.tail _ (.tail _ (.head _))) rfl .nil) (.tail _ (.tail _ (.head _))) fun w' hw => ⟨s, hs, rfl, .inr (.inr (.inr (hw.give (.head _) (.tail _ (.tail _ (.head _))))))⟩
  · refine wl_a (v := .nilFunc) (h := ?_) (next := ?_)
    · exact qy_lookup_none (r := r) (k := 8) (es := wayL) (hm := ⟨_, rfl, fun _ => rfl⟩) (hx := ⟨_, rfl, fun _ => rfl⟩) (hmem := .head _) (hf := rfl)
    refine gO_ ?_
    refine wl_a (v := .bool false) (h := ?_) (next := ?_)
    · exact qy_neNil Tryz.underlying132 ⟨_, rfl, fun _ => rfl⟩ ⟨_, rfl, fun _ => rfl⟩
    refine gO_ ?_
    refine wc_cond rfl (fun h1 => ?_) (fun h1 => ?_)
    · cases h1
    · refine gO_ ?_
      refine wl_fx (fx_call_mk (spec := fun w' hw => rvnone_spec w' (h.now hw (.tail _ (.head _)))) (next := ?_))
      rintro v n2 es w2 ⟨s, hs, rfl, rfl⟩
      refine gO_ ?_
      refine wl_fx (fx_store_box (i := 2) (hi := rfl) (next := ?_))
      refine gO_ ?_
      exact pur_ret Tryz.results73 (.cellN inferInstance rfl (.tail _ (.tail _ (.head _))) rfl .nil) (.tail _ (.tail _ (.head _))) fun w' hw => ⟨s, hs, rfl, .inr (.inr (.inr (hw.give (.head _) (.tail _ (.tail _ (.head _))))))⟩
  · refine wl_a (v := .nilFunc) (h := ?_) (next := ?_)
    · exact qy_lookup_none (r := r) (k := 8) (es := wayL) (hm := ⟨_, rfl, fun _ => rfl⟩) (hx := ⟨_, rfl, fun _ => rfl⟩) (hmem := .head _) (hf := rfl)
    refine gO_ ?_
    refine wl_a (v := .bool false) (h := ?_) (next := ?_)
    · exact qy_neNil Tryz.underlying132 ⟨_, rfl, fun _ => rfl⟩ ⟨_, rfl, fun _ => rfl⟩
    refine gO_ ?_
    refine wc_cond rfl (fun h1 => ?_) (fun h1 => ?_)
    · cases h1
    · refine gO_ ?_
      refine wl_fx (fx_call_mk (spec := fun w' hw => rvnone_spec w' (h.now hw (.tail _ (.head _)))) (next := ?_))
      rintro v n2 es w2 ⟨s, hs, rfl, rfl⟩
      refine gO_ ?_
      refine wl_fx (fx_store_box (i := 2) (hi := rfl) (next := ?_))
      refine gO_ ?_
      exact pur_ret Tryz.results73 (.cellN inferInstance rfl (.tail _ (.tail _ (.head _))) rfl .nil) (.tail _ (.tail _ (.head _))) fun w' hw => ⟨s, hs, rfl, .inr (.inr (.inr (hw.give (.head _) (.tail _ (.tail _ (.head _))))))⟩
  · refine wl_a (v := .func (.func 102) #[] #[]) (h := ?_) (next := ?_)
    · exact qy_lookup_some (r := r) (k := 8) (es := wayL) (hm := ⟨_, rfl, fun _ => rfl⟩) (hx := ⟨_, rfl, fun _ => rfl⟩) (hmem := .head _) (hf := rfl)
    refine gO_ ?_
    refine wl_a (v := .bool true) (h := ?_) (next := ?_)
    · exact qy_neFn Tryz.underlying132 ⟨_, rfl, fun _ => rfl⟩ ⟨_, rfl, fun _ => rfl⟩
    refine gO_ ?_
    refine wc_cond rfl (fun h1 => ?_) (fun h1 => ?_)
    · refine gO_ ?_
      refine wl_fx (fx_call (k := 102) (first := []) (cap := []) (spec := fun w' hw => rvaddresses_spec w' (h.now hw (.tail _ (.head _)))) (next := ?_))
      rintro v n2 w2 rfl hn2
      refine gO_ ?_
      refine wl_fx (fx_store_box (i := 1) (hi := rfl) (next := ?_))
      refine gO_ ?_
      exact pur_ret Tryz.results73 (.cellN inferInstance rfl (.tail _ (.head _)) rfl .nil) (.tail _ (.tail _ (.head _))) fun w' hw => ⟨sa, hsa, rfl, .inr (.inl ⟨rfl, rfl⟩)⟩
    · cases h1
  · refine wl_a (v := .func (.func 103) #[] #[]) (h := ?_) (next := ?_)
    · exact qy_lookup_some (r := r) (k := 8) (es := wayL) (hm := ⟨_, rfl, fun _ => rfl⟩) (hx := ⟨_, rfl, fun _ => rfl⟩) (hmem := .head _) (hf := rfl)
    refine gO_ ?_
    refine wl_a (v := .bool true) (h := ?_) (next := ?_)
    · exact qy_neFn Tryz.underlying132 ⟨_, rfl, fun _ => rfl⟩ ⟨_, rfl, fun _ => rfl⟩
    refine gO_ ?_
    refine wc_cond rfl (fun h1 => ?_) (fun h1 => ?_)
    · refine gO_ ?_
      refine wl_fx (fx_call (k := 103) (first := []) (cap := []) (spec := fun w' hw => rvvalues_spec w' (h.now hw (.tail _ (.head _)))) (next := ?_))
      rintro v n2 w2 rfl hn2
      refine gO_ ?_
      refine wl_fx (fx_store_box (i := 1) (hi := rfl) (next := ?_))
      refine gO_ ?_
      exact pur_ret Tryz.results73 (.cellN inferInstance rfl (.tail _ (.head _)) rfl .nil) (.tail _ (.tail _ (.head _))) fun w' hw => ⟨sd, hsd, rfl, .inr (.inr (.inl ⟨rfl, rfl⟩))⟩
    · cases h1
  · refine wl_a (v := .func (.func 104) #[] #[]) (h := ?_) (next := ?_)
    · exact qy_lookup_some (r := r) (k := 8) (es := wayL) (hm := ⟨_, rfl, fun _ => rfl⟩) (hx := ⟨_, rfl, fun _ => rfl⟩) (hmem := .head _) (hf := rfl)
    refine gO_ ?_
    refine wl_a (v := .bool true) (h := ?_) (next := ?_)
    · exact qy_neFn Tryz.underlying132 ⟨_, rfl, fun _ => rfl⟩ ⟨_, rfl, fun _ => rfl⟩
    refine gO_ ?_
    refine wc_cond rfl (fun h1 => ?_) (fun h1 => ?_)
    · refine gO_ ?_
      refine wl_fx (fx_call_mk (k := 104) (first := []) (cap := []) (spec := fun w' hw => rvbranches_spec w' (h.now hw (.tail _ (.head _)))) (next := ?_))
      rintro v n2 es w2 ⟨s, hs, rfl, rfl⟩
      refine gO_ ?_
      refine wl_fx (fx_store_box (i := 2) (hi := rfl) (next := ?_))
      refine gO_ ?_
      exact pur_ret Tryz.results73 (.cellN inferInstance rfl (.tail _ (.tail _ (.head _))) rfl .nil) (.tail _ (.tail _ (.head _))) fun w' hw => ⟨s, hs, rfl, .inr (.inr (.inr (hw.give (.head _) (.tail _ (.tail _ (.head _))))))⟩
    · cases h1
  · refine wl_a (v := .func (.func 105) #[] #[]) (h := ?_) (next := ?_)
    · exact qy_lookup_some (r := r) (k := 8) (es := wayL) (hm := ⟨_, rfl, fun _ => rfl⟩) (hx := ⟨_, rfl, fun _ => rfl⟩) (hmem := .head _) (hf := rfl)
    refine gO_ ?_
    refine wl_a (v := .bool true) (h := ?_) (next := ?_)
    · exact qy_neFn Tryz.underlying132 ⟨_, rfl, fun _ => rfl⟩ ⟨_, rfl, fun _ => rfl⟩
    refine gO_ ?_
    refine wc_cond rfl (fun h1 => ?_) (fun h1 => ?_)
    · refine gO_ ?_
      refine wl_fx (fx_call_mk (k := 105) (first := []) (cap := []) (spec := fun w' hw => rvpassed_spec w' (h.now hw (.tail _ (.head _)))) (next := ?_))
      rintro v n2 es w2 ⟨s, hs, rfl, rfl⟩
      refine gO_ ?_
      refine wl_fx (fx_store_box (i := 2) (hi := rfl) (next := ?_))
      refine gO_ ?_
      exact pur_ret Tryz.results73 (.cellN inferInstance rfl (.tail _ (.tail _ (.head _))) rfl .nil) (.tail _ (.tail _ (.head _))) fun w' hw => ⟨s, hs, rfl, .inr (.inr (.inr (hw.give (.head _) (.tail _ (.tail _ (.head _))))))⟩
    · cases h1
  · refine wl_a (v := .func (.func 106) #[] #[]) (h := ?_) (next := ?_)
    · exact qy_lookup_some (r := r) (k := 8) (es := wayL) (hm := ⟨_, rfl, fun _ => rfl⟩) (hx := ⟨_, rfl, fun _ => rfl⟩) (hmem := .head _) (hf := rfl)
    refine gO_ ?_
    refine wl_a (v := .bool true) (h := ?_) (next := ?_)
    · exact qy_neFn Tryz.underlying132 ⟨_, rfl, fun _ => rfl⟩ ⟨_, rfl, fun _ => rfl⟩
    refine gO_ ?_
    refine wc_cond rfl (fun h1 => ?_) (fun h1 => ?_)
    · refine gO_ ?_
      refine wl_fx (fx_call_mk (k := 106) (first := []) (cap := []) (spec := fun w' hw => rvbehind_spec w' (h.now hw (.tail _ (.head _)))) (next := ?_))
      rintro v n2 es w2 ⟨s, hs, rfl, rfl⟩
      refine gO_ ?_
      refine wl_fx (fx_store_box (i := 2) (hi := rfl) (next := ?_))
      refine gO_ ?_
      exact pur_ret Tryz.results73 (.cellN inferInstance rfl (.tail _ (.tail _ (.head _))) rfl .nil) (.tail _ (.tail _ (.head _))) fun w' hw => ⟨s, hs, rfl, .inr (.inr (.inr (hw.give (.head _) (.tail _ (.tail _ (.head _))))))⟩
    · cases h1

theorem rulesTo_succ (t : Tr) (c : Cd) (f : Int) (n : Nat) : rulesTo t c f (n + 1) = fun a b => rulesTo t c f n a b || ruleP t c (f + n) a b := by
  funext a b
  unfold rulesTo
  rw [List.range_succ, List.any_append]; simp

set_option maxHeartbeats 6400000 in
theorem rvppo_spec {lv iv ev bv av dv cv tv nv fv ov s1 s2 s3 s4 s5 s6 s7 s8 s9 sf sa sd sc : Value} {t : Tr} {c : Cd} {ba : Nat} (w : World) (h : AkIn w ba lv iv ev bv av dv cv tv nv fv ov s1 s2 s3 s4 s5 s6 s7 s8 s9 sf sa sd sc t c) :
    Mk Tryz.prog 50 [.pointer (some ⟨ba, 0, none⟩)] w (Rel1Ψ t.evs.length (relOf t.evs.length (rvP t c))) := by
  have hb := (trOk_lens (cdE_ok h.z).1).1
  refine enter_mk Tryz.func50 Tryz.ntmps50 rfl rfl ?_
  refine gO_ ?_
  refine wl_fx (fx_alloc (next := ?_)); intro b2
  refine gO_ ?_
  refine wl_fx (fx_call_mk (spec := fun w' hw => rvnone_spec w' (h.now hw (.head _))) (next := ?_))
  rintro v n1 es w1 ⟨s0, hs0, rfl, rfl⟩
  rw [show (relOf t.evs.length fun i j => poP t i j && (fun _ _ => false) i j) = relOf t.evs.length (rulesTo t c 1 0) from relOf_ext fun a b _ _ => by unfold rulesTo; simp]
  refine gO_ ?_
  refine wl_fx (fx_alloc (next := ?_)); intro b3
  refine gO_ ?_
  refine wl_fx (fx_store_box (i := 0) (hi := rfl) (next := ?_))
  refine gO_ ?_
  refine wc_loop (fun s : Nat × Value => s.1 ≤ 13 ∧ SV s.2) (fun s => [(4, true, .int .i64 ((s.1 + 1 : Nat) : Int)), (3, true, .pointer (some ⟨b3, 0, none⟩)), (2, true, .pointer (some ⟨b2, 0, none⟩)), (0, true, .pointer (some ⟨ba, 0, none⟩))])
    (fun s => Mem [(w, All)] [.box b3 [.int .i64 t.evs.length, s.2] 60, ownW s.2 (relOf t.evs.length (rulesTo t c 1 s.1)), .box b2 [.int .i64 0, .slice none 0 0] 60]) (fun s => 13 - s.1) (0, s0) ⟨Nat.zero_le _, hs0⟩ ⟨rfl, rfl, rfl, rfl, trivial⟩ (fun _ h => h.last rfl) ?_
  rintro ⟨q, sv⟩ ⟨hq, hsv⟩
  dsimp only at hq hsv ⊢
  refine gO_ ?_
  refine wc_cond rfl (fun h1 => ?_) (fun h1 => ?_)
  · have h1' : q < 13 := by rw [dc_true] at h1; omega
    refine gO_ ?_
    refine wc_drawS (Mem [(w, All)] [.box b2 [.int .i64 0, .slice none 0 0] 60]) [1, 2, 999] mixed (fun _ h => h.sel [2] rfl (by decide)) ?_
    refine kG_ ?_
    refine kg_br2 0 3 (h1 := ?_) (h2 := ?_)
    · refine ks_f [999] _ (hSS := fun _ h => h) (h := fx_q (v := .agg #[.int .i64 t.evs.length, sv]) (h := ?_) (next := ?_))
      · exact qy_val (qy_load_boxN (b := b3) (off := 0) (n := 2) (cs := [.int .i64 t.evs.length, sv]) (hx := ⟨_, rfl, fun _ => rfl⟩) (hm := .head _)) rfl
      refine kp_S ?_ (fun _ h => h.sel [2] rfl (by decide))
      refine kg_br1 3 (h1 := ?_)
      refine ks_f [4, 5, 6, 7, 8] _ (hSS := fun _ h => h) (h := fx_call (spec := fun w' hw => rvrule_spec (q + 1) w' (h.now hw (.head _)) (by omega) (by omega)) (next := ?_))
      rintro v n2 w2 ⟨s2, hs2, rfl, hR⟩ hn2
      refine kp_S ?_ (fun _ h => h.tailB.sel [2] rfl (by decide))
      refine kg_f _ (h := fx_call_mk (spec := fun w' hw => union_ok (relOk_relOf _ (rulesTo t c 1 q) hb) (relOk_relOf _ (ruleP t c ((q + 1 : Nat) : Int)) hb) (hw.lend (.tail _ (.head _))) (hR.now h hw (.head _) (.tail _ (.head _)))) (next := ?_)) (hSS := fun _ h => h)
      rintro v n3 es w3 ⟨s3, hs3, rfl, rfl⟩
      rw [relOf_uni hb, show (fun i j => rulesTo t c 1 q i j || ruleP t c ((q + 1 : Nat) : Int) i j) = rulesTo t c 1 (q + 1) by rw [rulesTo_succ, show (1 : Int) + (q : Int) = ((q + 1 : Nat) : Int) by omega]]
      refine kp_S ?_ (fun _ h => h.tailB.tailB.sel [3] rfl (by decide))
      refine kG_ ?_
      refine kg_f _ (h := fx_store_box (i := 1) (hi := rfl) (next := ?_)) (hSS := fun _ h => h)
      refine kp_S ?_ (fun _ h => h.tailB.tailB.sel [3] rfl (by decide))
      refine kG_ ?_
      refine gO_ ?_
      exact po_loop (q + 1, s3) ⟨by dsimp only; omega, hs3⟩ (by dsimp only; omega) ⟨rfl, rfl, rfl, rfl, trivial⟩ (fun _ h => (h.last rfl).sel [1, 0, 3] rfl (by decide))
    · refine ks_f [999] _ (hSS := fun _ h => h) (h := fx_call (spec := fun w' hw => rvrule_spec (q + 1) w' (h.now hw (.head _)) (by omega) (by omega)) (next := ?_))
      rintro v n2 w2 ⟨s2, hs2, rfl, hR⟩ hn2
      refine kp_S ?_ (fun _ h => h.tailB.sel [2] rfl (by decide))
      refine kg_br1 0 (h1 := ?_)
      refine ks_f [4, 5, 6, 7, 8] _ (hSS := fun _ h => h) (h := fx_q (v := .agg #[.int .i64 t.evs.length, sv]) (h := ?_) (next := ?_))
      · exact qy_val (qy_load_boxN (b := b3) (off := 0) (n := 2) (cs := [.int .i64 t.evs.length, sv]) (hx := ⟨_, rfl, fun _ => rfl⟩) (hm := .head _)) rfl
      refine kp_S ?_ (fun _ h => h.tailB.sel [2] rfl (by decide))
      refine kg_f _ (h := fx_call_mk (spec := fun w' hw => union_ok (relOk_relOf _ (rulesTo t c 1 q) hb) (relOk_relOf _ (ruleP t c ((q + 1 : Nat) : Int)) hb) (hw.lend (.tail _ (.head _))) (hR.now h hw (.head _) (.tail _ (.head _)))) (next := ?_)) (hSS := fun _ h => h)
      rintro v n3 es w3 ⟨s3, hs3, rfl, rfl⟩
      rw [relOf_uni hb, show (fun i j => rulesTo t c 1 q i j || ruleP t c ((q + 1 : Nat) : Int) i j) = rulesTo t c 1 (q + 1) by rw [rulesTo_succ, show (1 : Int) + (q : Int) = ((q + 1 : Nat) : Int) by omega]]
      refine kp_S ?_ (fun _ h => h.tailB.tailB.sel [3] rfl (by decide))
      refine kG_ ?_
      refine kg_f _ (h := fx_store_box (i := 1) (hi := rfl) (next := ?_)) (hSS := fun _ h => h)
      refine kp_S ?_ (fun _ h => h.tailB.tailB.sel [3] rfl (by decide))
      refine kG_ ?_
      refine gO_ ?_
      exact po_loop (q + 1, s3) ⟨by dsimp only; omega, hs3⟩ (by dsimp only; omega) ⟨rfl, rfl, rfl, rfl, trivial⟩ (fun _ h => (h.last rfl).sel [1, 0, 3] rfl (by decide))
  · obtain rfl : q = 13 := by rw [dc_false] at h1; omega
    refine gO_ ?_
    refine wl_fx (fx_store_box (i := 2) (hi := rfl) (next := ?_))
    refine gO_ ?_
    exact mk_ret Tryz.results50 (.cellN inferInstance rfl (.tail _ (.tail _ (.head _))) rfl .nil) (.head _) [_] [1] rfl (by decide) fun w' hw => ⟨sv, hsv, rfl, rfl⟩

def haccP (t : Tr) (c : Cd) : Nat → Nat → Nat → Bool
  | 0 => rvP t c
  | 1 => fun i j => rvP t c i j || exP t (rfP t c) i j
  | 2 => fun i j => (rvP t c i j || exP t (rfP t c) i j) || coP t c i j
  | _ => rhP t c
theorem haccP_succ (t : Tr) (c : Cd) {i : Nat} (h : i < 3) : haccP t c (i + 1) = fun a b => haccP t c i a b || thisP t c i a b := by
  rcases i with _ | _ | _ | i
  · rfl
  · rfl
  · rfl
  · omega

set_option maxHeartbeats 6400000 in
theorem rvhapp_spec {lv iv ev bv av dv cv tv nv fv ov s1 s2 s3 s4 s5 s6 s7 s8 s9 sf sa sd sc : Value} {t : Tr} {c : Cd} {ba : Nat} (w : World) (h : AkIn w ba lv iv ev bv av dv cv tv nv fv ov s1 s2 s3 s4 s5 s6 s7 s8 s9 sf sa sd sc t c) :
    Mk Tryz.prog 27 [.pointer (some ⟨ba, 0, none⟩)] w (Rel1Ψ t.evs.length (relOf t.evs.length (rhP t c))) := by
  have hbx := h.bx
  have r4 := h.r4; have r5 := h.r5; have r7 := h.r7
  have hs4 := r4.sv; have hs5 := r5.sv; have hs7 := r7.sv
  have hb := (trOk_lens (cdE_ok h.z).1).1
  refine enter_mk Tryz.func27 Tryz.ntmps27 rfl rfl ?_
  refine gO_ ?_
  refine wl_fx (fx_alloc (next := ?_)); intro b2
  refine gO_ ?_
  refine wl_fx (fx_call_mk (spec := fun w' hw => rvppo_spec w' (h.now hw (.head _))) (next := ?_))
  rintro v n1 es w1 ⟨s0, hs0, rfl, rfl⟩
  refine gO_ ?_
  refine wl_fx (fx_alloc (next := ?_)); intro b3
  refine gO_ ?_
  refine wl_fx (fx_store_box (i := 0) (hi := rfl) (next := ?_))
  refine gO_ ?_
  refine wc_draw [0, 1, 2, 3, 4, 5, 6, 7, 8, 9, 10, 11, 12, 13, 14, 17, 15, 16] mixed ?_
  (refine kG_ ?_; repeat ((first | refine kg_a (h := qy_nilCheck) (next := ?_) | refine kg_ag (h := qy_nilCheck) (next := ?_)); refine kG_ ?_))
  refine kg_f _ (h := fx_lit (enc := encRelV) (dec := decRelV) (e := 60) (sz := 2) (len := 3) (qs := [(0, [.int .i64 t.evs.length, s4]), (1, [.int .i64 t.evs.length, s5]), (2, [.int .i64 t.evs.length, s7])]) (next := ?_)) (hSS := fun _ h => h)
  intro rv hrv
  generalize hxs : (List.map _ _ : List RelV) = xs
  have hxs : xs = [⟨t.evs.length, s4⟩, ⟨t.evs.length, s5⟩, ⟨t.evs.length, s7⟩] := hxs.symm
  have hxl : xs.length = 3 := by rw [hxs]; rfl
  have hxi : ∀ i, i < 3 → (xs.getD i default).n = t.evs.length ∧ SV (xs.getD i default).s ∧ Sl All w encW 1 (xs.getD i default).s (relOf t.evs.length (thisP t c i)) := fun i hi => by
    rw [hxs]
    rcases i with _ | _ | _ | i
    · exact ⟨rfl, hs4, r4⟩
    · exact ⟨rfl, hs5, r5⟩
    · exact ⟨rfl, hs7, r7⟩
    · omega
  refine kp_S ?_ (fun _ h => h.tail)
  refine kG_ ?_
  refine kg_f _ (h := fx_q (v := .int .i64 (3 : Nat)) (h := ?_) (next := ?_)) (hSS := fun _ h => h)
  · exact qy_val (qy_len_own (hm := .head _)) (by rw [hxl])
  refine kp_S ?_ (fun _ h => h.tail)
  refine kG_ ?_
  refine gO_ ?_
  refine wc_loop (fun s : Nat × Value => s.1 ≤ 3 ∧ SV s.2) (fun s => [(25, true, .int .i64 s.1), (24, true, .int .i64 (3 : Nat)), (23, true, rv), (3, true, .pointer (some ⟨b3, 0, none⟩)), (2, true, .pointer (some ⟨b2, 0, none⟩))])
    (fun s => Mem [(w, All)] [.own rv 60 2 encRelV xs, .box b3 [.int .i64 t.evs.length, s.2] 60, ownW s.2 (relOf t.evs.length (haccP t c s.1)), .box b2 [.int .i64 0, .slice none 0 0] 60]) (fun s => 3 - s.1) (0, s0) ⟨Nat.zero_le _, hs0⟩ ⟨rfl, rfl, rfl, rfl, rfl, trivial⟩ (fun _ h => h.last rfl) ?_
  rintro ⟨i, sa'⟩ ⟨hi, hsa⟩
  dsimp only at hi hsa ⊢
  refine gO_ ?_
  refine wc_cond rfl (fun h2 => ?_) (fun h2 => ?_)
  · have h2' : i < 3 := by rw [dc_true] at h2; omega
    obtain ⟨hxn, hxv, hxr⟩ := hxi i h2'
    have hxi' : i < xs.length := by omega
    refine gO_ ?_
    refine wl_fx (fx_alloc (next := ?_)); intro b6
    generalize xs.getD i default = x at hxn hxv hxr ⊢
    obtain ⟨xn, xv⟩ := x
    dsimp only at hxn hxv hxr
    subst hxn
    refine gO_ ?_
    refine wl_fx (fx_store_box (i := 0) (hi := rfl) (next := ?_))
    refine gO_ ?_
    refine wl_fx (fx_call_mk (spec := fun w' hw => union_ok (relOk_relOf _ (haccP t c i) hb) (relOk_relOf _ (thisP t c i) hb) (hw.lend (.tail _ (.tail _ (.tail _ (.head _))))) (hw.now hxr (.head _))) (next := ?_))
    rintro v n2 es w2 ⟨sb, hsb, rfl, rfl⟩
    rw [relOf_uni hb, ← haccP_succ t c h2']
    refine gO_ ?_
    refine wl_fx (fx_store_box (i := 3) (hi := rfl) (next := ?_))
    refine gO_ ?_
    exact po_loop (i + 1, sb) ⟨by dsimp only; omega, hsb⟩ (by dsimp only; omega) ⟨rfl, rfl, rfl, rfl, rfl, trivial⟩ (fun _ h => (h.last rfl).sel [2, 3, 0, 5] rfl (by decide))
  · obtain rfl : i = 3 := by rw [dc_false] at h2; omega
    refine gO_ ?_
    refine wl_fx (fx_store_box (i := 3) (hi := rfl) (next := ?_))
    refine gO_ ?_
    exact mk_ret Tryz.results27 (.cellN inferInstance rfl (.tail _ (.tail _ (.tail _ (.head _)))) rfl .nil) (.head _) [_] [2] rfl (by decide) fun w' hw => ⟨sa', hsa, rfl, rfl⟩

end Go.Proofs.YtifgncgiiojikaaGreatDoor
