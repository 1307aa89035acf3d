import Derived.Test.YtgidhhpjabdnkaaGreatDoorG17
import Derived.Test.YtgidhhpjabdnkaaGreatDoorG12
set_option linter.unusedSimpArgs false
set_option linter.unusedVariables false
section
/- Steps of a round: plain; relations and named relations in slices; view.in, IndexFunc, Arcs's closures. -/
namespace Go.Eng
open Go
structure RelV where
  n : Int
  s : Value
instance : Inhabited RelV := ⟨⟨0, .nilIface⟩⟩
def encRelV (r : RelV) : List Value := [.int .i64 r.n, r.s]
def decRelV : List Value → RelV | [a, b] => ⟨toI a, b⟩ | _ => ⟨0, .nilIface⟩
instance : Enc encRelV 2 := ⟨fun _ => rfl, by decide⟩
instance : EncOne encRelV (fun r => r.s.oneCell' = true) := ⟨fun _ h u hu => by simp [encRelV] at hu; rcases hu with rfl | rfl; rfl; exact h⟩
structure NamV where
  k : Int
  f : Value
instance : Inhabited NamV := ⟨⟨0, .nilIface⟩⟩
def encNamV (r : NamV) : List Value := [.int .i64 r.k, r.f]
def decNamV : List Value → NamV | [a, b] => ⟨toI a, b⟩ | _ => ⟨0, .nilIface⟩
instance : Enc encNamV 2 := ⟨fun _ => rfl, by decide⟩
/-- relations that are read -/
def SlsR (S : Nat → Prop) (w : World) : List RelV → List (Int × List (BitVec 64)) → Prop
  | [], [] => True
  | v :: vs, r :: rs => v.n = r.1 ∧ Sl S w encW 1 v.s r.2 ∧ SlsR S w vs rs
  | _, _ => False
theorem SlsR.len {S : Nat → Prop} {w : World} : ∀ {vs : List RelV} {rs : List (Int × List (BitVec 64))}, SlsR S w vs rs → vs.length = rs.length
  | [], [], _ => rfl
  | _ :: _, _ :: _, h => by simp [SlsR.len h.2.2]
theorem SlsR.get {S : Nat → Prop} {w : World} : ∀ {vs : List RelV} {rs : List (Int × List (BitVec 64))} (_ : SlsR S w vs rs) {i : Nat} (_ : i < vs.length), (vs.getD i default).n = (rs.getD i default).1 ∧ Sl S w encW 1 (vs.getD i default).s (rs.getD i default).2
  | _ :: _, _ :: _, h, 0, _ => ⟨h.1, h.2.1⟩
  | _ :: vs, _ :: rs, h, i + 1, hi => SlsR.get (vs := vs) (rs := rs) h.2.2 (by simpa using hi)
theorem SlsR.now {S : Nat → Prop} {B w' : World} {bs : List Base} {H : List Ent} (hw : Mem bs H w') (hB : (B, S) ∈ bs) : ∀ {vs : List RelV} {rs : List (Int × List (BitVec 64))}, SlsR S B vs rs → SlsR All w' vs rs
  | [], [], _ => trivial
  | _ :: _, _ :: _, h => ⟨h.1, hw.now h.2.1 hB, SlsR.now hw hB h.2.2⟩
end Go.Eng
namespace Go.Vw
open Go Go.Eng Go.Tc Go.Rl
/-! the relations: Po PoLoc Rf Rfe Co Coe Fr Fre Com, fenced, ppo -/
abbrev Rs := List (Int × List W)
def hasR (R : Rs) (i : Nat) (a b : Int) : Bool := has (R.getD i default).1 (R.getD i default).2 a b
def okR (R : Rs) : Bool := (List.range R.length).all fun i => relOk (R.getD i default).1 (R.getD i default).2
def sameN (R : Rs) : Bool := (List.range R.length).all fun i => decide ((R.getD i default).1 = (R.getD 0 default).1)
def rngL (n : Int) (l : List Int) : Bool := (List.range l.length).all fun i => !(decide (l.getD i default < 0) || decide (n ≤ l.getD i default))
def kindOf (R : Rs) (a b : Int) : Int :=
  if hasR R 2 a b = true then 2 else if hasR R 4 a b = true then 3 else if hasR R 6 a b = true then 4 else if hasR R 9 a b = true then 5 else if hasR R 10 a b = true then 6 else if hasR R 0 a b = true then 1 else 0
def nxt (l : List Int) (i : Nat) : Int := l.getD ((i + 1) % l.length) default
def arc1 (R : Rs) (l : List Int) (i : Nat) : Arc := ⟨l.getD i default, nxt l i, kindOf R (l.getD i default) (nxt l i)⟩
def arcsTo (R : Rs) (l : List Int) (n : Nat) : List Arc := (List.range n).map (arc1 R l)
def named (R : Rs) (l : List Int) : Bool := (List.range l.length).all fun i => decide (¬ kindOf R (l.getD i default) (nxt l i) = 0)
def arcsE (R : Rs) (l : List Int) : Int := if okR R = true then if sameN R = true then if rngL (R.getD 0 default).1 l = true then if l.length = 0 then 1 else if named R l = true then 0 else 4 else 1 else 11 else 10
def arcsL (R : Rs) (l : List Int) : List Arc := if arcsE R l = 0 then arcsTo R l l.length else []
theorem arcsTo_succ (R : Rs) (l : List Int) (n : Nat) : arcsTo R l (n + 1) = arcsTo R l n ++ [arc1 R l n] := by unfold arcsTo; rw [List.range_succ, List.map_append]; rfl
def idxB {α : Type} (p : α → Bool) (l : List α) : Int := match l.findIdx? p with | some k => (k : Int) | none => -1
theorem findIdx_at {α : Type} [Inhabited α] {p : α → Bool} : ∀ {l : List α} {i : Nat}, i < l.length → p (l.getD i default) = true → (∀ j, j < i → p (l.getD j default) = false) → l.findIdx? p = some i
  | a :: l, 0, _, h1, _ => by rw [List.findIdx?_cons, show p a = true from h1]; rfl
  | a :: l, i + 1, h0, h1, h2 => by
    rw [List.findIdx?_cons, show p a = false from h2 0 (by omega), findIdx_at (l := l) (i := i) (by simpa using h0) h1 fun j hj => h2 (j + 1) (by omega)]; rfl
theorem findIdx_no {α : Type} [Inhabited α] {p : α → Bool} : ∀ {l : List α}, (∀ j, j < l.length → p (l.getD j default) = false) → l.findIdx? p = none
  | [], _ => rfl
  | a :: l, h => by
    rw [List.findIdx?_cons, show p a = false from h 0 (by simp), findIdx_no (l := l) fun j hj => h (j + 1) (by simpa using hj)]; rfl
/-- by the names: which of the six -/
def pickB (R : Rs) (a b : Int) (k : Int) : Bool := if k = 2 then hasR R 2 a b else if k = 3 then hasR R 4 a b else if k = 4 then hasR R 6 a b else if k = 5 then hasR R 9 a b else if k = 6 then hasR R 10 a b else hasR R 0 a b
end Go.Vw
namespace Go.Proofs.YtgidhhpjabdnkaaGreatDoor
open Go Go.Eng Go.Tc Go.Rl Go.Vw
attribute [local irreducible] wpList Code.wp bodyPost Exit.then Exit.inBlock Calls
instance : EncOf Tryz.prog 43 encRelV decRelV := ⟨trivial⟩
instance : EncOf Tryz.prog 147 encNamV decNamV := ⟨trivial⟩

def inV (b : Nat) : Value := .func (.func 133) #[] #[.pointer (some ⟨b, 0, none⟩)]

set_option maxHeartbeats 800000 in
theorem vin_spec (n : Int) (sv : Value) (w : World) (hs : SV sv) :
    Mk Tryz.prog 95 [.agg #[.int .i64 n, sv]] w fun _ v es _ => ∃ b, v = inV b ∧ es = [.box b [.int .i64 n, sv] 43] := by
  refine enter_mk Tryz.func95 Tryz.ntmps95 rfl rfl ?_
  refine gO_ ?_
  refine wl_fx (fx_box (next := ?_)); intro b
  refine gO_ ?_
  exact mk_ret Tryz.results95 (.tmp rfl .nil) (.head _) [_] [0] rfl (by decide) fun w' hw => ⟨b, rfl, rfl⟩

set_option maxHeartbeats 800000 in
theorem vin1_spec (n : Int) (sv : Value) (rows : List W) (a b : Int) (bi : Nat) (w : World) (hb : Bx All w bi [.int .i64 n, sv]) (hs : Sl All w encW 1 sv rows) :
    Pur Tryz.prog 133 [.int .i64 a, .int .i64 b, .pointer (some ⟨bi, 0, none⟩)] w fun _ v _ => v = .bool (has n rows a b) := by
  refine enter_pur Tryz.func133 Tryz.ntmps133 rfl rfl ?_
  refine gO_ ?_
  refine wl_fx (fx_call (spec := fun w' hw => has_spec n sv rows a b w' (hw.now hs (.head _))) (next := ?_))
  rintro v n1 w1 rfl hn1
  refine gO_ ?_
  refine pur_ret Tryz.results133 (.tmp rfl .nil) (.tail _ (.head _)) fun w' hw => ?_
  rfl

set_option maxHeartbeats 800000 in
theorem varcs1_spec (n : Int) (sv : Value) (rows : List W) (k a b : Int) (bi ba bb : Nat) (w : World) (hb : Bx All w bi [.int .i64 n, sv]) (hs : Sl All w encW 1 sv rows) (hba : Bx All w ba [.int .i64 a]) (hbb : Bx All w bb [.int .i64 b]) :
    Pur Tryz.prog 97 [.agg #[.int .i64 k, inV bi], .pointer (some ⟨ba, 0, none⟩), .pointer (some ⟨bb, 0, none⟩)] w fun _ v _ => v = .bool (has n rows a b) := by
  refine enter_pur Tryz.func97 Tryz.ntmps97 rfl rfl ?_
  refine gO_ ?_
  refine wl_fx (fx_box (next := ?_)); intro bx
  refine gO_ ?_
  refine wl_fx (fx_call (k := 133) (first := []) (cap := [.pointer (some ⟨bi, 0, none⟩)]) (spec := fun w' hw => vin1_spec n sv rows a b bi w' (hb.mono (hw.base _ (.head _)) fun _ => trivial) (hw.now hs (.head _))) (next := ?_))
  rintro v n1 w1 rfl hn1
  refine gO_ ?_
  refine pur_ret Tryz.results97 (.tmp rfl .nil) (.tail _ (.head _)) fun w' hw => ?_
  rfl

set_option maxHeartbeats 1600000 in
theorem sindexF_spec (s : Value) (kf : Nat) [FN Tryz.prog kf] (cap : List Value) (l : List NamV) (p : NamV → Bool) (w : World) (hs : Sl All w encNamV 2 s l)
    (hk : ∀ x, x ∈ l → ∀ w', Mem [(w, All)] [] w' → Pur Tryz.prog kf ([.agg (encNamV x).toArray] ++ cap) w' fun _ v _ => v = .bool (p x)) :
    Pur Tryz.prog 96 [s, .func (.func kf) #[] cap.toArray] w fun _ r _ => r = .int .i64 (idxB p l) := by
  have hll := hs.le
  refine enter_pur Tryz.func96 Tryz.ntmps96 rfl rfl ?_
  refine gO_ ?_
  refine wc_loop (fun i : Nat => i ≤ l.length ∧ ∀ j, j < i → p (l.getD j default) = false) (fun i => [(8, true, .int .i64 i), (7, true, .int .i64 l.length), (1, true, .func (.func kf) #[] cap.toArray), (0, true, s)])
    (fun s => Mem [(w, All)] []) (fun s => l.length - s) (0) ⟨by omega, fun j hj => by omega⟩ ⟨rfl, rfl, rfl, rfl, trivial⟩ (fun _ h => h.last rfl) ?_
  rintro i ⟨hi, hall⟩
  refine gO_ ?_
  refine wc_cond rfl (fun h1 => ?_) (fun h1 => ?_)
  · have h1' : i < l.length := by rw [dc_true] at h1; omega
    have hx : l.getD i default ∈ l := by rw [List.getD_eq_getElem?_getD, List.getElem?_eq_getElem h1']; exact List.getElem_mem h1'
    refine gO_ ?_
    refine wl_fx (fx_call (first := []) (cap := cap) (spec := fun w' hw => hk (l.getD i default) hx w' (hw.last rfl)) (next := ?_))
    rintro v n1 w1 rfl hn1
    refine gO_ ?_
    refine wc_cond rfl (fun h2 => ?_) (fun h2 => ?_)
    · refine gO_ ?_
      refine pur_ret Tryz.results96 (.tmp rfl .nil) (.tail _ (.head _)) fun w' hw => ?_
      unfold idxB
      rw [findIdx_at h1' h2 hall]; rfl
    · refine gO_ ?_
      refine po_loop ((i + 1)) ⟨by omega, fun j hj => ?_⟩ (by omega) ⟨rfl, rfl, rfl, rfl, trivial⟩ (fun _ h => h.last rfl)
      by_cases hji : j < i
      · exact hall j hji
      · obtain rfl : j = i := by omega
        exact h2
  · rw [dc_false] at h1
    refine gO_ ?_
    refine pur_ret Tryz.results96 (.tmp rfl .nil) (.head _) fun w' hw => ?_
    unfold idxB
    rw [findIdx_no fun j hj => hall j (by omega)]; rfl
end Go.Proofs.YtgidhhpjabdnkaaGreatDoor
end

section
/- The walk: view.Arcs (printed by gen_arcs.py). -/
namespace Go.Vw
open Go Go.Eng Go.Tc Go.Rl
theorem sees {p : Nat → Bool} {i : Nat} (h : ∀ j, j < i → p j = true) (hp : p i = true) : ∀ j, j < i + 1 → p j = true := seenT h hp
theorem okR_all {R : Rs} (h : ∀ j, j < R.length → relOk (R.getD j default).1 (R.getD j default).2 = true) : okR R = true := by unfold okR; exact all_range.2 h
theorem okR_not {R : Rs} {i : Nat} (hi : i < R.length) (h : relOk (R.getD i default).1 (R.getD i default).2 = false) : okR R = false := all_range_f hi h
theorem sameN_all {R : Rs} (h : ∀ j, j < R.length → (R.getD j default).1 = (R.getD 0 default).1) : sameN R = true := by unfold sameN; exact all_range.2 fun j hj => decide_eq_true (h j hj)
theorem sameN_not {R : Rs} {i : Nat} (hi : i < R.length) (h : ¬ (R.getD i default).1 = (R.getD 0 default).1) : sameN R = false := all_range_f hi (decide_eq_false h)
def nameP (R : Rs) (a b : Int) (x : NamV) : Bool := pickB R a b x.k
theorem idx_names (R : Rs) (a b : Int) (f1 f2 f3 f4 f5 f6 : Value) : (idxB (nameP R a b) [⟨2, f1⟩, ⟨3, f2⟩, ⟨4, f3⟩, ⟨5, f4⟩, ⟨6, f5⟩, ⟨1, f6⟩] < 0 ∧ kindOf R a b = 0) ∨
    ∃ k : Nat, idxB (nameP R a b) [⟨2, f1⟩, ⟨3, f2⟩, ⟨4, f3⟩, ⟨5, f4⟩, ⟨6, f5⟩, ⟨1, f6⟩] = k ∧ k < 6 ∧ ([⟨2, f1⟩, ⟨3, f2⟩, ⟨4, f3⟩, ⟨5, f4⟩, ⟨6, f5⟩, ⟨1, f6⟩] : List NamV).getD k default = ⟨kindOf R a b, (([⟨2, f1⟩, ⟨3, f2⟩, ⟨4, f3⟩, ⟨5, f4⟩, ⟨6, f5⟩, ⟨1, f6⟩] : List NamV).getD k default).f⟩ ∧ kindOf R a b ≠ 0 := by
  unfold idxB kindOf
  have e : ∀ k f, nameP R a b ⟨k, f⟩ = pickB R a b k := fun _ _ => rfl
  simp only [List.findIdx?_cons, List.findIdx?_nil, e, pickB]
  simp only [show ¬ (3 : Int) = 2 by decide, show ¬ (4 : Int) = 2 by decide, show ¬ (4 : Int) = 3 by decide, show ¬ (5 : Int) = 2 by decide, show ¬ (5 : Int) = 3 by decide, show ¬ (5 : Int) = 4 by decide, show ¬ (6 : Int) = 2 by decide, show ¬ (6 : Int) = 3 by decide, show ¬ (6 : Int) = 4 by decide, show ¬ (6 : Int) = 5 by decide, show ¬ (1 : Int) = 2 by decide, show ¬ (1 : Int) = 3 by decide, show ¬ (1 : Int) = 4 by decide, show ¬ (1 : Int) = 5 by decide, show ¬ (1 : Int) = 6 by decide, if_true, if_false]
  cases hasR R 2 a b
  · cases hasR R 4 a b
    · cases hasR R 6 a b
      · cases hasR R 9 a b
        · cases hasR R 10 a b
          · cases hasR R 0 a b
            · exact .inl ⟨by decide, rfl⟩
            · exact .inr ⟨5, rfl, by decide, rfl, by simp⟩
          · exact .inr ⟨4, rfl, by decide, rfl, by simp⟩
        · exact .inr ⟨3, rfl, by decide, rfl, by simp⟩
      · exact .inr ⟨2, rfl, by decide, rfl, by simp⟩
    · exact .inr ⟨1, rfl, by decide, rfl, by simp⟩
  · exact .inr ⟨0, rfl, by decide, rfl, by simp⟩
end Go.Vw
namespace Go.Proofs.YtgidhhpjabdnkaaGreatDoor
open Go Go.Eng Go.Tc Go.Rl Go.Vw
attribute [local irreducible] wpList Code.wp bodyPost Exit.then Exit.inBlock Calls

def ArcsΨ (e : Int) (xs : List Arc) : Nat → Value → List Ent → World → Prop := fun _ v es _ => ∃ av, SV av ∧ v = .tuple #[av, .int .i64 e] ∧ es = [.own av 82 3 encArc xs]

set_option maxHeartbeats 16000000 in
theorem varcs_spec (n1 n2 n3 n4 n5 n6 n7 n8 n9 n10 n11 : Int) (s1 s2 s3 s4 s5 s6 s7 s8 s9 s10 s11 : Value) (r1 r2 r3 r4 r5 r6 r7 r8 r9 r10 r11 : List W) (lv : Value) (l : List Int) (w : World) (hl : Sl All w Eng.encI 1 lv l) (hbig : l.length * 24 ≤ 140737488355328)
    (hs : SlsR All w [⟨n1, s1⟩, ⟨n2, s2⟩, ⟨n3, s3⟩, ⟨n4, s4⟩, ⟨n5, s5⟩, ⟨n6, s6⟩, ⟨n7, s7⟩, ⟨n8, s8⟩, ⟨n9, s9⟩, ⟨n10, s10⟩, ⟨n11, s11⟩] [(n1, r1), (n2, r2), (n3, r3), (n4, r4), (n5, r5), (n6, r6), (n7, r7), (n8, r8), (n9, r9), (n10, r10), (n11, r11)]) :
    Mk Tryz.prog 64 [.agg #[.int .i64 n1, s1, .int .i64 n2, s2, .int .i64 n3, s3, .int .i64 n4, s4, .int .i64 n5, s5, .int .i64 n6, s6, .int .i64 n7, s7, .int .i64 n8, s8, .int .i64 n9, s9], .agg #[.int .i64 n10, s10], .agg #[.int .i64 n11, s11], lv] w (ArcsΨ (arcsE [(n1, r1), (n2, r2), (n3, r3), (n4, r4), (n5, r5), (n6, r6), (n7, r7), (n8, r8), (n9, r9), (n10, r10), (n11, r11)] l) (arcsL [(n1, r1), (n2, r2), (n3, r3), (n4, r4), (n5, r5), (n6, r6), (n7, r7), (n8, r8), (n9, r9), (n10, r10), (n11, r11)] l)) := by
  have hll := hl.le
  have hlv := hl.sv
  have hs' := hs
  obtain ⟨-, h1, -, h2, -, h3, -, h4, -, h5, -, h6, -, h7, -, h8, -, h9, -, h10, -, h11, -⟩ := hs'
  have hs1 := h1.sv
  have hs2 := h2.sv
  have hs3 := h3.sv
  have hs4 := h4.sv
  have hs5 := h5.sv
  have hs6 := h6.sv
  have hs7 := h7.sv
  have hs8 := h8.sv
  have hs9 := h9.sv
  have hs10 := h10.sv
  have hs11 := h11.sv
  have fail : ∀ {e : Int}, arcsE [(n1, r1), (n2, r2), (n3, r3), (n4, r4), (n5, r5), (n6, r6), (n7, r7), (n8, r8), (n9, r9), (n10, r10), (n11, r11)] l = e → e ≠ 0 → ∀ w', ArcsΨ (arcsE [(n1, r1), (n2, r2), (n3, r3), (n4, r4), (n5, r5), (n6, r6), (n7, r7), (n8, r8), (n9, r9), (n10, r10), (n11, r11)] l) (arcsL [(n1, r1), (n2, r2), (n3, r3), (n4, r4), (n5, r5), (n6, r6), (n7, r7), (n8, r8), (n9, r9), (n10, r10), (n11, r11)] l) w.heap.size (.tuple #[.slice none 0 0, .int .i64 e]) [.own (.slice none 0 0) 82 3 encArc []] w' := fun {e} h1 h2 w' => by
    unfold arcsL
    rw [h1, if_neg h2]
    exact ⟨_, sv_nil, rfl, rfl⟩
  refine enter_mk Tryz.func64 Tryz.ntmps64 rfl rfl ?_
  refine gO_ ?_
  refine wl_fx (fx_box (next := ?_)); intro bv
  refine gO_ ?_
  refine wl_fx (fx_box (next := ?_)); intro bf
  refine gO_ ?_
  refine wl_fx (fx_box (next := ?_)); intro bp
  refine gO_ ?_
  refine wl_fx (fx_lit (next := ?_))
  intro v44 hv44
  generalize hR : ([(n1, r1), (n2, r2), (n3, r3), (n4, r4), (n5, r5), (n6, r6), (n7, r7), (n8, r8), (n9, r9), (n10, r10), (n11, r11)] : Rs) = R at *
  have hR0 : (R.getD 0 default).1 = n1 := by rw [← hR]; rfl
  have hRl : R.length = 11 := by rw [← hR]; rfl
  refine kp_mem (A' := Mem [(w, All)] [.own v44 43 2 encRelV [⟨n1, s1⟩, ⟨n2, s2⟩, ⟨n3, s3⟩, ⟨n4, s4⟩, ⟨n5, s5⟩, ⟨n6, s6⟩, ⟨n7, s7⟩, ⟨n8, s8⟩, ⟨n9, s9⟩, ⟨n10, s10⟩, ⟨n11, s11⟩], .box bp [.int .i64 n11, s11] 43, .box bf [.int .i64 n10, s10] 43, .box bv [.int .i64 n1, s1, .int .i64 n2, s2, .int .i64 n3, s3, .int .i64 n4, s4, .int .i64 n5, s5, .int .i64 n6, s6, .int .i64 n7, s7, .int .i64 n8, s8, .int .i64 n9, s9] 45]) (fun _ h => h) ?_
  generalize hV : ([⟨n1, s1⟩, ⟨n2, s2⟩, ⟨n3, s3⟩, ⟨n4, s4⟩, ⟨n5, s5⟩, ⟨n6, s6⟩, ⟨n7, s7⟩, ⟨n8, s8⟩, ⟨n9, s9⟩, ⟨n10, s10⟩, ⟨n11, s11⟩] : List RelV) = V at *
  have hVl : V.length = 11 := by rw [← hV]; rfl
  refine gO_ ?_
  refine wc_loop (fun i : Nat => i ≤ 11 ∧ ∀ j, j < i → relOk (R.getD j default).1 (R.getD j default).2 = true) (fun i => [(47, true, .int .i64 i), (46, true, .int .i64 V.length), (45, true, v44), (10, true, v44), (6, true, .pointer (some ⟨bp, 0, none⟩)), (5, true, .pointer (some ⟨bf, 0, none⟩)), (4, true, .pointer (some ⟨bv, 0, none⟩)), (3, true, lv)])
    (fun i => Mem [(w, All)] [.own v44 43 2 encRelV V, .box bp [.int .i64 n11, s11] 43, .box bf [.int .i64 n10, s10] 43, .box bv [.int .i64 n1, s1, .int .i64 n2, s2, .int .i64 n3, s3, .int .i64 n4, s4, .int .i64 n5, s5, .int .i64 n6, s6, .int .i64 n7, s7, .int .i64 n8, s8, .int .i64 n9, s9] 45]) (fun s => 11 - s) 0 ⟨Nat.zero_le _, fun j hj => absurd hj (Nat.not_lt_zero _)⟩ ⟨rfl, rfl, rfl, rfl, rfl, rfl, rfl, rfl, trivial⟩ (fun _ h => h.last rfl) ?_
  rintro i ⟨hi, hall⟩
  refine gO_ ?_
  refine wc_cond rfl (fun g1 => ?_) (fun g1 => ?_)
  · have g1' : i < V.length := by rw [dc_true] at g1; omega
    obtain ⟨e1, e2⟩ := hs.get g1'
    have e3 := e2.sv
    refine gO_ ?_
    refine wl_fx (fx_alloc (next := ?_)); intro br
    refine gO_ ?_
    refine wl_fx (fx_store_box (i := 0) (hi := rfl) (next := ?_))
    refine gO_ ?_
    refine wl_fx (fx_call (spec := fun w' hw => check_spec (V.getD i default).n (V.getD i default).s (R.getD i default).2 w' (hw.now e2 (.head _))) (next := ?_))
    rintro v p1 w1 rfl hn1
    rw [e1]
    refine gO_ ?_
    refine wc_cond rfl (fun g2 => ?_) (fun g2 => ?_)
    · rw [Bool.not_eq_true', dc_false] at g2
      have g3 : relOk (R.getD i default).1 (R.getD i default).2 = false := by
        cases hq : relOk (R.getD i default).1 (R.getD i default).2
        · rfl
        · rw [hq] at g2; exact absurd rfl g2
      rw [g3]
      refine gO_ ?_
      refine kp_nil 82 3 encArc ?_
      exact mk_ret Tryz.results64 (.tmp rfl (.tmp rfl .nil)) (.tail _ (.head _)) [_] [0] rfl (by decide) fun w' hw => fail (by unfold arcsE; rw [okR_not (by omega) g3]; rfl) (by decide) w'
    · rw [Bool.not_eq_false', dc_true] at g2
      have g3 : relOk (R.getD i default).1 (R.getD i default).2 = true := by
        cases hq : relOk (R.getD i default).1 (R.getD i default).2
        · rw [hq] at g2; exact absurd g2 (by decide)
        · rfl
      refine gO_ ?_
      exact po_loop (i + 1) ⟨by omega, seenT hall g3⟩ (by omega) ⟨rfl, rfl, rfl, rfl, rfl, rfl, rfl, rfl, trivial⟩ (fun _ h => (h.last rfl).tail)
  · have hin : i = 11 := by rw [dc_false] at g1; omega
    have hok : okR R = true := okR_all fun j hj => hall j (by omega)
    refine gO_ ?_
    refine wc_loop (fun i : Nat => i ≤ 11 ∧ ∀ j, j < i → (R.getD j default).1 = (R.getD 0 default).1) (fun i => [(59, true, .int .i64 i), (58, true, .int .i64 V.length), (57, true, v44), (6, true, .pointer (some ⟨bp, 0, none⟩)), (5, true, .pointer (some ⟨bf, 0, none⟩)), (4, true, .pointer (some ⟨bv, 0, none⟩)), (3, true, lv)])
      (fun i => Mem [(w, All)] [.own v44 43 2 encRelV V, .box bp [.int .i64 n11, s11] 43, .box bf [.int .i64 n10, s10] 43, .box bv [.int .i64 n1, s1, .int .i64 n2, s2, .int .i64 n3, s3, .int .i64 n4, s4, .int .i64 n5, s5, .int .i64 n6, s6, .int .i64 n7, s7, .int .i64 n8, s8, .int .i64 n9, s9] 45]) (fun s => 11 - s) 0 ⟨Nat.zero_le _, fun j hj => absurd hj (Nat.not_lt_zero _)⟩ ⟨rfl, rfl, rfl, rfl, rfl, rfl, rfl, trivial⟩ (fun _ h => h.last rfl) ?_
    rintro i ⟨hi, hall⟩
    refine gO_ ?_
    refine wc_cond rfl (fun g1 => ?_) (fun g1 => ?_)
    · have g1' : i < V.length := by rw [dc_true] at g1; omega
      obtain ⟨e1, e2⟩ := hs.get g1'
      have e3 := e2.sv
      refine gO_ ?_
      refine wl_fx (fx_alloc (next := ?_)); intro br
      refine gO_ ?_
      refine wl_fx (fx_store_box (i := 0) (hi := rfl) (next := ?_))
      refine gO_ ?_
      refine wc_cond rfl (fun g2 => ?_) (fun g2 => ?_)
      · rw [Bool.not_eq_true', dc_false, e1, ← hR0] at g2
        refine gO_ ?_
        refine kp_nil 82 3 encArc ?_
        exact mk_ret Tryz.results64 (.tmp rfl (.tmp rfl .nil)) (.head _) [_] [0] rfl (by decide) fun w' hw => fail (by unfold arcsE; rw [hok, sameN_not (by omega) g2]; rfl) (by decide) w'
      · rw [Bool.not_eq_false', dc_true, e1, ← hR0] at g2
        refine gO_ ?_
        refine po_loop (i + 1) ⟨by omega, fun j hj => ?_⟩ (by omega) ⟨rfl, rfl, rfl, rfl, rfl, rfl, rfl, trivial⟩ (fun _ h => (h.last rfl).tail)
        by_cases hji : j < i
        · exact hall j hji
        · obtain rfl : j = i := by omega
          exact g2
    · have hin : i = 11 := by rw [dc_false] at g1; omega
      have hsm : sameN R = true := sameN_all fun j hj => hall j (by omega)
      refine gO_ ?_
      refine wc_loop (fun i : Nat => i ≤ l.length ∧ ∀ j, j < i → (!(decide (l.getD j default < 0) || decide (n1 ≤ l.getD j default))) = true) (fun i => [(72, true, .int .i64 i), (71, true, .int .i64 l.length), (70, true, lv), (6, true, .pointer (some ⟨bp, 0, none⟩)), (5, true, .pointer (some ⟨bf, 0, none⟩)), (4, true, .pointer (some ⟨bv, 0, none⟩)), (3, true, lv)])
        (fun i => Mem [(w, All)] [.box bp [.int .i64 n11, s11] 43, .box bf [.int .i64 n10, s10] 43, .box bv [.int .i64 n1, s1, .int .i64 n2, s2, .int .i64 n3, s3, .int .i64 n4, s4, .int .i64 n5, s5, .int .i64 n6, s6, .int .i64 n7, s7, .int .i64 n8, s8, .int .i64 n9, s9] 45]) (fun s => l.length - s) 0 ⟨Nat.zero_le _, fun j hj => absurd hj (Nat.not_lt_zero _)⟩ ⟨rfl, rfl, rfl, rfl, rfl, rfl, rfl, trivial⟩ (fun _ h => (h.last rfl).tail) ?_
      rintro i ⟨hi, hall⟩
      refine gO_ ?_
      refine wc_cond rfl (fun g1 => ?_) (fun g1 => ?_)
      · have g1' : i < l.length := by rw [dc_true] at g1; omega
        refine gO_ ?_
        refine wc_cond rfl (fun g2 => ?_) (fun g2 => ?_)
        · rw [dc_eq, dc_eq] at g2
          refine gO_ ?_
          refine kp_nil 82 3 encArc ?_
          exact mk_ret Tryz.results64 (.tmp rfl (.tmp rfl .nil)) (.head _) [_] [0] rfl (by decide) fun w' hw => fail (by
            have : rngL (R.getD 0 default).1 l = false := by rw [hR0]; exact all_range_f g1' (by rw [g2]; rfl)
            unfold arcsE; rw [hok, hsm, this]; rfl) (by decide) w'
        · rw [dc_eq, dc_eq] at g2
          refine gO_ ?_
          exact po_loop (i + 1) ⟨by omega, seenT hall (by rw [g2]; rfl)⟩ (by omega) ⟨rfl, rfl, rfl, rfl, rfl, rfl, rfl, trivial⟩ (fun _ h => h.last rfl)
      · have hin : i = l.length := by rw [dc_false] at g1; omega
        have hrg : rngL (R.getD 0 default).1 l = true := by rw [hR0]; exact all_range.2 fun j hj => hall j (by omega)
        refine gO_ ?_
        refine wc_cond rfl (fun g2 => ?_) (fun g2 => ?_)
        · rw [dc_true] at g2
          have g3 : l.length = 0 := by omega
          refine gO_ ?_
          refine kp_nil 82 3 encArc ?_
          exact mk_ret Tryz.results64 (.tmp rfl (.tmp rfl .nil)) (.head _) [_] [0] rfl (by decide) fun w' hw => fail (by unfold arcsE; rw [hok, hsm, hrg, if_pos rfl, if_pos rfl, if_pos rfl, if_pos g3]) (by decide) w'
        rw [dc_false] at g2
        have g3 : ¬ l.length = 0 := by omega
        have hE : arcsE R l = if named R l = true then 0 else 4 := by unfold arcsE; rw [hok, hsm, hrg, if_pos rfl, if_pos rfl, if_pos rfl, if_neg g3]
        · refine gO_ ?_
          refine wc_drawS (Mem [(w, All)] [.box bp [.int .i64 n11, s11] 43, .box bf [.int .i64 n10, s10] 43, .box bv [.int .i64 n1, s1, .int .i64 n2, s2, .int .i64 n3, s3, .int .i64 n4, s4, .int .i64 n5, s5, .int .i64 n6, s6, .int .i64 n7, s7, .int .i64 n8, s8, .int .i64 n9, s9] 45]) [0, 1, 4, 5, 8, 9, 12, 15, 18, 19, 2, 3, 6, 7, 10, 11, 13, 14, 16, 17, 20, 21, 22, 23] mixed (fun _ h => h.last rfl) ?_
          refine kG_ ?_
          refine kg_f _ (h := fx_call_mk (spec := fun w' hw => vin_spec n3 s3 w' hs3) (next := ?_)) (hSS := fun _ h => h)
          rintro v q0 es u0 ⟨b1, rfl, rfl⟩
          refine kp_S ?_ (fun _ h => (h.last rfl).sel [1, 2, 3] rfl (by decide))
          refine kG_ ?_
          refine kg_f _ (h := fx_call_mk (spec := fun w' hw => vin_spec n5 s5 w' hs5) (next := ?_)) (hSS := fun _ h => h)
          rintro v q1 es u1 ⟨b2, rfl, rfl⟩
          refine kp_S ?_ (fun _ h => (h.last rfl).sel [2, 3, 4] rfl (by decide))
          refine kG_ ?_
          refine kg_f _ (h := fx_call_mk (spec := fun w' hw => vin_spec n7 s7 w' hs7) (next := ?_)) (hSS := fun _ h => h)
          rintro v q2 es u2 ⟨b3, rfl, rfl⟩
          refine kp_S ?_ (fun _ h => (h.last rfl).sel [3, 4, 5] rfl (by decide))
          refine kG_ ?_
          refine kg_f _ (h := fx_call_mk (spec := fun w' hw => vin_spec n10 s10 w' hs10) (next := ?_)) (hSS := fun _ h => h)
          rintro v q3 es u3 ⟨b4, rfl, rfl⟩
          refine kp_S ?_ (fun _ h => (h.last rfl).sel [4, 5, 6] rfl (by decide))
          refine kG_ ?_
          refine kg_f _ (h := fx_call_mk (spec := fun w' hw => vin_spec n11 s11 w' hs11) (next := ?_)) (hSS := fun _ h => h)
          rintro v q4 es u4 ⟨b5, rfl, rfl⟩
          refine kp_S ?_ (fun _ h => (h.last rfl).sel [5, 6, 7] rfl (by decide))
          refine kG_ ?_
          refine kg_f _ (h := fx_call_mk (spec := fun w' hw => vin_spec n1 s1 w' hs1) (next := ?_)) (hSS := fun _ h => h)
          rintro v q5 es u5 ⟨b6, rfl, rfl⟩
          refine kp_S ?_ (fun _ h => (h.last rfl).sel [6, 7, 8] rfl (by decide))
          refine kG_ ?_
          refine kg_f _ (h := fx_lit (enc := encNamV) (dec := decNamV) (e := 147) (sz := 2) (len := 6) (qs := [(0, [.int .i64 2, inV b1]), (1, [.int .i64 3, inV b2]), (2, [.int .i64 4, inV b3]), (3, [.int .i64 5, inV b4]), (4, [.int .i64 6, inV b5]), (5, [.int .i64 1, inV b6])]) (next := ?_)) (hSS := fun _ h => h)
          intro vn hvn
          refine kp_S ?_ (fun _ h => (h.last rfl).sel [7, 8, 9] rfl (by decide))
          refine kp_mem (A' := Mem [(w, All)] [.own vn 147 2 encNamV [⟨2, inV b1⟩, ⟨3, inV b2⟩, ⟨4, inV b3⟩, ⟨5, inV b4⟩, ⟨6, inV b5⟩, ⟨1, inV b6⟩], .box b6 [.int .i64 n1, s1] 43, .box b5 [.int .i64 n11, s11] 43, .box b4 [.int .i64 n10, s10] 43, .box b3 [.int .i64 n7, s7] 43, .box b2 [.int .i64 n5, s5] 43, .box b1 [.int .i64 n3, s3] 43, .box bp [.int .i64 n11, s11] 43, .box bf [.int .i64 n10, s10] 43, .box bv [.int .i64 n1, s1, .int .i64 n2, s2, .int .i64 n3, s3, .int .i64 n4, s4, .int .i64 n5, s5, .int .i64 n6, s6, .int .i64 n7, s7, .int .i64 n8, s8, .int .i64 n9, s9] 45]) (fun _ h => h.last rfl) ?_
          generalize hNS : ([⟨2, inV b1⟩, ⟨3, inV b2⟩, ⟨4, inV b3⟩, ⟨5, inV b4⟩, ⟨6, inV b5⟩, ⟨1, inV b6⟩] : List NamV) = ns at *
          have hnl : ns.length = 6 := by rw [← hNS]; rfl
          refine kG_ ?_
          refine gO_ ?_
          refine kp_nil 82 3 encArc ?_
          refine wc_loop (fun s : Nat × Value × List Arc => s.1 ≤ l.length ∧ SV s.2.1 ∧ s.2.2 = arcsTo R l s.1 ∧ ∀ j, j < s.1 → decide (¬ kindOf R (l.getD j default) (nxt l j) = 0) = true) (fun s => [(114, true, .int .i64 s.1), (113, true, .int .i64 l.length), (112, true, lv), (19, true, s.2.1), (18, true, vn), (3, true, lv)])
            (fun s => Mem [(w, All)] [.own s.2.1 82 3 encArc s.2.2, .own vn 147 2 encNamV ns, .box b6 [.int .i64 n1, s1] 43, .box b5 [.int .i64 n11, s11] 43, .box b4 [.int .i64 n10, s10] 43, .box b3 [.int .i64 n7, s7] 43, .box b2 [.int .i64 n5, s5] 43, .box b1 [.int .i64 n3, s3] 43, .box bp [.int .i64 n11, s11] 43, .box bf [.int .i64 n10, s10] 43, .box bv [.int .i64 n1, s1, .int .i64 n2, s2, .int .i64 n3, s3, .int .i64 n4, s4, .int .i64 n5, s5, .int .i64 n6, s6, .int .i64 n7, s7, .int .i64 n8, s8, .int .i64 n9, s9] 45]) (fun s => l.length - s.1) (0, .slice none 0 0, []) ⟨Nat.zero_le _, sv_nil, rfl, fun j hj => absurd hj (Nat.not_lt_zero _)⟩ ⟨rfl, rfl, rfl, rfl, rfl, rfl, trivial⟩ (fun _ h => h) ?_
          rintro ⟨i, v1, xs⟩ ⟨hi, hv1, hxs, hall⟩
          dsimp only at hi hv1 hxs hall ⊢
          have hxl : xs.length = i := by rw [hxs]; simp [arcsTo]
          refine gO_ ?_
          refine wc_cond rfl (fun k1 => ?_) (fun k1 => ?_)
          · have k1' : i < l.length := by rw [dc_true] at k1; omega
            have hmod : (i + 1) % l.length < l.length := Nat.mod_lt _ (by omega)
            refine gO_ ?_
            refine wl_fx (fx_alloc (next := ?_)); intro ba
            refine gO_ ?_
            refine wl_fx (fx_store_box (i := 0) (hi := rfl) (next := ?_))
            refine gO_ ?_
            refine wl_fx (fx_alloc (next := ?_)); intro bb
            refine gO_ ?_
            refine wl_fx (fx_store_box (i := 0) (hi := rfl) (next := ?_))
            refine kp_mem (A' := Mem [(w, All)] [.box bb [.int .i64 (nxt l i)] 3, .box ba [.int .i64 (l.getD i default)] 3, .own v1 82 3 encArc xs, .own vn 147 2 encNamV ns, .box b6 [.int .i64 n1, s1] 43, .box b5 [.int .i64 n11, s11] 43, .box b4 [.int .i64 n10, s10] 43, .box b3 [.int .i64 n7, s7] 43, .box b2 [.int .i64 n5, s5] 43, .box b1 [.int .i64 n3, s3] 43, .box bp [.int .i64 n11, s11] 43, .box bf [.int .i64 n10, s10] 43, .box bv [.int .i64 n1, s1, .int .i64 n2, s2, .int .i64 n3, s3, .int .i64 n4, s4, .int .i64 n5, s5, .int .i64 n6, s6, .int .i64 n7, s7, .int .i64 n8, s8, .int .i64 n9, s9] 45]) (fun _ h => h) ?_
            refine gO_ ?_
            refine wl_fx (fx_call (spec := fun w' hw => sindexF_spec vn 97 [.pointer (some ⟨ba, 0, none⟩), .pointer (some ⟨bb, 0, none⟩)] ns (nameP R (l.getD i default) (nxt l i)) w' (hw.lend (.tail _ (.tail _ (.tail _ (.head _))))) (fun x hx w'' hw'' => ?_)) (next := ?_))
            · rw [← hNS] at hx
              rw [← hR]
              simp only [List.mem_cons, List.not_mem_nil, or_false] at hx
              rcases hx with rfl | rfl | rfl | rfl | rfl | rfl
              · exact varcs1_spec n3 s3 r3 2 (l.getD i default) (nxt l i) b1 ba bb w'' ((hw.bx (.tail _ (.tail _ (.tail _ (.tail _ (.tail _ (.tail _ (.tail _ (.tail _ (.tail _ (.head _)))))))))) trivial).mono (hw''.base _ (.head _)) fun _ => trivial) (hw''.now (hw.now h3 (.head _)) (.head _)) ((hw.bx (.tail _ (.head _)) trivial).mono (hw''.base _ (.head _)) fun _ => trivial) ((hw.bx (.head _) trivial).mono (hw''.base _ (.head _)) fun _ => trivial)
              · exact varcs1_spec n5 s5 r5 3 (l.getD i default) (nxt l i) b2 ba bb w'' ((hw.bx (.tail _ (.tail _ (.tail _ (.tail _ (.tail _ (.tail _ (.tail _ (.tail _ (.head _))))))))) trivial).mono (hw''.base _ (.head _)) fun _ => trivial) (hw''.now (hw.now h5 (.head _)) (.head _)) ((hw.bx (.tail _ (.head _)) trivial).mono (hw''.base _ (.head _)) fun _ => trivial) ((hw.bx (.head _) trivial).mono (hw''.base _ (.head _)) fun _ => trivial)
              · exact varcs1_spec n7 s7 r7 4 (l.getD i default) (nxt l i) b3 ba bb w'' ((hw.bx (.tail _ (.tail _ (.tail _ (.tail _ (.tail _ (.tail _ (.tail _ (.head _)))))))) trivial).mono (hw''.base _ (.head _)) fun _ => trivial) (hw''.now (hw.now h7 (.head _)) (.head _)) ((hw.bx (.tail _ (.head _)) trivial).mono (hw''.base _ (.head _)) fun _ => trivial) ((hw.bx (.head _) trivial).mono (hw''.base _ (.head _)) fun _ => trivial)
              · exact varcs1_spec n10 s10 r10 5 (l.getD i default) (nxt l i) b4 ba bb w'' ((hw.bx (.tail _ (.tail _ (.tail _ (.tail _ (.tail _ (.tail _ (.head _))))))) trivial).mono (hw''.base _ (.head _)) fun _ => trivial) (hw''.now (hw.now h10 (.head _)) (.head _)) ((hw.bx (.tail _ (.head _)) trivial).mono (hw''.base _ (.head _)) fun _ => trivial) ((hw.bx (.head _) trivial).mono (hw''.base _ (.head _)) fun _ => trivial)
              · exact varcs1_spec n11 s11 r11 6 (l.getD i default) (nxt l i) b5 ba bb w'' ((hw.bx (.tail _ (.tail _ (.tail _ (.tail _ (.tail _ (.head _)))))) trivial).mono (hw''.base _ (.head _)) fun _ => trivial) (hw''.now (hw.now h11 (.head _)) (.head _)) ((hw.bx (.tail _ (.head _)) trivial).mono (hw''.base _ (.head _)) fun _ => trivial) ((hw.bx (.head _) trivial).mono (hw''.base _ (.head _)) fun _ => trivial)
              · exact varcs1_spec n1 s1 r1 1 (l.getD i default) (nxt l i) b6 ba bb w'' ((hw.bx (.tail _ (.tail _ (.tail _ (.tail _ (.head _))))) trivial).mono (hw''.base _ (.head _)) fun _ => trivial) (hw''.now (hw.now h1 (.head _)) (.head _)) ((hw.bx (.tail _ (.head _)) trivial).mono (hw''.base _ (.head _)) fun _ => trivial) ((hw.bx (.head _) trivial).mono (hw''.base _ (.head _)) fun _ => trivial)
            rintro v p2 w2 rfl hn2
            have hidx := idx_names R (l.getD i default) (nxt l i) (inV b1) (inV b2) (inV b3) (inV b4) (inV b5) (inV b6)
            rw [hNS] at hidx
            refine gO_ ?_
            refine wc_cond rfl (fun k2 => ?_) (fun k2 => ?_)
            · rw [dc_true] at k2
              have k3 : kindOf R (l.getD i default) (nxt l i) = 0 := by
                rcases hidx with ⟨_, h⟩ | ⟨k, h, _⟩
                · exact h
                · omega
              refine gO_ ?_
              refine kp_nil 82 3 encArc ?_
              exact mk_ret Tryz.results64 (.tmp rfl (.tmp rfl .nil)) (.tail _ (.head _)) [_] [0] rfl (by decide) fun w' hw => fail (by
                have : named R l = false := all_range_f k1' (decide_eq_false fun h => h k3)
                rw [hE, this]; rfl) (by decide) w'
            · rw [dc_false] at k2
              obtain ⟨q, hq, hq6, hqk, hq0⟩ : ∃ q : Nat, idxB (nameP R (l.getD i default) (nxt l i)) ns = q ∧ q < ns.length ∧ (ns.getD q default).k = kindOf R (l.getD i default) (nxt l i) ∧ kindOf R (l.getD i default) (nxt l i) ≠ 0 := by
                rcases hidx with ⟨h, _⟩ | ⟨k, h, h6, hk, h0⟩
                · omega
                · exact ⟨k, h, by omega, by rw [hk], h0⟩
              rw [hq]
              refine gO_ ?_
              refine wc_drawS (Mem [(w, All)] [.box bb [.int .i64 (nxt l i)] 3, .box ba [.int .i64 (l.getD i default)] 3, .own vn 147 2 encNamV ns]) [0, 1, 2, 3, 4, 5, 6, 7, 8, 9, 10, 11] mixed (fun _ h => (h.last rfl).sel [0, 1, 3] rfl (by decide)) ?_
              refine kG_ ?_
              refine kg_f _ (h := fx_lit (enc := encArc) (dec := decArc) (e := 82) (sz := 3) (len := 1) (qs := [(0, [.int .i64 (l.getD i default), .int .i64 (nxt l i), .int .i64 (ns.getD q default).k])]) (next := ?_)) (hSS := fun _ h => h)
              intro v5 hv5
              refine kp_S ?_ (fun _ h => (h.last rfl).sel [1, 2, 4] rfl (by decide))
              refine kG_ ?_
              refine kg_f _ (h := fx_append_own (k := 3) (hk := rfl) (hlen := by simp only [List.map, List.length_cons, List.length_nil]; omega) (next := ?_)) (hSS := fun _ h => h)
              intro v6 hv6
              refine kp_S ?_ (fun _ h => (h.last rfl).sel [1, 2, 4] rfl (by decide))
              refine kG_ ?_
              refine gO_ ?_
              refine po_loop (i + 1, v6, xs ++ [(⟨l.getD i default, nxt l i, (ns.getD q default).k⟩ : Arc)]) ⟨by dsimp only; omega, hv6, by dsimp only; rw [hxs, arcsTo_succ, hqk]; rfl, seenT hall (decide_eq_true hq0)⟩ (by dsimp only; omega) ⟨rfl, rfl, rfl, rfl, rfl, rfl, trivial⟩ (fun _ h => (h.last rfl).tail.tail.tail)
          · have hin2 : i = l.length := by rw [dc_false] at k1; omega
            have hnm : named R l = true := all_range.2 fun j hj => hall j (by omega)
            refine gO_ ?_
            refine mk_ret Tryz.results64 (.tmp rfl (.tmp rfl .nil)) (.head _) [_] [0] rfl (by decide) fun w' hw => ?_
            unfold arcsL
            rw [hE, if_pos hnm, if_pos rfl]
            exact ⟨v1, hv1, rfl, by rw [hxs, hin2]⟩
end Go.Proofs.YtgidhhpjabdnkaaGreatDoor
end
