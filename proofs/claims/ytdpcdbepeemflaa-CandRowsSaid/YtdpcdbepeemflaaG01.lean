import Derived.WalkKit
import Derived.OrdersHeld
set_option linter.unusedSimpArgs false
set_option linter.unusedVariables false
section
/- The engine of the walks: slots as an association list, memory as bases and owned entries, one lemma an operation. -/
/- Engine, part A: slots as an association list, memory as bases and owned entries, and the triples over them. -/
namespace Go.Eng
open Go Go.RowKit

abbrev Tm := List (Nat × Bool × Value)

def lk : Tm → Nat → Option (Bool × Value)
  | [], _ => none
  | (k, p) :: r, d => bif Nat.beq k d then some p else lk r d

/-- What the slots hold; a slot whose operation was not asked for holds undef. -/
structure Sim (N : Nat) (tm : Tm) (a : Act) : Prop where
  size : a.tmps.size = N
  nod : a.defers = []
  get : ∀ d c v, lk tm d = some (c, v) → a.tmps[d]? = some (if c = true then v else undef)

def u64 (x : BitVec 64) : Value := .int .u64 (x.toNat : Int)

def cst : Value → Value
  | .int .u64 (.ofNat m) => bif Nat.blt m 18446744073709551616 then u64 (BitVec.ofNat 64 m) else .int .u64 (.ofNat m)
  | v => v

def ev (tm : Tm) : Operand → Option (Bool × Value)
  | .tmp t => lk tm t
  | .const v => some (true, cst v)
  | .global g => some (true, .pointer (some ⟨g, 0, none⟩))
  | .func f => some (true, .func (.func f) #[] #[])

theorem u64_ofNat (m : Nat) (h : m < 18446744073709551616) : u64 (BitVec.ofNat 64 m) = .int .u64 (Int.ofNat m) := by
  unfold u64
  rw [BitVec.toNat_ofNat, Nat.mod_eq_of_lt (by omega)]
  rfl

theorem cst_eq (v : Value) : cst v = v := by
  unfold cst
  split
  · rename_i m
    cases hm : Nat.blt m 18446744073709551616 with
    | true => rw [cond_true]; exact u64_ofNat m (Nat.ble_eq.mp hm)
    | false => rfl
  · rfl

theorem Sim.eval {N : Nat} {tm : Tm} {a : Act} (h : Sim N tm a) {x : Operand} {c : Bool} {v : Value} (he : ev tm x = some (c, v)) (hc : c = true) : a.eval x = v := by
  subst hc
  cases x with
  | tmp t =>
    have := h.get t true v he
    simp only [Act.eval, Array.getD_eq_getD_getElem?, this]
    rfl
  | const u =>
    simp only [ev, cst_eq] at he
    injection he with he
    injection he with _ he
  | global g =>
    simp only [ev] at he
    injection he with he
    injection he with _ he
  | func f =>
    simp only [ev] at he
    injection he with he
    injection he with _ he

theorem Sim.put {N : Nat} {tm : Tm} {a : Act} (h : Sim N tm a) {d : Nat} (hd : d < N) (c : Bool) (v : Value) : Sim N ((d, c, v) :: tm) (a.put (some d) (if c = true then v else undef)) := by
  refine ⟨by simp [Act.put, h.size], h.nod, ?_⟩
  intro d' c' v' hl
  simp only [lk] at hl
  by_cases hdd : d = d'
  · subst hdd
    simp only [Nat.beq_refl, cond_true] at hl
    injection hl with hl
    injection hl with h1 h2
    subst h1; subst h2
    have hs : d < a.tmps.size := by rw [h.size]; exact hd
    simp [Act.put, hs]
  · have hb : Nat.beq d d' = false := by
      cases hq : Nat.beq d d' with
      | true => exact absurd (Nat.eq_of_beq_eq_true hq) hdd
      | false => rfl
    rw [hb, cond_false] at hl
    have := h.get _ _ _ hl
    simp only [Act.put, Array.getElem?_setIfInBounds_ne hdd]
    exact this

def Subs : Tm → Tm → Prop
  | [], _ => True
  | (d, p) :: r, tm => lk tm d = some p ∧ Subs r tm

theorem Subs.lk {t tm : Tm} (h : Subs t tm) : ∀ {d : Nat} {p : Bool × Value}, lk t d = some p → lk tm d = some p := by
  induction t with
  | nil => intro d p hl; cases hl
  | cons e r ih =>
    obtain ⟨k, q⟩ := e
    intro d p hl
    simp only [Eng.lk] at hl
    cases hb : Nat.beq k d with
    | true =>
      rw [hb, cond_true] at hl
      injection hl with hl
      subst hl
      have := Nat.eq_of_beq_eq_true hb
      subst this
      exact h.1
    | false =>
      rw [hb, cond_false] at hl
      exact ih h.2 hl

theorem Sim.sub {N : Nat} {t tm : Tm} {a : Act} (h : Sim N tm a) (hs : Subs t tm) : Sim N t a :=
  ⟨h.size, h.nod, fun d c v hl => h.get d c v (hs.lk hl)⟩

/-! ### memory -/

/-- Owned memory: a variable's block, a slice of the call's own, or something with a footprint. -/
inductive Ent : Type 1 where
  | box (b : Nat) (cs : List Value) (t : TypeId)
  | own {τ : Type} (v : Value) (t : TypeId) (sz : Nat) (enc : τ → List Value) (xs : List τ)
  | gen (fp : List Nat) (ok : World → Prop)

def Ent.fp : Ent → List Nat
  | .box b _ _ => [b]
  | .own v _ _ _ _ => v.ownBlock.toList
  | .gen fp _ => fp

def Ent.ok : Ent → World → Prop
  | .box b cs t, w => w.heap[b]? = some (.cells cs.toArray t (0, 0))
  | .own v t sz enc xs, w => w.ownsRow 0 t sz v xs.length (xs.flatMap enc)
  | .gen fp ok, w => ∀ w', (∀ k, k ∈ fp → w'.heap[k]? = w.heap[k]?) → ok w'

theorem Ent.ok_same {e : Ent} {w w' : World} (h : e.ok w) (hs : ∀ k, k ∈ e.fp → w'.heap[k]? = w.heap[k]?) : e.ok w' := by
  cases e with
  | box b cs t => simp only [Ent.ok] at *; rw [hs b (by simp [Ent.fp])]; exact h
  | own v t sz enc xs =>
    obtain ⟨h1, h2⟩ := h
    refine ⟨h1, ?_⟩
    rcases h2 with h2 | ⟨g, cap, cur, hv, hg, hh, r⟩
    · exact .inl h2
    · exact .inr ⟨g, cap, cur, hv, hg, by rw [hs g (by simp [Ent.fp, hv, Value.ownBlock])]; exact hh, r⟩
  | gen fp ok =>
    intro w'' hs'
    exact h w'' fun k hk => (hs' k hk).trans (hs k hk)

/-- The blocks of B for which S holds are in w as they were in B. -/
structure Agr (S : Nat → Prop) (B w : World) : Prop where
  os : w.os = B.os
  tape : w.tape = B.tape
  output : w.output = B.output
  size : B.heap.size ≤ w.heap.size
  blk : ∀ k, k < B.heap.size → S k → w.heap[k]? = B.heap[k]?

theorem Agr.refl (S : Nat → Prop) (w : World) : Agr S w w := ⟨rfl, rfl, rfl, Nat.le_refl _, fun _ _ _ => rfl⟩

abbrev Base := World × (Nat → Prop)

structure Mem (bs : List Base) (H : List Ent) (w : World) : Prop where
  base : ∀ B, B ∈ bs → Agr B.2 B.1 w
  own : ∀ e, e ∈ H → e.ok w
  inb : ∀ e, e ∈ H → ∀ k, k ∈ e.fp → k < w.heap.size
  apart : ∀ B, B ∈ bs → ∀ e, e ∈ H → ∀ k, k ∈ e.fp → B.2 k → B.1.heap.size ≤ k
  disj : ∀ (i j : Nat) (ei ej : Ent), i ≠ j → H[i]? = some ei → H[j]? = some ej → ∀ k, k ∈ ei.fp → k ∈ ej.fp → False

theorem Mem.tail {bs : List Base} {e : Ent} {H : List Ent} {w : World} (h : Mem bs (e :: H) w) : Mem bs H w :=
  ⟨h.base, fun e he => h.own e (.tail _ he), fun e he => h.inb e (.tail _ he), fun B hB e he => h.apart B hB e (.tail _ he),
   fun i j ei ej hij hi hj => h.disj (i + 1) (j + 1) ei ej (by omega) (by simpa using hi) (by simpa using hj)⟩

theorem Mem.tailB {B : Base} {bs : List Base} {H : List Ent} {w : World} (h : Mem (B :: bs) H w) : Mem bs H w :=
  ⟨fun B hB => h.base B (.tail _ hB), h.own, h.inb, fun B hB => h.apart B (.tail _ hB), h.disj⟩

/-- A new base: the world as it is, but for what is owned. -/
theorem Mem.rebase {bs : List Base} {H : List Ent} {w : World} (h : Mem bs H w) : Mem ((w, fun k => ∀ e, e ∈ H → k ∉ e.fp) :: bs) H w := by
  refine ⟨fun B hB => ?_, h.own, h.inb, fun B hB e he k hk hS => ?_, h.disj⟩
  · rcases List.mem_cons.1 hB with rfl | hB
    · exact Agr.refl _ _
    · exact h.base B hB
  · rcases List.mem_cons.1 hB with rfl | hB
    · exact absurd hk (hS e he)
    · exact h.apart B hB e he k hk hS

/-- A step that turns nothing but the entry's own footprint (and makes new blocks). -/
theorem Mem.upd {bs : List Base} {H : List Ent} {w w' : World} (h : Mem bs H w) {i : Nat} {e e' : Ent} (hi : H[i]? = some e)
    (hos : w'.os = w.os) (htape : w'.tape = w.tape) (hout : w'.output = w.output) (hsz : w.heap.size ≤ w'.heap.size)
    (hblk : ∀ k, k < w.heap.size → k ∉ e.fp → w'.heap[k]? = w.heap[k]?)
    (hok : e'.ok w') (hinb : ∀ k, k ∈ e'.fp → k < w'.heap.size) (hfp : ∀ k, k ∈ e'.fp → k ∈ e.fp ∨ w.heap.size ≤ k) : Mem bs (H.set i e') w' := by
  have hiH : i < H.length := by
    rcases Nat.lt_or_ge i H.length with h' | h'
    · exact h'
    · simp [List.getElem?_eq_none h'] at hi
  have heH : e ∈ H := List.mem_of_getElem? hi
  have mem : ∀ x, x ∈ H.set i e' → x = e' ∨ ∃ j, j ≠ i ∧ H[j]? = some x := by
    intro x hx
    obtain ⟨j, hj⟩ := List.getElem?_of_mem hx
    by_cases hji : i = j
    · subst hji
      rw [List.getElem?_set_self hiH] at hj
      exact .inl (by injection hj with hj; exact hj.symm)
    · rw [List.getElem?_set_ne hji] at hj
      exact .inr ⟨j, fun e => hji e.symm, hj⟩
  have other : ∀ x j, j ≠ i → H[j]? = some x → ∀ k, k ∈ x.fp → k ∉ e.fp ∧ k < w.heap.size := by
    intro x j hj hx k hk
    exact ⟨fun hke => h.disj j i x e hj hx hi k hk hke, h.inb x (List.mem_of_getElem? hx) k hk⟩
  refine ⟨fun B hB => ?_, fun x hx => ?_, fun x hx k hk => ?_, fun B hB x hx k hk hS => ?_, ?_⟩
  · have hb := h.base B hB
    refine ⟨hos.trans hb.os, htape.trans hb.tape, hout.trans hb.output, Nat.le_trans hb.size hsz, fun k hk hS => ?_⟩
    rw [hblk k (Nat.lt_of_lt_of_le hk hb.size) (fun hke => by have := h.apart B hB e heH k hke hS; omega)]
    exact hb.blk k hk hS
  · rcases mem x hx with rfl | ⟨j, hj, hx⟩
    · exact hok
    · exact Ent.ok_same (h.own x (List.mem_of_getElem? hx)) fun k hk => hblk k (other x j hj hx k hk).2 (other x j hj hx k hk).1
  · rcases mem x hx with rfl | ⟨j, hj, hx⟩
    · exact hinb k hk
    · exact Nat.lt_of_lt_of_le (other x j hj hx k hk).2 hsz
  · rcases mem x hx with rfl | ⟨j, hj, hx⟩
    · rcases hfp k hk with hk' | hk'
      · exact h.apart B hB e heH k hk' hS
      · exact Nat.le_trans (h.base B hB).size hk'
    · exact h.apart B hB x (List.mem_of_getElem? hx) k hk hS
  · have aux : ∀ j x, j ≠ i → H[j]? = some x → ∀ k, k ∈ x.fp → k ∈ e'.fp → False := by
      intro j x hj hx k hk hk'
      have := other x j hj hx k hk
      rcases hfp k hk' with h1 | h1
      · exact this.1 h1
      · omega
    intro a b ea eb hab ha hb k hka hkb
    by_cases hai : i = a
    · subst hai
      rw [List.getElem?_set_self hiH] at ha
      injection ha with ha
      subst ha
      rw [List.getElem?_set_ne hab] at hb
      exact aux b eb (fun e => hab e.symm) hb k hkb hka
    · rw [List.getElem?_set_ne hai] at ha
      by_cases hbi : i = b
      · subst hbi
        rw [List.getElem?_set_self hiH] at hb
        injection hb with hb
        subst hb
        exact aux a ea (fun e => hai e.symm) ha k hka hkb
      · rw [List.getElem?_set_ne hbi] at hb
        exact h.disj a b ea eb hab ha hb k hka hkb

/-- A step that turns nothing that was there, and makes one new entry in new blocks. -/
theorem Mem.new {bs : List Base} {H : List Ent} {w w' : World} (h : Mem bs H w) {e' : Ent}
    (hos : w'.os = w.os) (htape : w'.tape = w.tape) (hout : w'.output = w.output) (hsz : w.heap.size ≤ w'.heap.size)
    (hblk : ∀ k, k < w.heap.size → w'.heap[k]? = w.heap[k]?)
    (hok : e'.ok w') (hinb : ∀ k, k ∈ e'.fp → k < w'.heap.size) (hfp : ∀ k, k ∈ e'.fp → w.heap.size ≤ k) : Mem bs (e' :: H) w' := by
  have hH : Mem bs (.gen [] (fun _ => True) :: H) w := by
    refine ⟨h.base, fun x hx => ?_, fun x hx k hk => ?_, fun B hB x hx k hk hS => ?_, fun i j ei ej hij hi hj k hk hk' => ?_⟩
    · rcases List.mem_cons.1 hx with rfl | hx
      · exact fun _ _ => trivial
      · exact h.own x hx
    · rcases List.mem_cons.1 hx with rfl | hx
      · simp [Ent.fp] at hk
      · exact h.inb x hx k hk
    · rcases List.mem_cons.1 hx with rfl | hx
      · simp [Ent.fp] at hk
      · exact h.apart B hB x hx k hk hS
    · cases i with
      | zero => simp at hi; subst hi; simp [Ent.fp] at hk
      | succ i =>
        cases j with
        | zero => simp at hj; subst hj; simp [Ent.fp] at hk'
        | succ j => exact h.disj i j ei ej (by omega) (by simpa using hi) (by simpa using hj) k hk hk'
  exact hH.upd (i := 0) (e' := e') rfl hos htape hout hsz (fun k hk _ => hblk k hk) hok hinb fun k hk => .inr (hfp k hk)

/-- A step that turns nothing that was there. -/
theorem Mem.ext {bs : List Base} {H : List Ent} {w w' : World} (h : Mem bs H w) (hb : Below w.heap.size w w') : Mem bs H w' :=
  (h.new (e' := .gen [] (fun _ => True)) hb.os hb.tape hb.output hb.size hb.block (fun _ _ => trivial) (by simp [Ent.fp]) (by simp [Ent.fp])).tail

theorem Mem.drewN {bs : List Base} {H : List Ent} {w : World} (h : Mem bs H w) : Mem bs H w.drew := h.ext (Below.refl _ _).drew

end Go.Eng

/- Engine, part B: the triples over slots and memory; control; one step for a quiet operation. -/
namespace Go.Eng
universe u
open Go Go.RowKit

/-- From every state that looks so, K. -/
def KP (N : Nat) (K : Act → World → Prop) (tm : Tm) (A : World → Prop) : Prop :=
  ∀ a w, Sim N tm a → A w → K a w

abbrev WC (P : Program) (N : Nat) (c : Code) (Q : Exit → Act → World → Prop) (tm : Tm) (A : World → Prop) : Prop := KP N (c.wp P Q) tm A
abbrev WL (P : Program) (N : Nat) (ops : Array Oper) (Q : Exit → Act → World → Prop) (l : List Oper) (tm : Tm) (A : World → Prop) : Prop := KP N (wpList P ops Q l) tm A
/-- Where a piece of code leaves by e. -/
abbrev PO (N : Nat) (e : Exit) (Q : Exit → Act → World → Prop) (tm : Tm) (A : World → Prop) : Prop := KP N (Q e) tm A

section
variable {P : Program} {N : Nat} {Q Q' : Exit → Act → World → Prop} {tm : Tm} {A A' : World → Prop} {ops : Array Oper} {rest : List Oper}

theorem KP.weak {K : Act → World → Prop} {tm' : Tm} (h : KP N K tm' A') (hs : Subs tm' tm) (hA : ∀ w, A w → A' w) : KP N K tm A :=
  fun a w hsim hw => h a w (hsim.sub hs) (hA w hw)

theorem wc_seq {x y : Code} (h : WC P N x (Exit.then (fun a w => y.wp P Q a w) Q) tm A) : WC P N (.seq x y) Q tm A :=
  fun a w hs hw => wp_seq (h a w hs hw)

theorem wc_skip (h : PO N .normal Q tm A) : WC P N .skip Q tm A := fun a w hs hw => wp_skip (h a w hs hw)
theorem wc_ret (h : PO N .ret Q tm A) : WC P N .ret Q tm A := fun a w hs hw => wp_ret (h a w hs hw)
theorem wc_exit {id : Nat} (h : PO N (.exit id) Q tm A) : WC P N (.exit id) Q tm A := fun a w hs hw => wp_exit (h a w hs hw)
theorem wc_block {id : Nat} {c : Code} (h : WC P N c (Exit.inBlock id Q) tm A) : WC P N (.block id c) Q tm A := fun a w hs hw => wp_block (h a w hs hw)

theorem po_then {y : Code} (h : WC P N y Q tm A) : PO N .normal (Exit.then (fun a w => y.wp P Q a w) Q') tm A := h
theorem po_then_ret {K : Act → World → Prop} (h : PO N .ret Q tm A) : PO N .ret (Exit.then K Q) tm A := h
theorem po_then_exit {K : Act → World → Prop} {id : Nat} (h : PO N (.exit id) Q tm A) : PO N (.exit id) (Exit.then K Q) tm A := h
theorem po_block {id : Nat} (h : PO N .normal Q tm A) : PO N .normal (Exit.inBlock id Q) tm A := h
theorem po_block_ret {id : Nat} (h : PO N .ret Q tm A) : PO N .ret (Exit.inBlock id Q) tm A := h
theorem po_block_exit {id : Nat} (h : PO N .normal Q tm A) : PO N (.exit id) (Exit.inBlock id Q) tm A := fun a w hs hw => by
  show (if id = id then Q .normal a w else _)
  rw [if_pos rfl]; exact h a w hs hw
theorem po_block_pass {id id' : Nat} (hne : Nat.beq id' id = false) (h : PO N (.exit id') Q tm A) : PO N (.exit id') (Exit.inBlock id Q) tm A := fun a w hs hw => by
  show (if id' = id then Q .normal a w else Q (.exit id') a w)
  rw [if_neg (Nat.ne_of_beq_eq_false hne)]; exact h a w hs hw

theorem wc_cond {x : Operand} {b : Bool} {c d : Code} (hx : ev tm x = some (true, .bool b)) (ht : b = true → WC P N c Q tm A) (hf : b = false → WC P N d Q tm A) :
    WC P N (.cond x c d) Q tm A := fun a w hs hw => wp_cond_split (hs.eval hx rfl) (fun h => ht h a w hs hw) (fun h => hf h a w hs hw)

/-- what a loop's round, or a cut, comes to -/
def LQ (N : Nat) {σ : Type u} (J : σ → Prop) (T : σ → Tm) (I : σ → World → Prop) (μ : σ → Nat) (s : σ) : Act → World → Prop := fun a w => ∃ s', J s' ∧ μ s' < μ s ∧ Sim N (T s') a ∧ I s' w
def CQ (N : Nat) {σ : Type u} (J : σ → Prop) (T : σ → Tm) (I : σ → World → Prop) : Act → World → Prop := fun a w => ∃ s, J s ∧ Sim N (T s) a ∧ I s w

/-- The ways meet again. -/
theorem wc_cut {x y : Code} {σ : Type u} (J : σ → Prop) (T : σ → Tm) (I : σ → World → Prop)
    (h : WC P N x (Exit.then (CQ N J T I) Q) tm A) (hy : ∀ s, J s → WC P N y Q (T s) (I s)) : WC P N (.seq x y) Q tm A :=
  fun a w hs hw => wp_seq (wp_mono (h a w hs hw) fun e a' w' q => by
    cases e with
    | normal => obtain ⟨s, hJ, hsim, hI⟩ := q; exact hy s hJ a' w' hsim hI
    | _ => exact q)

theorem po_cut {σ : Type u} {J : σ → Prop} {T : σ → Tm} {I : σ → World → Prop} (s : σ) (hJ : J s) (hs : Subs (T s) tm) (hA : ∀ w, A w → I s w) :
    PO N .normal (Exit.then (CQ N J T I) Q) tm A := fun _ w hsim hw => ⟨s, hJ, hsim.sub hs, hA w hw⟩

theorem wc_loop {c : Code} {σ : Type u} (J : σ → Prop) (T : σ → Tm) (I : σ → World → Prop) (μ : σ → Nat) (s0 : σ) (h0 : J s0) (hs0 : Subs (T s0) tm) (hA : ∀ w, A w → I s0 w)
    (body : ∀ s, J s → WC P N c (Exit.then (LQ N J T I μ s) Q) (T s) (I s)) : WC P N (.loop c) Q tm A := by
  intro a w hs hw
  have key : ∀ n s, μ s = n → J s → ∀ a w, Sim N (T s) a → I s w → (Code.loop c).wp P Q a w := by
    intro n s hn hJ a w hsim hI
    refine wp_loop (fun a w => ∃ s, J s ∧ Sim N (T s) a ∧ I s w) (fun a w => Classical.epsilon fun m => (∃ s, J s ∧ Sim N (T s) a ∧ I s w ∧ μ s = m) ∧ ∀ s, J s → Sim N (T s) a → I s w → m ≤ μ s) ⟨s, hJ, hsim, hI⟩ ?_
    intro a w hex
    -- the least measure of a state that fits
    have least : ∃ m, (∃ s, J s ∧ Sim N (T s) a ∧ I s w ∧ μ s = m) ∧ ∀ s, J s → Sim N (T s) a → I s w → m ≤ μ s := by
      obtain ⟨s, h1, h2, h3⟩ := hex
      generalize hk : μ s = k
      induction k using Nat.strongRecOn generalizing s with
      | ind k ih =>
        by_cases hlt : ∃ s', J s' ∧ Sim N (T s') a ∧ I s' w ∧ μ s' < k
        · obtain ⟨s', g1, g2, g3, g4⟩ := hlt
          exact ih _ g4 s' g1 g2 g3 rfl
        · exact ⟨k, ⟨s, h1, h2, h3, hk⟩, fun s' g1 g2 g3 => Nat.le_of_not_lt fun g4 => hlt ⟨s', g1, g2, g3, g4⟩⟩
    obtain ⟨⟨s, h1, h2, h3, h4⟩, hmin⟩ := Classical.epsilon_spec least
    refine wp_mono (body s h1 a w h2 h3) fun e a' w' q => ?_
    cases e with
    | normal =>
      obtain ⟨s', g1, g2, g3, g4⟩ := q
      have least' : ∃ m, (∃ s, J s ∧ Sim N (T s) a' ∧ I s w' ∧ μ s = m) ∧ ∀ s, J s → Sim N (T s) a' → I s w' → m ≤ μ s := by
        generalize hk : μ s' = k at g2
        clear g2
        induction k using Nat.strongRecOn generalizing s' with
        | ind k ih =>
          by_cases hlt : ∃ s', J s' ∧ Sim N (T s') a' ∧ I s' w' ∧ μ s' < k
          · obtain ⟨s'', g1, g2, g3, g4⟩ := hlt
            exact ih _ g4 s'' g1 g2 g3 rfl
          · exact ⟨k, ⟨s', g1, g3, g4, hk⟩, fun s' g1 g2 g3 => Nat.le_of_not_lt fun g4 => hlt ⟨s', g1, g2, g3, g4⟩⟩
      have hm' := Classical.epsilon_spec least'
      refine ⟨⟨s', g1, g3, g4⟩, ?_⟩
      exact Nat.lt_of_le_of_lt (hm'.2 s' g1 g3 g4) (Nat.lt_of_lt_of_le g2 (Nat.le_of_eq h4))
    | _ => exact q
  exact key _ s0 rfl h0 a w (hs.sub hs0) (hA w hw)

theorem po_loop {σ : Type u} {J : σ → Prop} {T : σ → Tm} {I : σ → World → Prop} {μ : σ → Nat} {s : σ} (s' : σ) (hJ : J s') (hμ : μ s' < μ s) (hs : Subs (T s') tm) (hA : ∀ w, A w → I s' w) :
    PO N .normal (Exit.then (LQ N J T I μ s) Q) tm A := fun _ w hsim hw => ⟨s', hJ, hμ, hsim.sub hs, hA w hw⟩

theorem wc_region {id : Nat} {l : List Oper} (h : WL P N l.toArray Q l tm A) : WC P N (.region id l.toArray false) Q tm A := fun a w hs hw => wp_region_lit (h a w hs hw)

theorem wl_nil (h : PO N .normal Q tm A) : WL P N ops Q [] tm A := h

/-- One operation that leaves the world alone. -/
def QY (P : Program) (N : Nat) (op : Op) (tm : Tm) (A : World → Prop) (c : Bool) (v : Value) : Prop :=
  c = true → ∀ (a : Act) (w : World) (d : Option Tmp) (ty : TypeId) (pos : String) (aft : Array Edge) (g : Option (Nat × Bool)), Sim N tm a → A w →
    (execOp a.eval ⟨d, op, ty, pos, aft, g⟩).run P w = .ok (.value v) w

theorem wl_q {d : Nat} {op : Op} {ty : TypeId} {pos : String} {aft : Array Edge} {v : Value} (h : QY P N op tm A true v) (hd : Nat.blt d N = true)
    (next : WL P N ops Q rest ((d, true, v) :: tm) A) : WL P N ops Q (⟨some d, op, ty, pos, aft, none⟩ :: rest) tm A := by
  intro a w hs hw
  refine wpList_plain rfl fun K hK => ?_
  unfold Oper.wp
  rw [h rfl a w _ _ _ _ _ hs hw]
  exact hK _ _ (next _ _ (by simpa using hs.put (Nat.ble_eq.mp hd) true v) hw)

theorem yields_bool {a : Act} {j g : Nat} {cg b : Bool} (hs : Sim N tm a) (hj : (ops[j]?).bind (·.dst) = some g) (hg : lk tm g = some (cg, .bool b)) :
    yielded ops a.tmps j = if cg = true then some b else none := by
  unfold yielded
  rw [hj]
  simp only [Option.bind_some, hs.get _ _ _ hg]
  cases cg <;> rfl

/-- A guarded one. -/
theorem wl_qg {d j g : Nat} {want cg b c : Bool} {op : Op} {ty : TypeId} {pos : String} {aft : Array Edge} {v : Value} (hj : (ops[j]?).bind (·.dst) = some g)
    (hg : lk tm g = some (cg, .bool b)) (hc : c = (cg && (b == want))) (h : QY P N op tm A c v) (hd : Nat.blt d N = true)
    (next : WL P N ops Q rest ((d, c, v) :: tm) A) : WL P N ops Q (⟨some d, op, ty, pos, aft, some (j, want)⟩ :: rest) tm A := by
  intro a w hs hw
  refine wpList_step fun K hK => ?_
  have hy := yields_bool (ops := ops) hs hj hg
  unfold Region.wanted
  simp only [hy]
  have hd' := Nat.ble_eq.mp hd
  by_cases hcc : c = true
  · have h1 : cg = true ∧ b = want := by
      rw [hcc] at hc
      have := hc.symm
      simp only [Bool.and_eq_true, beq_iff_eq] at this
      exact this
    rw [h1.1, h1.2]
    simp only [if_true, beq_self_eq_true]
    unfold Oper.wp
    rw [h hcc a w _ _ _ _ _ hs hw]
    exact hK _ _ (next _ _ (by simpa [hcc] using hs.put hd' c v) hw)
  · have h1 : ((if cg = true then some b else none) == some want) = false := by
      cases cg <;> simp at hc ⊢
      intro hb
      exact hcc (by rw [hc, hb]; simp)
    rw [h1]
    simp only [Bool.false_eq_true, if_false]
    exact hK _ _ (next _ _ (by simpa [hcc] using hs.put hd' c v) hw)

theorem gc_tt (b : Bool) : b = (true && (b == true)) := by cases b <;> rfl
theorem gc_tf (b : Bool) : (!b) = (true && (b == false)) := by cases b <;> rfl
theorem gc_st (c b : Bool) : (c && b) = (c && (b == true)) := by cases b <;> rfl
theorem gc_sf (c b : Bool) : (c && !b) = (c && (b == false)) := by cases b <;> rfl

/-- One operation that may turn the world, handed on to K. -/
def FX (P : Program) (N : Nat) (op : Op) (dst : Option Tmp) (Q : Exit → Act → World → Prop) (tm : Tm) (A : World → Prop) (K : Act → World → Prop) : Prop :=
  ∀ (a : Act) (w : World) (ty : TypeId) (pos : String) (aft : Array Edge) (g : Option (Nat × Bool)), Sim N tm a → A w → Oper.wp P ⟨dst, op, ty, pos, aft, g⟩ a w K Q

theorem wl_fx {dst : Option Tmp} {op : Op} {ty : TypeId} {pos : String} {aft : Array Edge} (h : FX P N op dst Q tm A (wpList P ops Q rest)) :
    WL P N ops Q (⟨dst, op, ty, pos, aft, none⟩ :: rest) tm A := by
  intro a w hs hw
  refine wpList_plain rfl fun K hK => ?_
  exact Oper.wp_mono (fun a w h => hK a w h) (h a w ty pos aft none hs hw)

/-- A guarded one that is called for. -/
theorem wl_gyes {dst : Option Tmp} {j g : Nat} {want b : Bool} {op : Op} {ty : TypeId} {pos : String} {aft : Array Edge} (hj : (ops[j]?).bind (·.dst) = some g)
    (hg : lk tm g = some (true, .bool b)) (hb : b = want) (h : WL P N ops Q (⟨dst, op, ty, pos, aft, none⟩ :: rest) tm A) :
    WL P N ops Q (⟨dst, op, ty, pos, aft, some (j, want)⟩ :: rest) tm A := by
  intro a w hs hw
  have h1 := h a w hs hw
  unfold wpList at h1 ⊢
  have hy := yields_bool (ops := ops) hs hj hg
  rw [if_pos (by simp [Region.wanted])] at h1
  rw [if_pos (by simp [Region.wanted, hy, hb])]
  exact h1

end
end Go.Eng

/- Engine, part C: the quiet operations, one lemma each. -/
namespace Go.Eng
open Go Go.RowKit

class TU (P : Program) (t : TypeId) (d : outParam TypeDesc) : Prop where
  h : P.underlying t = some d
class TS (P : Program) (t : TypeId) (n : outParam Nat) (z : outParam Value) (b : outParam Nat) : Prop where
  h : ∃ i, P.info? t = some i ∧ i.size = n ∧ i.zero = some z ∧ i.bytes = b

/-- What an operand holds where the condition c holds. -/
def EV (tm : Tm) (c : Bool) (x : Operand) (v : Value) : Prop := ∃ cx, ev tm x = some (cx, v) ∧ (c = true → cx = true)

theorem and_l {a b : Bool} (h : (a && b) = true) : a = true := by cases a <;> simp_all
theorem and_r {a b : Bool} (h : (a && b) = true) : b = true := by cases a <;> simp_all
theorem EV.get {N : Nat} {tm : Tm} {a : Act} {c : Bool} {x : Operand} {v : Value} (h : EV tm c x v) (hs : Sim N tm a) (hc : c = true) : a.eval x = v := by
  obtain ⟨cx, h1, h2⟩ := h
  exact hs.eval h1 (h2 hc)

/-- The element's field's address in a slice. -/
def elt (v : Value) (sz i o : Nat) : Addr :=
  match v with
  | .slice (some a) _ _ => (a.add (i * sz)).add o
  | _ => (⟨0, 0, none⟩ : Addr).add o

theorem add_add (a : Addr) (m n : Nat) : (a.add m).add n = a.add (m + n) := by
  unfold Addr.add
  by_cases hm : m = 0
  · subst hm; simp
  · by_cases hn : n = 0
    · subst hn; simp [hm]
    · simp [hm, hn, Nat.add_assoc]

theorem add_block (a : Addr) (m : Nat) : (a.add m).block = a.block := by unfold Addr.add; split <;> rfl

/-- A slice that reads as a list of rows in the blocks of which S holds. -/
structure Sl {τ : Type} (S : Nat → Prop) (w : World) (enc : τ → List Value) (sz : Nat) (v : Value) (xs : List τ) : Prop where
  is : ∃ a n cap, v = .slice a n cap ∧ n = xs.length ∧ n ≤ cap ∧ cap ≤ maxLen ∧ (0 < n → a.isSome = true)
  cell : ∀ i x j u, xs[i]? = some x → (enc x)[j]? = some u → w.cell? (elt v sz i j) = some u
  inS : ∀ a n cap, v = .slice (some a) n cap → 0 < n → S a.block

theorem Sl.len {τ : Type} {S : Nat → Prop} {w : World} {enc : τ → List Value} {sz : Nat} {v : Value} {xs : List τ} (h : Sl S w enc sz v xs) : ∃ a cap, v = .slice a xs.length cap ∧ xs.length ≤ cap ∧ cap ≤ maxLen := by
  obtain ⟨a, n, cap, h1, h2, h3, h4, _⟩ := h.is
  subst h2
  exact ⟨a, cap, h1, h3, h4⟩

theorem Sl.le {τ : Type} {S : Nat → Prop} {w : World} {enc : τ → List Value} {sz : Nat} {v : Value} {xs : List τ} (h : Sl S w enc sz v xs) : xs.length ≤ 9223372036854775807 := by
  obtain ⟨_, cap, _, h1, h2⟩ := h.len
  unfold maxLen at h2
  omega

theorem cell_of_agr {S : Nat → Prop} {B w : World} (h : Agr S B w) {a : Addr} {v : Value} (hS : S a.block) (hc : B.cell? a = some v) : w.cell? a = some v := by
  have hlt := World.block_lt_of_cell? B a hc
  rw [← hc]
  exact World.cell?_of_block (h.blk _ hlt hS)

theorem Sl.mono {τ : Type} {S S' : Nat → Prop} {B w : World} {enc : τ → List Value} {sz : Nat} {v : Value} {xs : List τ} (h : Sl S B enc sz v xs) (hA : Agr S B w) (hSS : ∀ k, k < B.heap.size → S k → S' k) (hne : ∀ x, x ∈ xs → enc x ≠ []) : Sl S' w enc sz v xs := by
  refine ⟨h.is, ?_, ?_⟩
  · intro i x j u hi hj
    have hc := h.cell i x j u hi hj
    obtain ⟨a, n, cap, hv, hn, _, _, hso⟩ := h.is
    have hil : i < xs.length := by
      rcases Nat.lt_or_ge i xs.length with h' | h'
      · exact h'
      · simp [List.getElem?_eq_none h'] at hi
    have hpos : 0 < n := by omega
    obtain ⟨A, rfl⟩ := Option.isSome_iff_exists.1 (hso hpos)
    subst hv
    refine cell_of_agr hA ?_ hc
    simp only [elt, add_block]
    exact h.inS A n cap rfl hpos
  · intro A n cap hv hpos
    have hS := h.inS A n cap hv hpos
    obtain ⟨a', n', cap', hv', hn', _⟩ := h.is
    rw [hv] at hv'
    injection hv' with e1 e2 e3
    subst e1; subst e2; subst e3
    cases xs with
    | nil => simp at hn'; omega
    | cons x xs =>
      cases he : enc x with
      | nil => exact absurd he (hne x (by simp))
      | cons u r =>
        have hc := h.cell 0 x 0 u (by simp) (by rw [he]; rfl)
        have hlt := World.block_lt_of_cell? B _ hc
        subst hv
        simp only [elt, add_block] at hlt
        exact hSS _ hlt hS

section
variable {P : Program} {N : Nat} {tm : Tm} {A : World → Prop} {c : Bool} {bs : List Base} {H : List Ent}

theorem qy_move {x : Operand} {v : Value} (hx : EV tm c x v := by first | exact ⟨_, rfl, fun _ => rfl⟩ | exact ⟨_, rfl, fun h => h⟩ | exact ⟨_, rfl, and_l⟩) : QY P N (.move x) tm A c v :=
  fun hc a w _ _ _ _ _ hs _ => by simp only [execOp, hx.get hs hc]; rfl
theorem qy_assign {x : Operand} {v : Value} (hx : EV tm c x v := by first | exact ⟨_, rfl, fun _ => rfl⟩ | exact ⟨_, rfl, fun h => h⟩ | exact ⟨_, rfl, and_l⟩) : QY P N (.assign x) tm A c v :=
  fun hc a w _ _ _ _ _ hs _ => by simp only [execOp, hx.get hs hc]; rfl

theorem run_v {s : Sem Value} {v : Value} {w : World} (h : s.run P w = .ok v w) : (do pure (Next.value (← s)) : Sem Next).run P w = .ok (.value v) w := by
  simp [h]

/-- 'x && y' -/
theorem qy_pick_and {x y : Operand} {b d : Bool} (hx : EV tm c x (.bool b) := by first | exact ⟨_, rfl, fun _ => rfl⟩ | exact ⟨_, rfl, fun h => h⟩ | exact ⟨_, rfl, and_l⟩)
    (hy : EV tm (c && b) y (.bool d) := by first | exact ⟨_, rfl, fun _ => rfl⟩ | exact ⟨_, rfl, and_r⟩ | exact ⟨_, rfl, fun h => h⟩ | exact ⟨_, rfl, and_l⟩) : QY P N (.pick x y (.const (.bool false))) tm A c (.bool (b && d)) :=
  fun hc a w _ _ _ _ _ hs _ => by
    simp only [execOp, hx.get hs hc]
    cases b with
    | false => rfl
    | true => rw [hy.get hs (by rw [hc]; rfl)]; rfl
/-- 'x || y' -/
theorem qy_pick_or {x y : Operand} {b d : Bool} (hx : EV tm c x (.bool b) := by first | exact ⟨_, rfl, fun _ => rfl⟩ | exact ⟨_, rfl, fun h => h⟩ | exact ⟨_, rfl, and_l⟩)
    (hy : EV tm (c && !b) y (.bool d) := by first | exact ⟨_, rfl, fun _ => rfl⟩ | exact ⟨_, rfl, and_r⟩ | exact ⟨_, rfl, fun h => h⟩ | exact ⟨_, rfl, and_l⟩) : QY P N (.pick x (.const (.bool true)) y) tm A c (.bool (b || d)) :=
  fun hc a w _ _ _ _ _ hs _ => by
    simp only [execOp, hx.get hs hc]
    cases b with
    | true => rfl
    | false => rw [hy.get hs (by rw [hc]; rfl)]; rfl

/-! integers -/
theorem qy_int2 {op : BinOp} {t t' : TypeId} {x y : Operand} {k : IntKind} {m n : Int} {v : Value} (hx : EV tm c x (.int k m)) (hy : EV tm c y (.int k n))
    (hr : ∀ w, (binOp op t (.int k m) (.int k n)).run P w = .ok v w) : QY P N (.binOp op t x y t') tm A c v :=
  fun hc a w _ _ _ _ _ hs _ => by
    simp only [execOp, hx.get hs hc, hy.get hs hc]
    have hg : (eqGuard op t x y (.int k m) (.int k n)).run P w = .ok () w := by
      unfold eqGuard
      cases op <;> rfl
    simp [hg, hr w]

def inI (k : IntKind) (n : Int) : Prop := k.wrap n = n
theorem inI_i64 {n : Int} (h : -9223372036854775808 ≤ n ∧ n ≤ 9223372036854775807) : inI .i64 n := by
  unfold inI; rw [IntKind.wrap_i64]; omega

theorem qy_add {t t' : TypeId} {x y : Operand} {m n : Int} (hx : EV tm c x (.int .i64 m) := by first | exact ⟨_, rfl, fun _ => rfl⟩ | exact ⟨_, rfl, fun h => h⟩ | exact ⟨_, rfl, and_l⟩)
    (hy : EV tm c y (.int .i64 n) := by first | exact ⟨_, rfl, fun _ => rfl⟩ | exact ⟨_, rfl, fun h => h⟩ | exact ⟨_, rfl, and_l⟩)
    (hb : c = true → -9223372036854775808 ≤ m + n ∧ m + n ≤ 9223372036854775807 := by (intro _; omega)) : QY P N (.binOp .add t x y t') tm A c (.int .i64 (m + n)) :=
  fun hc => qy_int2 hx hy (fun w => by have h := inI_i64 (hb hc); unfold inI at h; simp [binOp, Op.intArith, h]) hc
theorem qy_sub {t t' : TypeId} {x y : Operand} {m n : Int} (hx : EV tm c x (.int .i64 m) := by first | exact ⟨_, rfl, fun _ => rfl⟩ | exact ⟨_, rfl, fun h => h⟩ | exact ⟨_, rfl, and_l⟩)
    (hy : EV tm c y (.int .i64 n) := by first | exact ⟨_, rfl, fun _ => rfl⟩ | exact ⟨_, rfl, fun h => h⟩ | exact ⟨_, rfl, and_l⟩)
    (hb : c = true → -9223372036854775808 ≤ m - n ∧ m - n ≤ 9223372036854775807 := by (intro _; omega)) : QY P N (.binOp .sub t x y t') tm A c (.int .i64 (m - n)) :=
  fun hc => qy_int2 hx hy (fun w => by have h := inI_i64 (hb hc); unfold inI at h; simp [binOp, Op.intArith, h]) hc
theorem qy_mul {t t' : TypeId} {x y : Operand} {m n : Int} (hx : EV tm c x (.int .i64 m) := by first | exact ⟨_, rfl, fun _ => rfl⟩ | exact ⟨_, rfl, fun h => h⟩ | exact ⟨_, rfl, and_l⟩)
    (hy : EV tm c y (.int .i64 n) := by first | exact ⟨_, rfl, fun _ => rfl⟩ | exact ⟨_, rfl, fun h => h⟩ | exact ⟨_, rfl, and_l⟩)
    (hb : c = true → -9223372036854775808 ≤ m * n ∧ m * n ≤ 9223372036854775807 := by (intro _; omega)) : QY P N (.binOp .mul t x y t') tm A c (.int .i64 (m * n)) :=
  fun hc => qy_int2 hx hy (fun w => by have h := inI_i64 (hb hc); unfold inI at h; simp [binOp, Op.intArith, h]) hc

/-- A test, closed to whoever unfolds. -/
def dc (p : Prop) [Decidable p] : Bool := decide p
theorem dc_true {p : Prop} [Decidable p] : (dc p = true) = p := by unfold dc; simp
theorem dc_false {p : Prop} [Decidable p] : (dc p = false) = ¬ p := by unfold dc; simp
theorem dc_eq {p : Prop} [Decidable p] : dc p = decide p := rfl

/-- A comparison of integers of whatever kind. -/
def cmpI : BinOp → Int → Int → Bool
  | .eql, m, n => dc (m = n)
  | .neq, m, n => !dc (m = n)
  | .lss, m, n => dc (m < n)
  | .leq, m, n => dc (m ≤ n)
  | .gtr, m, n => dc (n < m)
  | .geq, m, n => dc (n ≤ m)
  | _, _, _ => false
theorem qy_cmp {op : BinOp} {t t' : TypeId} {x y : Operand} {k : IntKind} {m n : Int} {b : Bool} (hx : EV tm c x (.int k m)) (hy : EV tm c y (.int k n))
    (ho : op = .eql ∨ op = .neq ∨ op = .lss ∨ op = .leq ∨ op = .gtr ∨ op = .geq) (hb : cmpI op m n = b) : QY P N (.binOp op t x y t') tm A c (.bool b) := by
  subst hb
  refine fun hc => qy_int2 hx hy (fun w => ?_) hc
  rcases ho with rfl | rfl | rfl | rfl | rfl | rfl <;> simp [binOp, Op.intCmp, cmpI, dc]
  · exact decide_eq_decide.2 Iff.rfl
  · simp [bne]
    exact decide_eq_decide.2 Iff.rfl

section
variable {Q : Exit → Act → World → Prop}
/-- A test that is a proposition. -/
theorem wc_cond_dec {x : Operand} {p : Prop} [Decidable p] {c d : Code} (hx : ev tm x = some (true, .bool (dc p))) (ht : p → WC P N c Q tm A) (hf : ¬ p → WC P N d Q tm A) :
    WC P N (.cond x c d) Q tm A := wc_cond hx (fun h => ht ((dc_true (p := p)).mp h)) (fun h => hf ((dc_false (p := p)).mp h))

end
end
end Go.Eng

/- Engine, part D: comparisons, words of 64 bits, conversions, memory reads. -/
namespace Go.Eng
open Go Go.RowKit
section
variable {P : Program} {N : Nat} {tm : Tm} {A : World → Prop} {c : Bool} {bs : List Base} {H : List Ent}

theorem qy_eql {t t' : TypeId} {x y : Operand} {m n : Int} (hx : EV tm c x (.int .i64 m) := by first | exact ⟨_, rfl, fun _ => rfl⟩ | exact ⟨_, rfl, fun h => h⟩ | exact ⟨_, rfl, and_l⟩)
    (hy : EV tm c y (.int .i64 n) := by first | exact ⟨_, rfl, fun _ => rfl⟩ | exact ⟨_, rfl, fun h => h⟩ | exact ⟨_, rfl, and_l⟩) : QY P N (.binOp .eql t x y t') tm A c (.bool (dc (m = n))) := qy_cmp hx hy (by simp) rfl

theorem qy_neq {t t' : TypeId} {x y : Operand} {m n : Int} (hx : EV tm c x (.int .i64 m) := by first | exact ⟨_, rfl, fun _ => rfl⟩ | exact ⟨_, rfl, fun h => h⟩ | exact ⟨_, rfl, and_l⟩)
    (hy : EV tm c y (.int .i64 n) := by first | exact ⟨_, rfl, fun _ => rfl⟩ | exact ⟨_, rfl, fun h => h⟩ | exact ⟨_, rfl, and_l⟩) : QY P N (.binOp .neq t x y t') tm A c (.bool (!dc (m = n))) := qy_cmp hx hy (by simp) rfl

theorem qy_lss {t t' : TypeId} {x y : Operand} {m n : Int} (hx : EV tm c x (.int .i64 m) := by first | exact ⟨_, rfl, fun _ => rfl⟩ | exact ⟨_, rfl, fun h => h⟩ | exact ⟨_, rfl, and_l⟩)
    (hy : EV tm c y (.int .i64 n) := by first | exact ⟨_, rfl, fun _ => rfl⟩ | exact ⟨_, rfl, fun h => h⟩ | exact ⟨_, rfl, and_l⟩) : QY P N (.binOp .lss t x y t') tm A c (.bool (dc (m < n))) := qy_cmp hx hy (by simp) rfl

theorem qy_leq {t t' : TypeId} {x y : Operand} {m n : Int} (hx : EV tm c x (.int .i64 m) := by first | exact ⟨_, rfl, fun _ => rfl⟩ | exact ⟨_, rfl, fun h => h⟩ | exact ⟨_, rfl, and_l⟩)
    (hy : EV tm c y (.int .i64 n) := by first | exact ⟨_, rfl, fun _ => rfl⟩ | exact ⟨_, rfl, fun h => h⟩ | exact ⟨_, rfl, and_l⟩) : QY P N (.binOp .leq t x y t') tm A c (.bool (dc (m ≤ n))) := qy_cmp hx hy (by simp) rfl

theorem qy_gtr {t t' : TypeId} {x y : Operand} {m n : Int} (hx : EV tm c x (.int .i64 m) := by first | exact ⟨_, rfl, fun _ => rfl⟩ | exact ⟨_, rfl, fun h => h⟩ | exact ⟨_, rfl, and_l⟩)
    (hy : EV tm c y (.int .i64 n) := by first | exact ⟨_, rfl, fun _ => rfl⟩ | exact ⟨_, rfl, fun h => h⟩ | exact ⟨_, rfl, and_l⟩) : QY P N (.binOp .gtr t x y t') tm A c (.bool (dc (n < m))) := qy_cmp hx hy (by simp) rfl

theorem qy_geq {t t' : TypeId} {x y : Operand} {m n : Int} (hx : EV tm c x (.int .i64 m) := by first | exact ⟨_, rfl, fun _ => rfl⟩ | exact ⟨_, rfl, fun h => h⟩ | exact ⟨_, rfl, and_l⟩)
    (hy : EV tm c y (.int .i64 n) := by first | exact ⟨_, rfl, fun _ => rfl⟩ | exact ⟨_, rfl, fun h => h⟩ | exact ⟨_, rfl, and_l⟩) : QY P N (.binOp .geq t x y t') tm A c (.bool (dc (n ≤ m))) := qy_cmp hx hy (by simp) rfl

theorem u64_toInt (x : BitVec 64) : BitVec.ofInt 64 ((x.toNat : Nat) : Int) = x := by simp

theorem wrap_u64_nat (n : Nat) : IntKind.u64.wrap (n : Int) = ((n % 2 ^ 64 : Nat) : Int) := by
  rw [IntKind.wrap_u64]; omega

theorem u64_inj {x y : BitVec 64} : ((x.toNat : Nat) : Int) = ((y.toNat : Nat) : Int) ↔ x = y := by
  constructor
  · intro h; exact BitVec.eq_of_toNat_eq (by omega)
  · intro h; rw [h]

theorem qy_eql64 {t t' : TypeId} {x y : Operand} {m n : BitVec 64} (hx : EV tm c x (u64 m) := by first | exact ⟨_, rfl, fun _ => rfl⟩ | exact ⟨_, rfl, fun h => h⟩ | exact ⟨_, rfl, and_l⟩)
    (hy : EV tm c y (u64 n) := by first | exact ⟨_, rfl, fun _ => rfl⟩ | exact ⟨_, rfl, fun h => h⟩ | exact ⟨_, rfl, and_l⟩) : QY P N (.binOp .eql t x y t') tm A c (.bool (dc (m = n))) :=
  qy_cmp hx hy (by simp) (by simp only [cmpI, u64_inj])

theorem qy_neq64 {t t' : TypeId} {x y : Operand} {m n : BitVec 64} (hx : EV tm c x (u64 m) := by first | exact ⟨_, rfl, fun _ => rfl⟩ | exact ⟨_, rfl, fun h => h⟩ | exact ⟨_, rfl, and_l⟩)
    (hy : EV tm c y (u64 n) := by first | exact ⟨_, rfl, fun _ => rfl⟩ | exact ⟨_, rfl, fun h => h⟩ | exact ⟨_, rfl, and_l⟩) : QY P N (.binOp .neq t x y t') tm A c (.bool (!dc (m = n))) :=
  qy_cmp hx hy (by simp) (by simp only [cmpI, u64_inj])

theorem qy_and64 {t t' : TypeId} {x y : Operand} {m n : BitVec 64} (hx : EV tm c x (u64 m) := by first | exact ⟨_, rfl, fun _ => rfl⟩ | exact ⟨_, rfl, fun h => h⟩ | exact ⟨_, rfl, and_l⟩)
    (hy : EV tm c y (u64 n) := by first | exact ⟨_, rfl, fun _ => rfl⟩ | exact ⟨_, rfl, fun h => h⟩ | exact ⟨_, rfl, and_l⟩) : QY P N (.binOp .and t x y t') tm A c (u64 (m &&& n)) :=
  fun hc => qy_int2 hx hy (fun w => by
    simp only [binOp, Op.intBits, ne_eq, not_true, if_false, IntKind.bits, u64_toInt]
    show Result.ok (Value.int .u64 (IntKind.u64.wrap ((m &&& n).toNat : Int))) w = _
    rw [wrap_u64_nat, Nat.mod_eq_of_lt (BitVec.isLt _)]; rfl) hc

theorem qy_or64 {t t' : TypeId} {x y : Operand} {m n : BitVec 64} (hx : EV tm c x (u64 m) := by first | exact ⟨_, rfl, fun _ => rfl⟩ | exact ⟨_, rfl, fun h => h⟩ | exact ⟨_, rfl, and_l⟩)
    (hy : EV tm c y (u64 n) := by first | exact ⟨_, rfl, fun _ => rfl⟩ | exact ⟨_, rfl, fun h => h⟩ | exact ⟨_, rfl, and_l⟩) : QY P N (.binOp .or t x y t') tm A c (u64 (m ||| n)) :=
  fun hc => qy_int2 hx hy (fun w => by
    simp only [binOp, Op.intBits, ne_eq, not_true, if_false, IntKind.bits, u64_toInt]
    show Result.ok (Value.int .u64 (IntKind.u64.wrap ((m ||| n).toNat : Int))) w = _
    rw [wrap_u64_nat, Nat.mod_eq_of_lt (BitVec.isLt _)]; rfl) hc

theorem qy_xor64 {t t' : TypeId} {x y : Operand} {m n : BitVec 64} (hx : EV tm c x (u64 m) := by first | exact ⟨_, rfl, fun _ => rfl⟩ | exact ⟨_, rfl, fun h => h⟩ | exact ⟨_, rfl, and_l⟩)
    (hy : EV tm c y (u64 n) := by first | exact ⟨_, rfl, fun _ => rfl⟩ | exact ⟨_, rfl, fun h => h⟩ | exact ⟨_, rfl, and_l⟩) : QY P N (.binOp .xor t x y t') tm A c (u64 (m ^^^ n)) :=
  fun hc => qy_int2 hx hy (fun w => by
    simp only [binOp, Op.intBits, ne_eq, not_true, if_false, IntKind.bits, u64_toInt]
    show Result.ok (Value.int .u64 (IntKind.u64.wrap ((m ^^^ n).toNat : Int))) w = _
    rw [wrap_u64_nat, Nat.mod_eq_of_lt (BitVec.isLt _)]; rfl) hc

theorem qy_andNot64 {t t' : TypeId} {x y : Operand} {m n : BitVec 64} (hx : EV tm c x (u64 m) := by first | exact ⟨_, rfl, fun _ => rfl⟩ | exact ⟨_, rfl, fun h => h⟩ | exact ⟨_, rfl, and_l⟩)
    (hy : EV tm c y (u64 n) := by first | exact ⟨_, rfl, fun _ => rfl⟩ | exact ⟨_, rfl, fun h => h⟩ | exact ⟨_, rfl, and_l⟩) : QY P N (.binOp .andNot t x y t') tm A c (u64 (m &&& ~~~n)) :=
  fun hc => qy_int2 hx hy (fun w => by
    simp only [binOp, Op.intBits, ne_eq, not_true, if_false, IntKind.bits, u64_toInt]
    show Result.ok (Value.int .u64 (IntKind.u64.wrap ((m &&& ~~~n).toNat : Int))) w = _
    rw [wrap_u64_nat, Nat.mod_eq_of_lt (BitVec.isLt _)]; rfl) hc

theorem qy_add64 {t t' : TypeId} {x y : Operand} {m n : BitVec 64} (hx : EV tm c x (u64 m) := by first | exact ⟨_, rfl, fun _ => rfl⟩ | exact ⟨_, rfl, fun h => h⟩ | exact ⟨_, rfl, and_l⟩)
    (hy : EV tm c y (u64 n) := by first | exact ⟨_, rfl, fun _ => rfl⟩ | exact ⟨_, rfl, fun h => h⟩ | exact ⟨_, rfl, and_l⟩) : QY P N (.binOp .add t x y t') tm A c (u64 (m + n)) :=
  fun hc => qy_int2 hx hy (fun w => by
    simp only [binOp, Op.intArith, ne_eq, not_true, if_false]
    show Result.ok (Value.int .u64 (IntKind.u64.wrap ((m.toNat : Int) + (n.toNat : Int)))) w = _
    have : IntKind.u64.wrap ((m.toNat : Int) + (n.toNat : Int)) = (((m + n : BitVec 64).toNat : Nat) : Int) := by
      rw [BitVec.toNat_add, IntKind.wrap_u64]; have := m.isLt; have := n.isLt; omega
    rw [this]; rfl) hc

theorem qy_sub64 {t t' : TypeId} {x y : Operand} {m n : BitVec 64} (hx : EV tm c x (u64 m) := by first | exact ⟨_, rfl, fun _ => rfl⟩ | exact ⟨_, rfl, fun h => h⟩ | exact ⟨_, rfl, and_l⟩)
    (hy : EV tm c y (u64 n) := by first | exact ⟨_, rfl, fun _ => rfl⟩ | exact ⟨_, rfl, fun h => h⟩ | exact ⟨_, rfl, and_l⟩) : QY P N (.binOp .sub t x y t') tm A c (u64 (m - n)) :=
  fun hc => qy_int2 hx hy (fun w => by
    simp only [binOp, Op.intArith, ne_eq, not_true, if_false]
    show Result.ok (Value.int .u64 (IntKind.u64.wrap ((m.toNat : Int) - (n.toNat : Int)))) w = _
    have : IntKind.u64.wrap ((m.toNat : Int) - (n.toNat : Int)) = (((m - n : BitVec 64).toNat : Nat) : Int) := by
      rw [BitVec.toNat_sub, IntKind.wrap_u64]; have := m.isLt; have := n.isLt; omega
    rw [this]; rfl) hc

theorem qy_shr64 {t t' : TypeId} {x y : Operand} {m n : BitVec 64} (hx : EV tm c x (u64 m) := by first | exact ⟨_, rfl, fun _ => rfl⟩ | exact ⟨_, rfl, fun h => h⟩ | exact ⟨_, rfl, and_l⟩)
    (hy : EV tm c y (u64 n) := by first | exact ⟨_, rfl, fun _ => rfl⟩ | exact ⟨_, rfl, fun h => h⟩ | exact ⟨_, rfl, and_l⟩) : QY P N (.binOp .shr t x y t') tm A c (u64 (m >>> n.toNat)) :=
  fun hc => qy_int2 hx hy (fun w => by
    have h0 : (0 : Int) ≤ (n.toNat : Int) := by omega
    simp only [binOp, shift_shr_any .u64 .u64 _ _ h0, IntKind.bits, Int.toNat_natCast]
    show Result.ok (Value.int .u64 ((m.toNat : Int) / 2 ^ min n.toNat 64)) w = _
    have : ((m.toNat : Int) / 2 ^ min n.toNat 64) = (((m >>> n.toNat).toNat : Nat) : Int) := by
      rw [BitVec.toNat_ushiftRight, Nat.shiftRight_eq_div_pow]
      by_cases h : n.toNat ≤ 64
      · rw [Nat.min_eq_left h]; simp
      · rw [Nat.min_eq_right (by omega)]
        have h1 : m.toNat / 2 ^ n.toNat = 0 := Nat.div_eq_of_lt (Nat.lt_of_lt_of_le m.isLt (Nat.pow_le_pow_right (by decide) (by omega)))
        rw [h1]
        have := m.isLt
        omega
    rw [this]; rfl) hc
theorem qy_shl64 {t t' : TypeId} {x y : Operand} {m n : BitVec 64} (hx : EV tm c x (u64 m) := by first | exact ⟨_, rfl, fun _ => rfl⟩ | exact ⟨_, rfl, fun h => h⟩ | exact ⟨_, rfl, and_l⟩)
    (hy : EV tm c y (u64 n) := by first | exact ⟨_, rfl, fun _ => rfl⟩ | exact ⟨_, rfl, fun h => h⟩ | exact ⟨_, rfl, and_l⟩) : QY P N (.binOp .shl t x y t') tm A c (u64 (m <<< n.toNat)) :=
  fun hc => qy_int2 hx hy (fun w => by
    have h0 : (0 : Int) ≤ (n.toNat : Int) := by omega
    simp only [binOp, shift_shl_any .u64 .u64 _ _ h0, IntKind.bits, Int.toNat_natCast]
    show Result.ok (Value.int .u64 (IntKind.u64.wrap ((m.toNat : Int) * 2 ^ min n.toNat 64))) w = _
    have e : ((m.toNat : Int) * 2 ^ min n.toNat 64) = ((m.toNat * 2 ^ min n.toNat 64 : Nat) : Int) := by simp
    have : IntKind.u64.wrap ((m.toNat : Int) * 2 ^ min n.toNat 64) = (((m <<< n.toNat).toNat : Nat) : Int) := by
      rw [e, wrap_u64_nat, BitVec.toNat_shiftLeft, Nat.shiftLeft_eq]
      by_cases h : n.toNat ≤ 64
      · rw [Nat.min_eq_left h]
      · rw [Nat.min_eq_right (by omega)]
        have h1 : (2 : Nat) ^ n.toNat = 2 ^ 64 * 2 ^ (n.toNat - 64) := by rw [← Nat.pow_add]; congr 1; omega
        rw [h1, ← Nat.mul_assoc, Nat.mul_right_comm, Nat.mul_mod_left, Nat.mul_mod_left]
    rw [this]; rfl) hc

/-- several operands -/
inductive EVS (tm : Tm) (c : Bool) : List Operand → List Value → Prop where
  | nil : EVS tm c [] []
  | cons {x : Operand} {v : Value} {xs : List Operand} {vs : List Value} : EV tm c x v → EVS tm c xs vs → EVS tm c (x :: xs) (v :: vs)

theorem EVS.get {a : Act} {xs : List Operand} {vs : List Value} (h : EVS tm c xs vs) (hs : Sim N tm a) (hc : c = true) : xs.map a.eval = vs := by
  induction h with
  | nil => rfl
  | cons h1 _ ih => rw [List.map_cons, h1.get hs hc, ih]

/-- uint(x), uint64(x) of an int -/
theorem qy_conv_iu {s t : TypeId} {x : Operand} {n : Int} {d : TypeDesc} [hs : TU P s d] [ht : TU P t (.int .u64)] (hx : EV tm c x (.int .i64 n) := by first | exact ⟨_, rfl, fun _ => rfl⟩ | exact ⟨_, rfl, fun h => h⟩ | exact ⟨_, rfl, and_l⟩) : QY P N (.convert s t x) tm A c (u64 (BitVec.ofInt 64 n)) :=
  fun hc a w _ _ _ _ _ hsim _ => by
    simp only [execOp, hx.get hsim hc]
    refine run_v ?_
    simp [convert, run_underlying hs.h, run_underlying ht.h, Conv.intToInt]
    show _ = u64 _
    unfold u64
    rw [BitVec.toNat_ofInt, IntKind.wrap_u64]
    congr 1
    omega

/-- int(x) of an unsigned word that fits -/
theorem qy_conv_ui {s t : TypeId} {x : Operand} {n : BitVec 64} {d : TypeDesc} [hs : TU P s d] [ht : TU P t (.int .i64)] (hx : EV tm c x (u64 n) := by first | exact ⟨_, rfl, fun _ => rfl⟩ | exact ⟨_, rfl, fun h => h⟩ | exact ⟨_, rfl, and_l⟩)
    (hb : c = true → n.toNat < 9223372036854775808 := by (intro _; first | assumption | omega)) : QY P N (.convert s t x) tm A c (.int .i64 (n.toNat : Int)) :=
  fun hc a w _ _ _ _ _ hsim _ => by
    simp only [execOp, hx.get hsim hc]
    refine run_v ?_
    have h := inI_i64 (n := (n.toNat : Int)) ⟨by omega, by have := hb hc; omega⟩
    unfold inI at h
    simp [convert, run_underlying hs.h, run_underlying ht.h, Conv.intToInt, u64, h]

/-- between int and a type of its kind -/
theorem qy_conv_ii {s t : TypeId} {x : Operand} {n : Int} {d : TypeDesc} [hs : TU P s d] [ht : TU P t (.int .i64)] (hx : EV tm c x (.int .i64 n) := by first | exact ⟨_, rfl, fun _ => rfl⟩ | exact ⟨_, rfl, fun h => h⟩ | exact ⟨_, rfl, and_l⟩)
    (hb : c = true → -9223372036854775808 ≤ n ∧ n ≤ 9223372036854775807 := by first | (intro _; omega) | (intro hc; simp only [Bool.and_eq_true, Bool.or_eq_true, Bool.not_eq_true', Bool.or_eq_false_iff, Bool.and_eq_false_iff, Bool.not_eq_false', dc_true, dc_false] at hc; omega)) : QY P N (.convert s t x) tm A c (.int .i64 n) :=
  fun hc a w _ _ _ _ _ hsim _ => by
    simp only [execOp, hx.get hsim hc]
    refine run_v ?_
    have h := inI_i64 (hb hc)
    unfold inI at h
    simp [convert, run_underlying hs.h, run_underlying ht.h, Conv.intToInt, h]

theorem qy_not {t : TypeId} {x : Operand} {b : Bool} (hx : EV tm c x (.bool b) := by first | exact ⟨_, rfl, fun _ => rfl⟩ | exact ⟨_, rfl, fun h => h⟩ | exact ⟨_, rfl, and_l⟩) : QY P N (.unOp .not t x) tm A c (.bool (!b)) :=
  fun hc a w _ _ _ _ _ hsim _ => by
    simp only [execOp, hx.get hsim hc]
    rfl

theorem qy_eqb {t t' : TypeId} {x y : Operand} {b d : Bool} [ht : TU P t .bool] (hx : EV tm c x (.bool b) := by first | exact ⟨_, rfl, fun _ => rfl⟩ | exact ⟨_, rfl, fun h => h⟩ | exact ⟨_, rfl, and_l⟩) (hy : EV tm c y (.bool d) := by first | exact ⟨_, rfl, fun _ => rfl⟩ | exact ⟨_, rfl, fun h => h⟩ | exact ⟨_, rfl, and_l⟩) : QY P N (.binOp .eql t x y t') tm A c (.bool (b == d)) :=
  fun hc a w _ _ _ _ _ hsim _ => by
    simp only [execOp, hx.get hsim hc, hy.get hsim hc]
    have hg : (eqGuard .eql t x y (.bool b) (.bool d)).run P w = .ok () w := rfl
    simp [hg, run_eql_bool w t b d ht.h]
theorem qy_neb {t t' : TypeId} {x y : Operand} {b d : Bool} [ht : TU P t .bool] (hx : EV tm c x (.bool b) := by first | exact ⟨_, rfl, fun _ => rfl⟩ | exact ⟨_, rfl, fun h => h⟩ | exact ⟨_, rfl, and_l⟩) (hy : EV tm c y (.bool d) := by first | exact ⟨_, rfl, fun _ => rfl⟩ | exact ⟨_, rfl, fun h => h⟩ | exact ⟨_, rfl, and_l⟩) : QY P N (.binOp .neq t x y t') tm A c (.bool (!(b == d))) :=
  fun hc a w _ _ _ _ _ hsim _ => by
    simp only [execOp, hx.get hsim hc, hy.get hsim hc]
    have hg : (eqGuard .neq t x y (.bool b) (.bool d)).run P w = .ok () w := rfl
    simp [hg, run_neq_bool w t b d ht.h]

theorem qy_extract {x : Operand} {vs : List Value} {i : Nat} {v : Value} (hx : EV tm c x (.tuple vs.toArray) := by first | exact ⟨_, rfl, fun _ => rfl⟩ | exact ⟨_, rfl, fun h => h⟩ | exact ⟨_, rfl, and_l⟩) (hv : vs[i]? = some v := by rfl) : QY P N (.extract x i) tm A c v :=
  fun hc a w _ _ _ _ _ hsim _ => by
    simp only [execOp, hx.get hsim hc]
    refine run_v ?_
    simp [Instr.extract, hv]

theorem qy_func {fn : Fn} {fs cs : List Operand} {vf vc : List Value} (hf : EVS tm c fs vf := by first | exact .nil | exact .cons ⟨_, rfl, fun _ => rfl⟩ .nil | exact .cons ⟨_, rfl, fun _ => rfl⟩ (.cons ⟨_, rfl, fun _ => rfl⟩ .nil) | (repeat (first | exact .nil | apply EVS.cons ⟨_, rfl, fun _ => rfl⟩ | apply EVS.cons ⟨_, rfl, fun h => h⟩ | apply EVS.cons ⟨_, rfl, and_l⟩))) (hcs : EVS tm c cs vc := by first | exact .nil | exact .cons ⟨_, rfl, fun _ => rfl⟩ .nil | exact .cons ⟨_, rfl, fun _ => rfl⟩ (.cons ⟨_, rfl, fun _ => rfl⟩ .nil) | (repeat (first | exact .nil | apply EVS.cons ⟨_, rfl, fun _ => rfl⟩ | apply EVS.cons ⟨_, rfl, fun h => h⟩ | apply EVS.cons ⟨_, rfl, and_l⟩))) :
    QY P N (.makeFunc fn fs.toArray cs.toArray) tm A c (.func fn vf.toArray vc.toArray) :=
  fun hc a w _ _ _ _ _ hsim _ => by
    simp only [execOp]
    refine run_v ?_
    simp [Instr.makeFunc, hf.get hsim hc, hcs.get hsim hc]

/-! types -/
class T1 (P : Program) (t : TypeId) : Prop where
  h : (isAgg t).run P = fun w => .ok false w
class TN (P : Program) (t : TypeId) (n : outParam Nat) : Prop where
  h : (isAgg t).run P = fun w => .ok true w
  n : (sizeOf t).run P = fun w => .ok n w
class TF (P : Program) (s : TypeId) (f : Nat) (o : outParam Nat) : Prop where
  h : ∀ a w, (Instr.fieldAt s (.pointer (some a)) f).run P w = .ok (.pointer (some (a.add o))) w
class TSl (P : Program) (t : TypeId) (e : outParam TypeId) : Prop where
  h : P.underlying t = some (.slice e)
class TE (P : Program) (e : TypeId) (n b : outParam Nat) (z : outParam Value) : Prop where
  h : ∃ i, P.info? e = some i ∧ i.size = n ∧ i.bytes = b ∧ i.zero = some z

theorem T1.of {t : TypeId} {d : TypeDesc} (h : P.underlying t = some d) (hd : (match d with | .struct _ | .array _ _ => true | _ => false) = false) : T1 P t := by
  refine ⟨funext fun w => ?_⟩
  cases d <;> simp_all [isAgg, run_underlying h]
theorem TN.of {t : TypeId} {d : TypeDesc} {n : Nat} (h : P.underlying t = some d) (hd : (match d with | .struct _ | .array _ _ => true | _ => false) = true)
    (hn : (P.info? t).map (·.size) = some n) : TN P t n := by
  refine ⟨funext fun w => ?_, funext fun w => ?_⟩
  · cases d <;> simp_all [isAgg, run_underlying h]
  · obtain ⟨i, hi, hin⟩ := Option.map_eq_some_iff.1 hn
    simp [sizeOf, typeInfo, hi, hin]
theorem TE.of {e : TypeId} {n b : Nat} {z : Value} (h : (P.info? e).map (fun i => (i.size, i.bytes, i.zero)) = some (n, b, some z)) : TE P e n b z := by
  obtain ⟨i, hi, hin⟩ := Option.map_eq_some_iff.1 h
  injection hin with h1 h2
  injection h2 with h2 h3
  exact ⟨i, hi, h1, h2, h3⟩
theorem TF.of {s : TypeId} {fs : Array Field} {f : Nat} {fd : Field} {o n : Nat} (h : P.underlying s = some (.struct fs)) (hf : fs[f]? = some fd) (ho : fd.offset = o)
    (hn : (P.info? fd.type).map (·.size) = some (n + 1)) : TF P s f o := by
  refine ⟨fun a w => ?_⟩
  obtain ⟨i, hi, hin⟩ := Option.map_eq_some_iff.1 hn
  simp [Instr.fieldAt, run_underlying h, hf, Instr.sureAddr, fieldPlace, sizeOf, typeInfo, hi, hin, ho]

/-- addresses of fields -/
theorem qy_field_box {s : TypeId} {x : Operand} {f o b off : Nat} [hf : TF P s f o] (hx : EV tm c x (.pointer (some ⟨b, off, none⟩)) := by first | exact ⟨_, rfl, fun _ => rfl⟩ | exact ⟨_, rfl, fun h => h⟩ | exact ⟨_, rfl, and_l⟩) :
    QY P N (.fieldAddr s x f) tm A c (.pointer (some ⟨b, off + o, none⟩)) :=
  fun hc a w _ _ _ _ _ hsim _ => by
    simp only [execOp, hx.get hsim hc]
    refine run_v ?_
    rw [hf.h]
    unfold Addr.add
    split
    · rename_i h; subst h; rfl
    · rfl
theorem elt_add (v : Value) (sz i o o' : Nat) : (elt v sz i o).add o' = elt v sz i (o + o') := by
  unfold elt
  split <;> rw [add_add]

theorem qy_field_elt {s : TypeId} {x : Operand} {f o sz i o' : Nat} {v : Value} [hf : TF P s f o] (hx : EV tm c x (.pointer (some (elt v sz i o'))) := by first | exact ⟨_, rfl, fun _ => rfl⟩ | exact ⟨_, rfl, fun h => h⟩ | exact ⟨_, rfl, and_l⟩) :
    QY P N (.fieldAddr s x f) tm A c (.pointer (some (elt v sz i (o' + o)))) :=
  fun hc a w _ _ _ _ _ hsim _ => by
    simp only [execOp, hx.get hsim hc]
    refine run_v ?_
    rw [hf.h, elt_add]

/-! loads -/
theorem run_load1 {t : TypeId} {p : Addr} {v : Value} {w : World} [ht : T1 P t] (h : w.cell? p = some v) : (Instr.loadAt t (.pointer (some p))).run P w = .ok v w := by
  simp [Instr.loadAt, Instr.sureAddr, loadVar, ht.h, h]
theorem run_loadN {t : TypeId} {p : Addr} {n : Nat} {w : World} [ht : TN P t n] (cs : List Value) (hn : cs.length = n) (h : ∀ j v, cs[j]? = some v → w.cell? (p.add j) = some v) :
    (Instr.loadAt t (.pointer (some p))).run P w = .ok (.agg cs.toArray) w := by
  subst hn
  simp [Instr.loadAt, Instr.sureAddr, loadVar, ht.h, ht.n, run_loadCells_list w p cs h]

theorem box_cell {b : Nat} {cs : List Value} {tt : TypeId} {w : World} (h : (Ent.box b cs tt).ok w) {j : Nat} {v : Value} (hj : cs[j]? = some v) : w.cell? ⟨b, j, none⟩ = some v := by
  simp only [Ent.ok] at h
  simp [World.cell?, h, hj]

theorem qy_load_box1 {t b off tt : Nat} {x : Operand} {v : Value} {cs : List Value} [ht : T1 P t] (hx : EV tm c x (.pointer (some ⟨b, off, none⟩)) := by first | exact ⟨_, rfl, fun _ => rfl⟩ | exact ⟨_, rfl, fun h => h⟩ | exact ⟨_, rfl, and_l⟩)
    (hm : Ent.box b cs tt ∈ H := by (repeat (first | exact List.Mem.head _ | refine List.Mem.tail _ ?_))) (hv : cs[off]? = some v := by rfl) : QY P N (.load t x) tm (Mem bs H) c v :=
  fun hc a w _ _ _ _ _ hsim hw => by
    simp only [execOp, hx.get hsim hc]
    exact run_v (run_load1 (box_cell (hw.own _ hm) hv))

theorem qy_load_boxN {t b off tt n : Nat} {x : Operand} {cs : List Value} [ht : TN P t n] (hx : EV tm c x (.pointer (some ⟨b, off, none⟩)) := by first | exact ⟨_, rfl, fun _ => rfl⟩ | exact ⟨_, rfl, fun h => h⟩ | exact ⟨_, rfl, and_l⟩)
    (hm : Ent.box b cs tt ∈ H := by (repeat (first | exact List.Mem.head _ | refine List.Mem.tail _ ?_))) (hn : Nat.ble (off + n) cs.length = true := by rfl) : QY P N (.load t x) tm (Mem bs H) c (.agg ((cs.drop off).take n).toArray) :=
  fun hc a w _ _ _ _ _ hsim hw => by
    simp only [execOp, hx.get hsim hc]
    refine run_v (run_loadN _ (by have := Nat.ble_eq.mp hn; simp; omega) fun j v hj => ?_)
    have hj' : cs[off + j]? = some v := by
      rw [List.getElem?_take] at hj
      split at hj
      · rw [List.getElem?_drop] at hj; exact hj
      · cases hj
    have hc := box_cell (hw.own _ hm) hj'
    unfold Addr.add
    split
    · rename_i h0; subst h0; exact hc
    · exact hc

/-- the codes of an element: as many cells each -/
class Enc {τ : Type} (enc : τ → List Value) (sz : outParam Nat) : Prop where
  len : ∀ x, (enc x).length = sz
  pos : 0 < sz

theorem Enc.ne {τ : Type} {enc : τ → List Value} {sz : Nat} [he : Enc enc sz] (x : τ) : enc x ≠ [] := fun h => by
  have h1 := he.len x
  have h2 := he.pos
  rw [h] at h1
  simp at h1
  omega

theorem getD_some {τ : Type} [Inhabited τ] {xs : List τ} {i : Nat} (h : i < xs.length) : xs[i]? = some (xs.getD i default) := by
  rw [List.getElem?_eq_getElem h, List.getD_eq_getElem?_getD, List.getElem?_eq_getElem h]
  rfl

theorem base_cell {τ : Type} {S : Nat → Prop} {B w : World} {enc : τ → List Value} {sz : Nat} {v : Value} {xs : List τ} (h : Sl S B enc sz v xs) (hA : Agr S B w) {i j : Nat} {x : τ} {u : Value}
    (hi : xs[i]? = some x) (hj : (enc x)[j]? = some u) : w.cell? (elt v sz i j) = some u := by
  have hc := h.cell i x j u hi hj
  obtain ⟨a, n, cap, hv, hn, _, _, hso⟩ := h.is
  have hil : i < xs.length := by
    rcases Nat.lt_or_ge i xs.length with h' | h'
    · exact h'
    · simp [List.getElem?_eq_none h'] at hi
  have hpos : 0 < n := by omega
  obtain ⟨A, rfl⟩ := Option.isSome_iff_exists.1 (hso hpos)
  subst hv
  refine cell_of_agr hA ?_ hc
  simp only [elt, add_block]
  exact h.inS A n cap rfl hpos

theorem qy_load_elt1 {τ : Type} [Inhabited τ] {S : Nat → Prop} {B : World} {enc : τ → List Value} {sz i o t : Nat} {v u : Value} {xs : List τ} {x : Operand} [ht : T1 P t]
    (hx : EV tm c x (.pointer (some (elt v sz i o))) := by first | exact ⟨_, rfl, fun _ => rfl⟩ | exact ⟨_, rfl, fun h => h⟩ | exact ⟨_, rfl, and_l⟩) (h : Sl S B enc sz v xs := by assumption) (hB : (B, S) ∈ bs := by (repeat (first | exact List.Mem.head _ | refine List.Mem.tail _ ?_)))
    (hi : c = true → i < xs.length := by first | (intro _; assumption) | (intro _; omega) | (intro hc; simp only [Bool.and_eq_true, Bool.or_eq_true, Bool.not_eq_true', Bool.or_eq_false_iff, Bool.and_eq_false_iff, Bool.not_eq_false', dc_true, dc_false] at hc; omega)) (hv : (enc (xs.getD i default))[o]? = some u := by rfl) : QY P N (.load t x) tm (Mem bs H) c u :=
  fun hc a w _ _ _ _ _ hsim hw => by
    simp only [execOp, hx.get hsim hc]
    exact run_v (run_load1 (base_cell h (hw.base _ hB) (getD_some (hi hc)) hv))

theorem qy_load_eltN {τ : Type} [Inhabited τ] {S : Nat → Prop} {B : World} {enc : τ → List Value} {sz i t : Nat} {v : Value} {xs : List τ} {x : Operand} [ht : TN P t sz] [he : Enc enc sz]
    (hx : EV tm c x (.pointer (some (elt v sz i 0))) := by first | exact ⟨_, rfl, fun _ => rfl⟩ | exact ⟨_, rfl, fun h => h⟩ | exact ⟨_, rfl, and_l⟩) (h : Sl S B enc sz v xs := by assumption) (hB : (B, S) ∈ bs := by (repeat (first | exact List.Mem.head _ | refine List.Mem.tail _ ?_)))
    (hi : c = true → i < xs.length := by first | (intro _; assumption) | (intro _; omega) | (intro hc; simp only [Bool.and_eq_true, Bool.or_eq_true, Bool.not_eq_true', Bool.or_eq_false_iff, Bool.and_eq_false_iff, Bool.not_eq_false', dc_true, dc_false] at hc; omega)) : QY P N (.load t x) tm (Mem bs H) c (.agg (enc (xs.getD i default)).toArray) :=
  fun hc a w _ _ _ _ _ hsim hw => by
    simp only [execOp, hx.get hsim hc]
    refine run_v (run_loadN _ (he.len _) fun j u hj => ?_)
    rw [elt_add, Nat.zero_add]
    exact base_cell h (hw.base _ hB) (getD_some (hi hc)) hj

/-- the elements of an owned slice -/
theorem own_cell {τ : Type} {enc : τ → List Value} {sz tt : Nat} {v : Value} {xs : List τ} {w : World} [he : Enc enc sz] (h : (Ent.own v tt sz enc xs).ok w) {i j : Nat} {x : τ} {u : Value}
    (hi : xs[i]? = some x) (hj : (enc x)[j]? = some u) : w.cell? (elt v sz i j) = some u := by
  obtain ⟨h1, h2⟩ := h
  have hil : i < xs.length := by
    rcases Nat.lt_or_ge i xs.length with h' | h'
    · exact h'
    · simp [List.getElem?_eq_none h'] at hi
  rcases h2 with ⟨_, h2⟩ | ⟨g, cap, cur, hv, _, hh, hn, _, hsz, htk⟩
  · omega
  · subst hv
    have hjl : j < sz := by
      rcases Nat.lt_or_ge j sz with h' | h'
      · exact h'
      · rw [List.getElem?_eq_none (by rw [he.len]; omega)] at hj; cases hj
    have key : ∀ (xs : List τ) (i : Nat), xs[i]? = some x → (xs.flatMap enc)[i * sz + j]? = some u := by
      intro xs
      induction xs with
      | nil => intro i hi; simp at hi
      | cons y ys ih =>
        intro i hi
        rw [List.flatMap_cons]
        cases i with
        | zero =>
          simp at hi
          subst hi
          rw [List.getElem?_append_left (by rw [he.len]; omega)]
          simpa using hj
        | succ i =>
          rw [List.getElem?_append_right (by rw [he.len, Nat.add_mul]; omega), he.len, show (i + 1) * sz + j - sz = i * sz + j from by rw [Nat.add_mul]; omega]
          exact ih i (by simpa using hi)
    have hk := key xs i hi
    rw [← htk, List.getElem?_take] at hk
    split at hk
    · have e : elt (.slice (some ⟨g, 0, none⟩) xs.length cap) sz i j = ⟨g, i * sz + j, none⟩ := by
        simp only [elt, add_add]
        unfold Addr.add
        split
        · rename_i h0; rw [h0]
        · simp
      rw [e]
      simp only [World.cell?, hh]
      simpa using hk
    · cases hk

theorem qy_load_own1 {τ : Type} [Inhabited τ] {enc : τ → List Value} {sz i o t tt : Nat} {v u : Value} {xs : List τ} {x : Operand} [ht : T1 P t] [he : Enc enc sz]
    (hx : EV tm c x (.pointer (some (elt v sz i o))) := by first | exact ⟨_, rfl, fun _ => rfl⟩ | exact ⟨_, rfl, fun h => h⟩ | exact ⟨_, rfl, and_l⟩) (hm : Ent.own v tt sz enc xs ∈ H := by (repeat (first | exact List.Mem.head _ | refine List.Mem.tail _ ?_)))
    (hi : c = true → i < xs.length := by first | (intro _; assumption) | (intro _; omega) | (intro hc; simp only [Bool.and_eq_true, Bool.or_eq_true, Bool.not_eq_true', Bool.or_eq_false_iff, Bool.and_eq_false_iff, Bool.not_eq_false', dc_true, dc_false] at hc; omega)) (hv : (enc (xs.getD i default))[o]? = some u := by rfl) : QY P N (.load t x) tm (Mem bs H) c u :=
  fun hc a w _ _ _ _ _ hsim hw => by
    simp only [execOp, hx.get hsim hc]
    exact run_v (run_load1 (own_cell (hw.own _ hm) (getD_some (hi hc)) hv))

theorem qy_load_ownN {τ : Type} [Inhabited τ] {enc : τ → List Value} {sz i t tt : Nat} {v : Value} {xs : List τ} {x : Operand} [ht : TN P t sz] [he : Enc enc sz]
    (hx : EV tm c x (.pointer (some (elt v sz i 0))) := by first | exact ⟨_, rfl, fun _ => rfl⟩ | exact ⟨_, rfl, fun h => h⟩ | exact ⟨_, rfl, and_l⟩) (hm : Ent.own v tt sz enc xs ∈ H := by (repeat (first | exact List.Mem.head _ | refine List.Mem.tail _ ?_)))
    (hi : c = true → i < xs.length := by first | (intro _; assumption) | (intro _; omega) | (intro hc; simp only [Bool.and_eq_true, Bool.or_eq_true, Bool.not_eq_true', Bool.or_eq_false_iff, Bool.and_eq_false_iff, Bool.not_eq_false', dc_true, dc_false] at hc; omega)) : QY P N (.load t x) tm (Mem bs H) c (.agg (enc (xs.getD i default)).toArray) :=
  fun hc a w _ _ _ _ _ hsim hw => by
    simp only [execOp, hx.get hsim hc]
    refine run_v (run_loadN _ (he.len _) fun j u hj => ?_)
    rw [elt_add, Nat.zero_add]
    exact own_cell (hw.own _ hm) (getD_some (hi hc)) hj

/-! indexes and lengths -/
theorem run_index {t e sz b : Nat} {z : Value} {k : IntKind} {n : Int} {a : Option Addr} {len cap : Nat} {w : World} [ht : TSl P t e] [hE : TE P e sz b z] (h0 : 0 ≤ n ∧ n < len) (ha : a.isSome = true) :
    (Instr.indexAt t (.slice a len cap) (.int k n)).run P w = .ok (.pointer (some (elt (.slice a len cap) sz n.toNat 0))) w := by
  obtain ⟨A, rfl⟩ := Option.isSome_iff_exists.1 ha
  obtain ⟨i, hi, his, _⟩ := hE.h
  subst his
  simp [Instr.indexAt, asIntOf, run_underlying ht.h, h0, sizeOf, typeInfo, hi, elt, Addr.add]

theorem qy_index {τ : Type} {S : Nat → Prop} {B : World} {enc : τ → List Value} {sz t e b : Nat} {z v : Value} {k : IntKind} {n : Int} {xs : List τ} {x y : Operand} [ht : TSl P t e] [hE : TE P e sz b z]
    (hx : EV tm c x v := by first | exact ⟨_, rfl, fun _ => rfl⟩ | exact ⟨_, rfl, fun h => h⟩ | exact ⟨_, rfl, and_l⟩) (hy : EV tm c y (.int k n) := by first | exact ⟨_, rfl, fun _ => rfl⟩ | exact ⟨_, rfl, fun h => h⟩ | exact ⟨_, rfl, and_l⟩) (h : Sl S B enc sz v xs := by assumption)
    (hb : c = true → 0 ≤ n ∧ n < xs.length := by first | (intro _; omega) | (intro hc; simp only [Bool.and_eq_true, Bool.or_eq_true, Bool.not_eq_true', Bool.or_eq_false_iff, Bool.and_eq_false_iff, Bool.not_eq_false', dc_true, dc_false] at hc; omega)) : QY P N (.indexAddr t x y) tm A c (.pointer (some (elt v sz n.toNat 0))) :=
  fun hc a w _ _ _ _ _ hsim hw => by
    simp only [execOp, hx.get hsim hc, hy.get hsim hc]
    obtain ⟨a', n', cap, hv, hn, _, _, hso⟩ := h.is
    subst hv; subst hn
    exact run_v (run_index (hb hc) (hso (by have := hb hc; omega)))

theorem qy_index_nat {τ : Type} {S : Nat → Prop} {B : World} {enc : τ → List Value} {sz t e b n : Nat} {z v : Value} {k : IntKind} {xs : List τ} {x y : Operand} [ht : TSl P t e] [hE : TE P e sz b z]
    (hx : EV tm c x v := by first | exact ⟨_, rfl, fun _ => rfl⟩ | exact ⟨_, rfl, fun h => h⟩ | exact ⟨_, rfl, and_l⟩) (hy : EV tm c y (.int k (n : Int)) := by first | exact ⟨_, rfl, fun _ => rfl⟩ | exact ⟨_, rfl, fun h => h⟩ | exact ⟨_, rfl, and_l⟩) (h : Sl S B enc sz v xs := by assumption)
    (hb : c = true → n < xs.length := by first | (intro _; assumption) | (intro _; omega) | (intro hc; simp only [Bool.and_eq_true, Bool.or_eq_true, Bool.not_eq_true', Bool.or_eq_false_iff, Bool.and_eq_false_iff, Bool.not_eq_false', dc_true, dc_false] at hc; omega)) : QY P N (.indexAddr t x y) tm A c (.pointer (some (elt v sz n 0))) :=
  fun hc a w d ty pos aft g hsim hw => by
    have := qy_index (A := A) (P := P) (N := N) (t := t) (k := k) hx hy h (fun hc => ⟨by omega, by have := hb hc; omega⟩) hc a w d ty pos aft g hsim hw
    simpa using this

theorem own_is {τ : Type} {enc : τ → List Value} {sz tt : Nat} {v : Value} {xs : List τ} {w : World} (h : (Ent.own v tt sz enc xs).ok w) : ∃ a cap, v = .slice a xs.length cap ∧ (0 < xs.length → a.isSome = true) ∧ xs.length ≤ cap ∧ cap ≤ maxLen := by
  obtain ⟨_, ⟨hv, h2⟩ | ⟨g, cap, cur, hv, _, _, hn, hm, _⟩⟩ := h
  · exact ⟨none, 0, by rw [h2]; exact hv, fun h => by omega, by omega, by unfold maxLen; omega⟩
  · exact ⟨some ⟨g, 0, none⟩, cap, hv, fun _ => rfl, hn, hm⟩

theorem qy_index_own {τ : Type} {enc : τ → List Value} {sz t tt e b : Nat} {z v : Value} {k : IntKind} {n : Int} {xs : List τ} {x y : Operand} [ht : TSl P t e] [hE : TE P e sz b z]
    (hx : EV tm c x v := by first | exact ⟨_, rfl, fun _ => rfl⟩ | exact ⟨_, rfl, fun h => h⟩ | exact ⟨_, rfl, and_l⟩) (hy : EV tm c y (.int k n) := by first | exact ⟨_, rfl, fun _ => rfl⟩ | exact ⟨_, rfl, fun h => h⟩ | exact ⟨_, rfl, and_l⟩) (hm : Ent.own v tt sz enc xs ∈ H := by (repeat (first | exact List.Mem.head _ | refine List.Mem.tail _ ?_)))
    (hb : c = true → 0 ≤ n ∧ n < xs.length := by first | (intro _; omega) | (intro hc; simp only [Bool.and_eq_true, Bool.or_eq_true, Bool.not_eq_true', Bool.or_eq_false_iff, Bool.and_eq_false_iff, Bool.not_eq_false', dc_true, dc_false] at hc; omega)) : QY P N (.indexAddr t x y) tm (Mem bs H) c (.pointer (some (elt v sz n.toNat 0))) :=
  fun hc a w _ _ _ _ _ hsim hw => by
    simp only [execOp, hx.get hsim hc, hy.get hsim hc]
    obtain ⟨a', cap, hv, hso, _⟩ := own_is (hw.own _ hm)
    subst hv
    exact run_v (run_index (hb hc) (hso (by have := hb hc; omega)))

theorem qy_index_own_nat {τ : Type} {enc : τ → List Value} {sz t tt e b n : Nat} {z v : Value} {k : IntKind} {xs : List τ} {x y : Operand} [ht : TSl P t e] [hE : TE P e sz b z]
    (hx : EV tm c x v := by first | exact ⟨_, rfl, fun _ => rfl⟩ | exact ⟨_, rfl, fun h => h⟩ | exact ⟨_, rfl, and_l⟩) (hy : EV tm c y (.int k (n : Int)) := by first | exact ⟨_, rfl, fun _ => rfl⟩ | exact ⟨_, rfl, fun h => h⟩ | exact ⟨_, rfl, and_l⟩) (hm : Ent.own v tt sz enc xs ∈ H := by (repeat (first | exact List.Mem.head _ | refine List.Mem.tail _ ?_)))
    (hb : c = true → n < xs.length := by first | (intro _; assumption) | (intro _; omega) | (intro hc; simp only [Bool.and_eq_true, Bool.or_eq_true, Bool.not_eq_true', Bool.or_eq_false_iff, Bool.and_eq_false_iff, Bool.not_eq_false', dc_true, dc_false] at hc; omega)) : QY P N (.indexAddr t x y) tm (Mem bs H) c (.pointer (some (elt v sz n 0))) :=
  fun hc a w d ty pos aft g hsim hw => by
    have := qy_index_own (P := P) (N := N) (bs := bs) (t := t) (k := k) hx hy hm (fun hc => ⟨by omega, by have := hb hc; omega⟩) hc a w d ty pos aft g hsim hw
    simpa using this

theorem run_len {t ty e n cap : Nat} {a : Option Addr} {w : World} [ht : TSl P t e] : (Builtin.len_ #[t] ty #[.slice a n cap]).run P w = .ok (.int .i64 (n : Int)) w := by
  simp [Builtin.len_, run_underlying ht.h, goInt]

theorem exec_len {x : Operand} {t : TypeId} {v u : Value} {a : Act} {w : World} {d : Option Tmp} {ty : TypeId} {pos : String} {aft : Array Edge} {g : Option (Nat × Bool)}
    (hx : a.eval x = v) (h : (Builtin.len_ #[t] ty #[v]).run P w = .ok u w) : (execOp a.eval ⟨d, .call { callee := .builtin .len, args := #[x], argTypes := #[t] }, ty, pos, aft, g⟩).run P w = .ok (.value u) w := by
  simp [execOp, resolve, invoke, builtin, hx, h]

theorem qy_len {τ : Type} {S : Nat → Prop} {B : World} {enc : τ → List Value} {sz t e : Nat} {v : Value} {xs : List τ} {x : Operand} [ht : TSl P t e]
    (hx : EV tm c x v := by first | exact ⟨_, rfl, fun _ => rfl⟩ | exact ⟨_, rfl, fun h => h⟩ | exact ⟨_, rfl, and_l⟩) (h : Sl S B enc sz v xs := by assumption) : QY P N (.call { callee := .builtin .len, args := #[x], argTypes := #[t] }) tm A c (.int .i64 (xs.length : Int)) :=
  fun hc a w _ _ _ _ _ hsim hw => by
    obtain ⟨a', cap, hv, _⟩ := h.len
    exact exec_len (hx.get hsim hc) (by rw [hv]; exact run_len)

theorem qy_len_own {τ : Type} {enc : τ → List Value} {sz t tt e : Nat} {v : Value} {xs : List τ} {x : Operand} [ht : TSl P t e]
    (hx : EV tm c x v := by first | exact ⟨_, rfl, fun _ => rfl⟩ | exact ⟨_, rfl, fun h => h⟩ | exact ⟨_, rfl, and_l⟩) (hm : Ent.own v tt sz enc xs ∈ H := by (repeat (first | exact List.Mem.head _ | refine List.Mem.tail _ ?_))) : QY P N (.call { callee := .builtin .len, args := #[x], argTypes := #[t] }) tm (Mem bs H) c (.int .i64 (xs.length : Int)) :=
  fun hc a w _ _ _ _ _ hsim hw => by
    obtain ⟨a', cap, hv, _⟩ := own_is (hw.own _ hm)
    exact exec_len (hx.get hsim hc) (by rw [hv]; exact run_len)

end
end Go.Eng

/- Engine, part E: what turns the world: variables, slices of the call's own, stores, appends, calls; a function's beginning and end. -/
namespace Go.Eng
open Go Go.RowKit

/-- A slice's value, whatever it is. -/
def SV (v : Value) : Prop := ∃ a n cap, v = .slice a n cap
theorem SV.cells {v : Value} (h : SV v) : v.cells = [v].toArray := by obtain ⟨a, n, cap, rfl⟩ := h; rfl
theorem SV.one {v : Value} (h : SV v) : v.oneCell' = true := by obtain ⟨a, n, cap, rfl⟩ := h; rfl
theorem Sl.sv {τ : Type} {S : Nat → Prop} {w : World} {enc : τ → List Value} {sz : Nat} {v : Value} {xs : List τ} (h : Sl S w enc sz v xs) : SV v := by
  obtain ⟨a, n, cap, hv, _⟩ := h.is
  exact ⟨a, n, cap, hv⟩

/-- What kind of Lean data the elements of a slice are. -/
class EncOf (P : Program) (e : TypeId) {τ : outParam Type} (enc : outParam (τ → List Value)) (dec : outParam (List Value → τ)) : Prop where
  ok : True

def Fr (n : Nat) : Nat → Prop := fun k => n ≤ k
def All : Nat → Prop := fun _ => True

section
variable {P : Program} {N : Nat} {tm : Tm} {A : World → Prop} {bs : List Base} {H : List Ent} {Q : Exit → Act → World → Prop} {K : Act → World → Prop} {dst : Option Tmp}

theorem mem_box {b : Nat} {w : World} (h : Mem bs H w) (hb : b = w.heap.size) (cs : List Value) (t : TypeId) : Mem bs (.box b cs t :: H) (w.alloc (.cells cs.toArray t)) := by
  subst hb
  refine h.new rfl rfl rfl (by simp) (fun k hk => heap_alloc_old w _ hk) (heap_alloc_new w _) (fun k hk => ?_) (fun k hk => ?_)
  · simp only [Ent.fp, List.mem_singleton] at hk; subst hk; simp
  · simp only [Ent.fp, List.mem_singleton] at hk; omega

theorem fx_box {d : Nat} {t : TypeId} {x : Operand} {v : Value} {cs : List Value} (hx : EV tm true x v := by exact ⟨_, rfl, fun _ => rfl⟩)
    (hcs : v.cells = cs.toArray := by first | exact SV.cells (by assumption) | exact SV.cells (Sl.sv (by assumption)) | rfl) (hd : Nat.blt d N = true := by rfl)
    (next : ∀ b, KP N K ((d, true, .pointer (some ⟨b, 0, none⟩)) :: tm) (Mem bs (.box b cs t :: H))) : FX P N (.box t x) (some d) Q tm (Mem bs H) K := by
  intro a w ty pos aft g hs hw
  unfold Oper.wp
  have hr : (execOp a.eval ⟨some d, .box t x, ty, pos, aft, g⟩).run P w = .ok (.value (.pointer (some ⟨w.heap.size, 0, none⟩))) (w.alloc (.cells cs.toArray t)) := by
    simp [execOp, hx.get hs rfl, Instr.box, newVar, newRow, hcs]
  rw [hr]
  exact next _ _ _ (by simpa using hs.put (Nat.ble_eq.mp hd) true _) (mem_box hw rfl cs t)

theorem fx_alloc {d : Nat} {t : TypeId} {n b : Nat} {z : Value} {cs : List Value} [hE : TE P t n b z] (hcs : z.cells = cs.toArray := by rfl) (hd : Nat.blt d N = true := by rfl)
    (next : ∀ b, KP N K ((d, true, .pointer (some ⟨b, 0, none⟩)) :: tm) (Mem bs (.box b cs t :: H))) : FX P N (.alloc t) (some d) Q tm (Mem bs H) K := by
  intro a w ty pos aft g hs hw
  unfold Oper.wp
  have hr : (execOp a.eval ⟨some d, .alloc t, ty, pos, aft, g⟩).run P w = .ok (.value (.pointer (some ⟨w.heap.size, 0, none⟩))) (w.alloc (.cells cs.toArray t)) := by
    obtain ⟨i, hi, _, _, hz⟩ := hE.h
    simp [execOp, Instr.alloc, zeroValue, typeInfo, hi, hz, newVar, newRow, hcs]
  rw [hr]
  exact next _ _ _ (by simpa using hs.put (Nat.ble_eq.mp hd) true _) (mem_box hw rfl cs t)

theorem flatMap_replicate {τ : Type} (enc : τ → List Value) (x : τ) : ∀ n, (List.replicate n x).flatMap enc = (List.replicate n (enc x)).flatten
  | 0 => rfl
  | n + 1 => by rw [List.replicate_succ, List.flatMap_cons, flatMap_replicate enc x n, List.replicate_succ, List.flatten_cons]

theorem made_toList (z : Array Value) (_hz : 0 < z.size) : ∀ n, (madeCells z (n * z.size)).toList = (List.replicate n z.toList).flatten := by
  intro n
  have key : ∀ n, (List.range (n * z.size)).map (fun i => z[i % z.size]!) = (List.replicate n z.toList).flatten := by
    intro n
    induction n with
    | zero => simp
    | succ n ih =>
      rw [Nat.add_mul, Nat.one_mul, List.range_add, List.map_append, ih, List.replicate_succ', List.flatten_append]
      congr 1
      simp only [List.flatten_cons, List.flatten_nil, List.append_nil, List.map_map]
      apply List.ext_getElem
      · simp
      · intro i h1 h2
        simp at h1
        have hm : (n * z.size + i) % z.size = i := by rw [Nat.mul_comm, Nat.mul_add_mod]; exact Nat.mod_eq_of_lt h1
        simp [hm, h1]
  unfold madeCells
  simpa using key n

theorem fx_make {τ : Type} {enc : τ → List Value} {dec : List Value → τ} {d t e sz b : Nat} {z : Value} {x y : Operand} {n m : Int} [ht : TSl P t e] [hE : TE P e sz b z] [EncOf P e enc dec] [he : Enc enc sz]
    (hx : EV tm true x (.int .i64 n) := by exact ⟨_, rfl, fun _ => rfl⟩) (hy : EV tm true y (.int .i64 m) := by exact ⟨_, rfl, fun _ => rfl⟩) (hz : enc (dec z.cells.toList) = z.cells.toList := by rfl)
    (hb : 0 ≤ n ∧ n ≤ m ∧ (b : Int) * m ≤ 281474976710656 ∧ m ≤ 9223372036854775807 := by omega) (hd : Nat.blt d N = true := by rfl)
    (next : ∀ v, SV v → KP N K ((d, true, v) :: tm) (Mem bs (.own v e sz enc (List.replicate n.toNat (dec z.cells.toList)) :: H))) : FX P N (.makeSlice t x y) (some d) Q tm (Mem bs H) K := by
  intro a w ty pos aft g hs hw
  unfold Oper.wp
  obtain ⟨i, hi, his, hib, hiz⟩ := hE.h
  have hr := run_make (P := P) w t e i z ht.h hi hiz .i64 .i64 n m hb.1 hb.2.1 (by rw [hib]; exact hb.2.2.1) hb.2.2.2
  have hr' : (execOp a.eval ⟨some d, .makeSlice t x y, ty, pos, aft, g⟩).run P w = .ok (.value (.slice (some ⟨w.heap.size, 0, none⟩) n.toNat m.toNat)) (w.alloc (.cells (madeCells z.cells (m.toNat * i.size)) e)) := by
    simp [execOp, hx.get hs rfl, hy.get hs rfl, hr]
  rw [hr']
  have hzs : z.cells.size = sz := by
    have := he.len (dec z.cells.toList)
    rw [hz] at this
    simpa using this
  refine next _ ⟨_, _, _, rfl⟩ _ _ (by simpa using hs.put (Nat.ble_eq.mp hd) true _) ?_
  refine hw.new rfl rfl rfl (by simp) (fun k hk => heap_alloc_old w _ hk) ?_ (fun k hk => ?_) (fun k hk => ?_)
  · refine ⟨?_, .inr ⟨w.heap.size, m.toNat, _, by simp, Nat.zero_le _, heap_alloc_new w _, by simp; omega, by unfold maxLen; omega, by rw [size_madeCells, his], ?_⟩⟩
    · rw [flatMap_replicate, hz]
      simp [hzs]
    · rw [flatMap_replicate, hz, his, ← hzs, made_toList _ (by rw [hzs]; exact he.pos), List.length_replicate]
      obtain ⟨r, hr⟩ : ∃ r, m.toNat = n.toNat + r := ⟨m.toNat - n.toNat, by omega⟩
      rw [hr, ← List.replicate_append_replicate, List.flatten_append]
      exact List.take_left' (by simp)
  · simp only [Ent.fp, Value.ownBlock, Option.toList, List.mem_singleton] at hk; subst hk; simp
  · simp only [Ent.fp, Value.ownBlock, Option.toList, List.mem_singleton] at hk; omega

/-- A nil slice is owned by whoever has it. -/
theorem kp_nil {τ : Type} (e sz : Nat) (enc : τ → List Value) (h : KP N K tm (Mem bs (.own (.slice none 0 0) e sz enc [] :: H))) : KP N K tm (Mem bs H) := by
  intro a w hs hw
  refine h a w hs (hw.new rfl rfl rfl (Nat.le_refl _) (fun _ _ => rfl) ⟨by simp, .inl ⟨rfl, rfl⟩⟩ (fun k hk => ?_) (fun k hk => ?_)) <;> simp [Ent.fp, Value.ownBlock] at hk

end
end Go.Eng

/- Engine, part F: stores, appends, slice literals, calls; a function's beginning and end. -/
namespace Go.Eng
open Go Go.RowKit

section
variable {P : Program} {N : Nat} {tm : Tm} {A : World → Prop} {bs : List Base} {H : List Ent} {Q : Exit → Act → World → Prop} {K : Act → World → Prop} {dst : Option Tmp}

/-- cells laid over a row from a place on -/
def lay (cs : List Value) (off : Nat) (vs : List Value) : List Value := cs.take off ++ vs ++ cs.drop (off + vs.length)

theorem run_store_at {t n b : Nat} {z v : Value} {vs : List Value} {g off : Nat} {cur : Array Value} {e : TypeId} {w : World} [hE : TE P t n b z] (hcs : v.cells = vs.toArray) (hn : vs.length = n)
    (hg : w.heap[g]? = some (.cells cur e (0, 0))) (hfit : off + n ≤ cur.size) (h1 : ∀ u, u ∈ vs → u.oneCell' = true) :
    (Instr.storeAt t (.pointer (some ⟨g, off, none⟩)) v).run P w = .ok () (w.setRow g (lay cur.toList off vs).toArray) := by
  obtain ⟨i, hi, his, _⟩ := hE.h
  subst hn
  have hst := run_storeCells_at P g off e vs 0 cur w hg (by simpa using hfit) h1
  simp only [Nat.add_zero] at hst
  simp [Instr.storeAt, Instr.sureAddr, storeVar, sizeOf, typeInfo, hi, his, hcs, hst, lay]

inductive Ones : List Value → Prop where
  | nil : Ones []
  | cons {v : Value} {vs : List Value} : v.oneCell' = true → Ones vs → Ones (v :: vs)
theorem ones {vs : List Value} (h : Ones vs) : ∀ u, u ∈ vs → u.oneCell' = true := by
  induction h with
  | nil => intro u hu; cases hu
  | cons h1 _ ih =>
    intro u hu
    rcases List.mem_cons.1 hu with rfl | hu
    · exact h1
    · exact ih u hu

theorem lay_length {cs vs : List Value} {off : Nat} (h : off + vs.length ≤ cs.length) : (lay cs off vs).length = cs.length := by
  simp [lay]; omega

theorem fx_store_box {t n b' : Nat} {z v : Value} {x y : Operand} {b off tt i : Nat} {cs vs : List Value} [hE : TE P t n b' z] (hx : EV tm true x (.pointer (some ⟨b, off, none⟩)) := by exact ⟨_, rfl, fun _ => rfl⟩)
    (hy : EV tm true y v := by exact ⟨_, rfl, fun _ => rfl⟩) (hcs : v.cells = vs.toArray := by first | exact SV.cells (by assumption) | exact SV.cells (Sl.sv (by assumption)) | rfl) (hi : H[i]? = some (.box b cs tt)) (hn : vs.length = n := by rfl) (hfit : Nat.ble (off + n) cs.length = true := by rfl)
    (h1 : Ones vs := by repeat (first | exact Ones.nil | apply Ones.cons (by first | exact SV.one (by assumption) | exact SV.one (Sl.sv (by assumption)) | rfl)))
    (next : KP N K tm (Mem bs (H.set i (.box b (lay cs off vs) tt)))) : FX P N (.store t x y) none Q tm (Mem bs H) K := by
  intro a w ty pos aft g hs hw
  unfold Oper.wp
  have hfit' := Nat.ble_eq.mp hfit
  have hb := hw.own _ (List.mem_of_getElem? hi)
  simp only [Ent.ok] at hb
  have hr : (execOp a.eval ⟨none, .store t x y, ty, pos, aft, g⟩).run P w = .ok .skip (w.setRow b (lay cs off vs).toArray) := by
    have := run_store_at (P := P) (t := t) hcs hn hb (by simpa using hfit') (ones h1)
    simp [execOp, hx.get hs rfl, hy.get hs rfl, this]
  rw [hr]
  refine next a _ hs (hw.upd hi rfl rfl rfl (by simp) (fun k _ hk => setRow_other w b k _ (fun e => hk (by simp [Ent.fp, e]))) (setRow_heap w b _ _ tt _ hb) (fun k hk => ?_) (fun k hk => .inl hk))
  have := hw.inb _ (List.mem_of_getElem? hi) k hk
  simpa using this

theorem flatMap_take {τ : Type} {enc : τ → List Value} {sz : Nat} [he : Enc enc sz] : ∀ (xs : List τ) (i : Nat), i ≤ xs.length → (xs.flatMap enc).take (i * sz) = (xs.take i).flatMap enc
  | xs, 0, _ => by simp
  | [], i + 1, h => by simp at h
  | x :: xs, i + 1, h => by
    rw [List.flatMap_cons, List.take_succ_cons, List.flatMap_cons, Nat.add_mul, Nat.one_mul, Nat.add_comm, List.take_append, he.len,
      show sz + i * sz - sz = i * sz from by omega, flatMap_take xs i (by simpa using h), List.take_of_length_le (by rw [he.len]; omega)]
theorem flatMap_drop {τ : Type} {enc : τ → List Value} {sz : Nat} [he : Enc enc sz] : ∀ (xs : List τ) (i : Nat), i ≤ xs.length → (xs.flatMap enc).drop (i * sz) = (xs.drop i).flatMap enc
  | xs, 0, _ => by simp
  | [], i + 1, h => by simp at h
  | x :: xs, i + 1, h => by
    rw [List.flatMap_cons, List.drop_succ_cons, Nat.add_mul, Nat.one_mul, Nat.add_comm, List.drop_append, he.len,
      show sz + i * sz - sz = i * sz from by omega, flatMap_drop xs i (by simpa using h), List.drop_of_length_le (by rw [he.len]; omega), List.nil_append]
theorem flatMap_length {τ : Type} {enc : τ → List Value} {sz : Nat} [he : Enc enc sz] (xs : List τ) : (xs.flatMap enc).length = xs.length * sz := by
  induction xs with
  | nil => simp
  | cons x xs ih => rw [List.flatMap_cons, List.length_append, he.len, ih, List.length_cons, Nat.add_mul]; omega

theorem lay_mid (pre mid post vs : List Value) (o : Nat) (h : o + vs.length ≤ mid.length) : lay (pre ++ mid ++ post) (pre.length + o) vs = pre ++ lay mid o vs ++ post := by
  unfold lay
  rw [List.append_assoc pre mid post, List.take_append, List.take_of_length_le (by omega : pre.length ≤ pre.length + o), show pre.length + o - pre.length = o from by omega,
    List.take_append_of_le_length (by omega), Nat.add_assoc, List.drop_append, List.drop_of_length_le (by omega : pre.length ≤ pre.length + (o + vs.length)), List.nil_append,
    show pre.length + (o + vs.length) - pre.length = o + vs.length from by omega, List.drop_append_of_le_length h]
  simp [List.append_assoc]

/-- an element's cells, or some of them, written in an owned slice -/
theorem fx_store_own {τ : Type} [Inhabited τ] {enc : τ → List Value} {dec : List Value → τ} {t n b' sz e k i o : Nat} {z v u : Value} {x' : τ} {x y : Operand} {vs : List Value} {xs : List τ} [hE : TE P t n b' z] [EncOf P e enc dec] [he : Enc enc sz]
    (hx : EV tm true x (.pointer (some (elt v sz i o))) := by exact ⟨_, rfl, fun _ => rfl⟩) (hy : EV tm true y u := by exact ⟨_, rfl, fun _ => rfl⟩) (hcs : u.cells = vs.toArray := by first | exact SV.cells (by assumption) | exact SV.cells (Sl.sv (by assumption)) | rfl) (hk : H[k]? = some (.own v e sz enc xs))
    (hn : vs.length = n := by rfl) (hi : i < xs.length := by first | assumption | omega) (hfit : Nat.ble (o + n) sz = true := by rfl) (h1 : Ones vs := by repeat (first | exact Ones.nil | apply Ones.cons (by first | exact SV.one (by assumption) | exact SV.one (Sl.sv (by assumption)) | rfl)))
    (hd : enc x' = lay (enc (xs.getD i default)) o vs := by first | rfl | exact (show enc (dec _) = _ from rfl))
    (next : KP N K tm (Mem bs (H.set k (.own v e sz enc (xs.set i x'))))) : FX P N (.store t x y) none Q tm (Mem bs H) K := by
  intro a w ty pos aft g hs hw
  unfold Oper.wp
  have hfit' := Nat.ble_eq.mp hfit
  have hown := hw.own _ (List.mem_of_getElem? hk)
  obtain ⟨ho1, ⟨_, h0⟩ | ⟨g', cap, cur, hv, _, hh, hnc, hcm, hsz, htk⟩⟩ := hown
  · omega
  subst hv
  have e1 : elt (.slice (some ⟨g', 0, none⟩) xs.length cap) sz i o = ⟨g', i * sz + o, none⟩ := by
    simp only [elt, add_add]
    unfold Addr.add
    split
    · rename_i h0; rw [h0]
    · simp
  have hin : i * sz + sz ≤ xs.length * sz := by rw [← Nat.add_one_mul]; exact Nat.mul_le_mul_right _ hi
  have hcap : xs.length * sz ≤ cap * sz := Nat.mul_le_mul_right _ hnc
  have hr : (execOp a.eval ⟨none, .store t x y, ty, pos, aft, g⟩).run P w = .ok .skip (w.setRow g' (lay cur.toList (i * sz + o) vs).toArray) := by
    have := run_store_at (P := P) (t := t) (off := i * sz + o) hcs hn hh (by omega) (ones h1)
    simp [execOp, hx.get hs rfl, hy.get hs rfl, e1, this]
  rw [hr]
  have hlay : (lay cur.toList (i * sz + o) vs).length = cur.size := by rw [lay_length (by simp; omega)]; simp
  refine next a _ hs (hw.upd hk rfl rfl rfl (by simp) (fun k _ hk => setRow_other w g' k _ (fun e => hk (by simp [Ent.fp, Value.ownBlock, e]))) ?_ (fun k hk' => ?_) (fun k hk => .inl (by simpa [Ent.fp] using hk)))
  · refine ⟨by rw [flatMap_length], .inr ⟨g', cap, _, by simp, Nat.zero_le _, setRow_heap w g' _ _ e _ hh, by simpa using hnc, hcm, by simpa [hlay] using hsz, ?_⟩⟩
    have hcur : cur.toList = xs.flatMap enc ++ cur.toList.drop (xs.length * sz) := by rw [← htk, List.take_append_drop]
    have hx0 : xs = xs.take i ++ (xs.getD i default :: xs.drop (i + 1)) := by
      rw [List.getD_eq_getElem?_getD, List.getElem?_eq_getElem hi]
      simp
    have hset : xs.set i x' = xs.take i ++ (x' :: xs.drop (i + 1)) := by
      rw [List.set_eq_take_append_cons_drop, if_pos hi]
    have hfm : xs.flatMap enc = (xs.take i).flatMap enc ++ enc (xs.getD i default) ++ (xs.drop (i + 1)).flatMap enc := by
      conv => lhs; rw [hx0]
      rw [List.flatMap_append, List.flatMap_cons, List.append_assoc]
    have hpl : ((xs.take i).flatMap enc).length = i * sz := by rw [flatMap_length, List.length_take, Nat.min_eq_left (by omega)]
    have hL : lay cur.toList (i * sz + o) vs = (xs.set i x').flatMap enc ++ cur.toList.drop (xs.length * sz) := by
      rw [hset, List.flatMap_append, List.flatMap_cons, hd]
      conv => lhs; rw [hcur, hfm, List.append_assoc, ← hpl]
      rw [lay_mid _ _ _ _ _ (by rw [he.len]; omega)]
      simp [List.append_assoc]
    rw [hL, ← flatMap_length (enc := enc) (xs.set i _)]
    exact List.take_left
  · have := hw.inb _ (List.mem_of_getElem? hk) k (by simpa [Ent.fp] using hk')
    simpa using this

/-! append to an owned slice -/
theorem append_own {t ty e sz b : Nat} {z : Value} (w : World) [ht : TSl P t e] [hE : TE P e sz b z] (hzs : z.cells.size = sz) (hsz : 0 < sz)
    {v : Value} {n : Nat} {xs : List Value} (hown : w.ownsRow 0 e sz v n xs) {a : Option Addr} {m c : Nat} {news : List Value} (hl : news.length = m * sz)
    (hnews : ∀ A, a = some A → ∀ j u, news[j]? = some u → w.cell? (A.add j) = some u) (hnil : a = none → m = 0) (h1 : ∀ u, u ∈ news → u.oneCell' = true)
    (h63 : n + m ≤ maxLen) (hbytes : (n + m) * b ≤ 140737488355328) :
    ∃ v' w', (Builtin.append_ #[t, t] ty #[v, .slice a m c]).run P w = .ok v' w' ∧ w'.ownsRow 0 e sz v' (n + m) (xs ++ news) ∧ w.grownBy w' v.ownBlock ∧
      (∀ k, k ∈ v'.ownBlock.toList → k ∈ v.ownBlock.toList ∨ w.heap.size ≤ k) ∧ (∀ k, k ∈ v'.ownBlock.toList → k < w'.heap.size) ∧ (m = 0 → v' = v) := by
  obtain ⟨i, hi, his, hib, hiz⟩ := hE.h
  subst his
  have hsmall : n + m ≤ 9223372036854775807 := by simp only [maxLen] at h63; omega
  have same : m = 0 → ∃ cap b', v = .slice b' n cap ∧ n ≤ cap := by
    intro _
    rcases hown.2 with ⟨rfl, rfl⟩ | ⟨g, cap, cur, rfl, _, _, hnc, _⟩
    · exact ⟨0, none, rfl, Nat.le_refl _⟩
    · exact ⟨cap, _, rfl, hnc⟩
  have inb : ∀ k, k ∈ v.ownBlock.toList → k < w.heap.size := by
    intro k hk
    rcases hown.2 with ⟨rfl, rfl⟩ | ⟨g, cap, cur, rfl, _, hg, _⟩
    · simp [Value.ownBlock] at hk
    · simp [Value.ownBlock] at hk
      subst hk
      rcases Nat.lt_or_ge k w.heap.size with h' | h'
      · exact h'
      · simp [Array.getElem?_eq_none h'] at hg
  by_cases hm : m = 0
  · obtain ⟨cap, b', hv, hnc⟩ := same hm
    subst hm
    have hn0 : news = [] := List.eq_nil_of_length_eq_zero (by simpa using hl)
    subst hn0
    refine ⟨v, w, ?_, by simpa using hown, ⟨rfl, rfl, rfl, Nat.le_refl _, fun _ _ _ => rfl⟩, fun k hk => .inl hk, inb, fun _ => rfl⟩
    subst hv
    have hf : (Builtin.firstCells i.size 0 (.slice a 0 c)).run P w = .ok #[] w := by
      cases a with
      | none => simp [Builtin.firstCells]
      | some A => simpa using run_firstCells_some (P := P) w i.size 0 A 0 c [] (by simp) (by simp)
    cases b' with
    | none => simp [Builtin.append_, run_underlying ht.h, sizeOf, typeInfo, hi, Builtin.lenOf, hnc, hf]
    | some A => simp [Builtin.append_, run_underlying ht.h, sizeOf, typeInfo, hi, Builtin.lenOf, hnc, hf, storeCells]
  · obtain ⟨A, rfl⟩ : ∃ A, a = some A := by
      cases a with
      | none => exact absurd (hnil rfl) hm
      | some A => exact ⟨A, rfl⟩
    obtain ⟨v', w', hr, ho, hg, _⟩ := run_append_own (P := P) w 0 t ty e i z i.size b ht.h hi hiz rfl hib hzs hsz v n xs hown A m c news hl (hnews A rfl) h1 h63 hbytes (Nat.zero_le _)
    have inb' : ∀ k, k ∈ v'.ownBlock.toList → k < w'.heap.size := by
      intro k hk
      rcases ho.2 with ⟨rfl, _⟩ | ⟨g, cap, cur, rfl, _, hg', _⟩
      · simp [Value.ownBlock] at hk
      · simp [Value.ownBlock] at hk
        subst hk
        rcases Nat.lt_or_ge k w'.heap.size with h' | h'
        · exact h'
        · simp [Array.getElem?_eq_none h'] at hg'
    refine ⟨v', w', hr, ho, hg, ?_, inb', fun h => absurd h hm⟩
    intro k hk
    rcases hown.2 with ⟨rfl, rfl⟩ | ⟨g, cap, cur, rfl, hbg, hg2, hnc, hcm, hcs, htake⟩
    · have hx : xs = [] := List.eq_nil_of_length_eq_zero (by simpa using hown.1)
      have hr2 := run_append_nil (P := P) w t ty e i z ht.h hi hiz A m c news hl (hnews A rfl) (by omega) (by omega) (by have hb := hbytes; simp only [Nat.zero_add] at hb; rw [hib]; omega)
      rw [hr2] at hr
      injection hr with hr _
      subst hr
      simp [Value.ownBlock] at hk
      exact .inr (by omega)
    · by_cases hroom : n + m ≤ cap
      · have hfit : n * i.size + news.length ≤ cur.size := by rw [hl, hcs, ← Nat.add_mul]; exact Nat.mul_le_mul_right _ hroom
        have hr2 := run_append_room (P := P) w t ty e i ht.h hi g n cap cur hg2 A m c news hl (hnews A rfl) h1 hroom hfit
        rw [hr2] at hr
        injection hr with hr _
        subst hr
        exact .inl hk
      · have holds : ∀ j u, xs[j]? = some u → w.cell? ((⟨g, 0, none⟩ : Addr).add j) = some u := hown.cells (g := g) rfl
        have hr2 := run_append_grow (P := P) w t ty e i z ht.h hi hiz ⟨g, 0, none⟩ n cap xs hown.1 holds A m c news hl (hnews A rfl) (by omega) (by omega) (by rw [hib]; exact growslice_fits (by omega) hbytes)
        rw [hr2] at hr
        injection hr with hr _
        subst hr
        simp [Value.ownBlock] at hk
        exact .inr (by omega)

end
end Go.Eng

/- Engine, part G: append, slice literals, struct literals, calls; a function's beginning and end. -/
namespace Go.Eng
open Go Go.RowKit

theorem flat_at {τ : Type} {enc : τ → List Value} {sz : Nat} [he : Enc enc sz] : ∀ (xs : List τ) (j : Nat) (u : Value), (xs.flatMap enc)[j]? = some u → ∃ i x o, xs[i]? = some x ∧ (enc x)[o]? = some u ∧ j = i * sz + o
  | [], j, u, h => by simp at h
  | x :: xs, j, u, h => by
    rw [List.flatMap_cons] at h
    by_cases hj : j < sz
    · rw [List.getElem?_append_left (by rw [he.len]; exact hj)] at h
      exact ⟨0, x, j, rfl, h, by omega⟩
    · rw [List.getElem?_append_right (by rw [he.len]; omega), he.len] at h
      obtain ⟨i, y, o, h1, h2, h3⟩ := flat_at xs _ u h
      exact ⟨i + 1, y, o, by simpa using h1, h2, by rw [Nat.add_one_mul]; omega⟩

theorem Sl.flat {τ : Type} {S : Nat → Prop} {w : World} {enc : τ → List Value} {sz n cap : Nat} {a : Option Addr} {xs : List τ} [he : Enc enc sz] (h : Sl S w enc sz (.slice a n cap) xs) : ∀ A, a = some A → ∀ j u, (xs.flatMap enc)[j]? = some u → w.cell? (A.add j) = some u := by
  rintro A rfl j u hj
  obtain ⟨i, x, o, h1, h2, rfl⟩ := flat_at xs j u hj
  have := h.cell i x o u h1 h2
  simpa only [elt, add_add] using this

theorem zero_of_none {a : Option Addr} {n : Nat} (h : 0 < n → a.isSome = true) (ha : a = none) : n = 0 := by
  rcases Nat.eq_zero_or_pos n with h0 | h0
  · exact h0
  · have := h h0
    rw [ha] at this
    cases this

/-- every cell of a code is one cell -/
class EncOne {τ : Type} (enc : τ → List Value) (ok : outParam (τ → Prop)) : Prop where
  one : ∀ x, ok x → ∀ u, u ∈ enc x → u.oneCell' = true

section
variable {P : Program} {N : Nat} {tm : Tm} {A : World → Prop} {bs : List Base} {H : List Ent} {Q : Exit → Act → World → Prop} {K : Act → World → Prop} {dst : Option Tmp} {c : Bool}

theorem Sl.same_base {τ : Type} {S : Nat → Prop} {B w : World} {enc : τ → List Value} {sz : Nat} {v : Value} {xs : List τ} [he : Enc enc sz] (h : Sl S B enc sz v xs) (hA : Agr S B w) : Sl S w enc sz v xs :=
  h.mono hA (fun _ _ h => h) (fun x _ => he.ne x)

theorem fx_append_any {τ : Type} {enc : τ → List Value} {dec : List Value → τ} {ok : τ → Prop} {d t e sz b k : Nat} {z v u : Value} {x y : Operand} {xs ys : List τ} [ht : TSl P t e] [hE : TE P e sz b z] [EncOf P e enc dec] [he : Enc enc sz] [h1 : EncOne enc ok]
    (hx : EV tm true x v) (hy : EV tm true y u) (hk : H[k]? = some (.own v e sz enc xs)) (hz : Nat.beq z.cells.size sz = true)
    (hsrc : ∀ w, Mem bs H w → ∃ a c, u = .slice a ys.length c ∧ (a = none → ys.length = 0) ∧ ∀ A, a = some A → ∀ j q, (ys.flatMap enc)[j]? = some q → w.cell? (A.add j) = some q) (hok : ∀ y, y ∈ ys → ok y)
    (hlen : (xs.length + ys.length) * b ≤ 140737488355328 ∧ xs.length + ys.length ≤ 9223372036854775807) (hd : Nat.blt d N = true)
    (next : ∀ v', SV v' → KP N K ((d, true, v') :: tm) (Mem bs (H.set k (.own v' e sz enc (xs ++ ys))))) : FX P N (.call { callee := .builtin .append, args := #[x, y], argTypes := #[t, t] }) (some d) Q tm (Mem bs H) K := by
  intro a w ty pos aft g hs hw
  unfold Oper.wp
  obtain ⟨a', c', rfl, hnil, hcell⟩ := hsrc w hw
  have hown := hw.own _ (List.mem_of_getElem? hk)
  obtain ⟨v', w', hr, ho, hg, hf, hi, _⟩ := append_own (P := P) (t := t) (ty := ty) (a := a') (c := c') w (Nat.eq_of_beq_eq_true hz) he.pos hown (m := ys.length) (news := ys.flatMap enc) (flatMap_length ys) hcell hnil
    (fun q hq => by obtain ⟨y, hy, hq⟩ := List.mem_flatMap.1 hq; exact h1.one y (hok y hy) q hq) (by unfold maxLen; omega) hlen.1
  have hr' : (execOp a.eval ⟨some d, .call { callee := .builtin .append, args := #[x, y], argTypes := #[t, t] }, ty, pos, aft, g⟩).run P w = .ok (.value v') w' := by
    simp [execOp, resolve, invoke, builtin, hx.get hs rfl, hy.get hs rfl, hr]
  rw [hr']
  have hsv : SV v' := by
    rcases ho.2 with ⟨rfl, _⟩ | ⟨g, cap, cur, rfl, _⟩
    · exact ⟨_, _, _, rfl⟩
    · exact ⟨_, _, _, rfl⟩
  refine next v' hsv _ _ (by simpa using hs.put (Nat.ble_eq.mp hd) true _) ?_
  refine hw.upd hk hg.os hg.tape hg.output hg.size (fun q hq hn => hg.block q hq (fun e => hn ?_)) ?_ hi hf
  · simp only [Ent.fp, Option.mem_toList]; exact e.symm
  · show w'.ownsRow 0 e sz v' (xs ++ ys).length ((xs ++ ys).flatMap enc)
    rw [List.length_append, List.flatMap_append]
    exact ho

theorem fx_append_base {τ : Type} {enc : τ → List Value} {dec : List Value → τ} {ok : τ → Prop} {d t e sz b k : Nat} {z v u : Value} {x y : Operand} {xs ys : List τ} {S : Nat → Prop} {B : World} [ht : TSl P t e] [hE : TE P e sz b z] [EncOf P e enc dec] [he : Enc enc sz] [h1 : EncOne enc ok]
    (hx : EV tm true x v := by exact ⟨_, rfl, fun _ => rfl⟩) (hy : EV tm true y u := by exact ⟨_, rfl, fun _ => rfl⟩) (hk : H[k]? = some (.own v e sz enc xs)) (h : Sl S B enc sz u ys := by assumption) (hB : (B, S) ∈ bs := by (repeat (first | exact List.Mem.head _ | refine List.Mem.tail _ ?_))) (hz : Nat.beq z.cells.size sz = true := by rfl)
    (hok : ∀ y, y ∈ ys → ok y := by (intros; trivial))
    (hlen : (xs.length + ys.length) * b ≤ 140737488355328 ∧ xs.length + ys.length ≤ 9223372036854775807 := by omega) (hd : Nat.blt d N = true := by rfl)
    (next : ∀ v', SV v' → KP N K ((d, true, v') :: tm) (Mem bs (H.set k (.own v' e sz enc (xs ++ ys))))) : FX P N (.call { callee := .builtin .append, args := #[x, y], argTypes := #[t, t] }) (some d) Q tm (Mem bs H) K :=
  fx_append_any (dec := dec) (ok := ok) hx hy hk hz (fun w hw => by
    obtain ⟨a, n, cap, hu, hn, _, _, hso⟩ := h.is
    subst hu; subst hn
    exact ⟨a, cap, rfl, zero_of_none hso, (h.same_base (hw.base _ hB)).flat⟩) hok hlen hd next

theorem own_flat {τ : Type} {enc : τ → List Value} {sz tt n cap : Nat} {a : Option Addr} {xs : List τ} {w : World} (h : (Ent.own (.slice a n cap) tt sz enc xs).ok w) : ∀ A, a = some A → ∀ j u, (xs.flatMap enc)[j]? = some u → w.cell? (A.add j) = some u := by
  rintro A rfl j u hj
  have ⟨_, h2⟩ := h
  rcases h2 with ⟨hv, _⟩ | ⟨g, cap', cur, hv, _⟩
  · cases hv
  · injection hv with h1 h2 h3
    injection h1 with h1
    subst h1
    exact World.ownsRow.cells (g := g) h rfl j u hj

theorem fx_append_own {τ : Type} {enc : τ → List Value} {dec : List Value → τ} {ok : τ → Prop} {d t e sz b k tt : Nat} {z v u : Value} {x y : Operand} {xs ys : List τ} [ht : TSl P t e] [hE : TE P e sz b z] [EncOf P e enc dec] [he : Enc enc sz] [h1 : EncOne enc ok]
    (hx : EV tm true x v := by exact ⟨_, rfl, fun _ => rfl⟩) (hy : EV tm true y u := by exact ⟨_, rfl, fun _ => rfl⟩) (hk : H[k]? = some (.own v e sz enc xs)) (hm : Ent.own u tt sz enc ys ∈ H := by (repeat (first | exact List.Mem.head _ | refine List.Mem.tail _ ?_))) (hz : Nat.beq z.cells.size sz = true := by rfl)
    (hok : ∀ y, y ∈ ys → ok y := by (intros; trivial))
    (hlen : (xs.length + ys.length) * b ≤ 140737488355328 ∧ xs.length + ys.length ≤ 9223372036854775807 := by omega) (hd : Nat.blt d N = true := by rfl)
    (next : ∀ v', SV v' → KP N K ((d, true, v') :: tm) (Mem bs (H.set k (.own v' e sz enc (xs ++ ys))))) : FX P N (.call { callee := .builtin .append, args := #[x, y], argTypes := #[t, t] }) (some d) Q tm (Mem bs H) K :=
  fx_append_any (dec := dec) (ok := ok) hx hy hk hz (fun w hw => by
    have ho := hw.own _ hm
    obtain ⟨a, cap, hu, hso, _⟩ := own_is ho
    subst hu
    exact ⟨a, cap, rfl, zero_of_none hso, own_flat ho⟩) hok hlen hd next

/-! literals -/

/-- what the parts of a literal hold -/
inductive EVP (tm : Tm) (c : Bool) : List (Nat × Operand) → List (Nat × List Value) → Prop where
  | nil : EVP tm c [] []
  | cons {i : Nat} {x : Operand} {v : Value} {cs : List Value} {ps : List (Nat × Operand)} {qs : List (Nat × List Value)} : EV tm c x v → v.cells = cs.toArray → EVP tm c ps qs → EVP tm c ((i, x) :: ps) ((i, cs) :: qs)

/-- fill, over lists -/
def fillL (place : Nat → Option (Nat × Nat)) : List Value → List (Nat × List Value) → Option (List Value)
  | cells, [] => some cells
  | cells, (i, vs) :: rest =>
    match place i with
    | none => none
    | some (off, size) => bif Nat.beq vs.length size && Nat.ble (off + vs.length) cells.length then fillL place (lay cells off vs) rest else none

theorem set_lay (X D : List Value) (v : Value) (vs : List Value) (p : Nat) (hX : X.length = p) :
    (X ++ v :: D).take (p + 1) ++ vs ++ (X ++ v :: D).drop (p + 1 + vs.length) = X ++ v :: vs ++ D.drop vs.length := by
  subst hX
  rw [List.take_append, List.take_of_length_le (by omega : X.length ≤ X.length + 1), show X.length + 1 - X.length = 1 from by omega,
    List.drop_append, List.drop_of_length_le (by omega : X.length ≤ X.length + 1 + vs.length), show X.length + 1 + vs.length - X.length = vs.length + 1 from by omega]
  simp

theorem foldl_lay : ∀ (vs : List Value) (off k : Nat) (cs : Array Value), off + k + vs.length ≤ cs.size →
    (vs.zipIdx k).foldl (fun (cs : Array Value) (p : Value × Nat) => cs.setIfInBounds (off + p.2) p.1) cs = (lay cs.toList (off + k) vs).toArray
  | [], off, k, cs, _ => by simp [lay]
  | v :: vs, off, k, cs, h => by
    rw [List.zipIdx_cons, List.foldl_cons]
    simp only [List.length_cons] at h
    rw [foldl_lay vs off (k + 1) _ (by simp; omega)]
    simp only [Array.toList_setIfInBounds, lay]
    congr 1
    have hlt : off + k < cs.toList.length := by simp; omega
    rw [show off + (k + 1) = off + k + 1 from by omega, List.set_eq_take_append_cons_drop, if_pos hlt,
      set_lay _ _ v vs (off + k) (by rw [List.length_take]; omega), List.drop_drop, List.length_cons]
    congr 2
    omega

theorem fill_fillL (place : Nat → Option (Nat × Nat)) : ∀ (ps : List (Nat × Value)) (qs : List (Nat × List Value)) (cells : List Value) (out : List Value),
    ps.map (fun p => (p.1, p.2.cells)) = qs.map (fun q => (q.1, q.2.toArray)) → fillL place cells qs = some out → Instr.fill place cells.toArray ps = some out.toArray
  | [], qs, cells, out, hm, h => by
    cases qs with
    | nil => simp [fillL] at h; subst h; rfl
    | cons q qs => simp at hm
  | p :: ps, qs, cells, out, hm, h => by
    cases qs with
    | nil => simp at hm
    | cons q qs =>
      obtain ⟨i, v⟩ := p
      obtain ⟨j, vs⟩ := q
      simp only [List.map_cons, List.cons.injEq, Prod.mk.injEq] at hm
      obtain ⟨⟨rfl, hv⟩, hm⟩ := hm
      simp only [fillL] at h
      simp only [Instr.fill]
      cases hp : place i with
      | none => rw [hp] at h; cases h
      | some os =>
        obtain ⟨off, size⟩ := os
        rw [hp] at h
        simp only at h ⊢
        cases hc : (Nat.beq vs.length size && Nat.ble (off + vs.length) cells.length) with
        | false => rw [hc] at h; cases h
        | true =>
          rw [hc] at h
          simp only [Bool.and_eq_true] at hc
          have h1 := Nat.eq_of_beq_eq_true hc.1
          have h2 := Nat.ble_eq.mp hc.2
          rw [hv]
          simp only [List.size_toArray, h1, ne_eq, not_true, decide_false, Bool.false_or, decide_eq_true_eq]
          rw [if_neg (by simp; omega)]
          have := foldl_lay vs off 0 cells.toArray (by simpa using h2)
          simp only [Nat.add_zero] at this
          have e : (vs.toArray.zipIdx.foldl (fun (cs : Array Value) (p : Value × Nat) => cs.setIfInBounds (off + p.2) p.1) cells.toArray) = (lay cells off vs).toArray := by
            rw [← this]
            simp
          rw [e]
          exact fill_fillL place ps qs _ out hm h

end
end Go.Eng

/- Engine, part H: struct and slice literals, calls, a function's beginning and end. -/
namespace Go.Eng
open Go Go.RowKit

section
variable {P : Program} {N : Nat} {tm : Tm} {A : World → Prop} {bs : List Base} {H : List Ent} {Q : Exit → Act → World → Prop} {K : Act → World → Prop} {dst : Option Tmp} {c : Bool}

/-- a struct type's literal -/
class TP (P : Program) (t : TypeId) (z : outParam Value) (places : outParam (List (Nat × Nat))) : Prop where
  h : ∀ parts w, (Instr.build t parts).run P w = match Instr.fill (fun i => places[i]?) z.cells parts.toList with | some cells => .ok (.agg cells) w | none => .halt (.stuck "build: no such field, or a part of the wrong size") w

theorem run_mapM {α β : Type} (f : α → Sem β) (g : α → β) (w : World) : ∀ (l : List α), (∀ x, x ∈ l → (f x).run P w = .ok (g x) w) → (l.mapM f).run P w = .ok (l.map g) w
  | [], _ => by simp
  | x :: l, h => by
    rw [List.mapM_cons]
    simp [h x (by simp), run_mapM f g w l (fun y hy => h y (by simp [hy]))]

theorem TP.of {t : TypeId} {fs : Array Field} {z : Value} {places : List (Nat × Nat)} (hu : P.underlying t = some (.struct fs)) (hz : (P.info? t).bind (·.zero) = some z)
    (hp : fs.toList.map (fun f => (P.info? f.type).map (fun i => (f.offset, i.size))) = places.map some) : TP P t z places := by
  refine ⟨fun parts w => ?_⟩
  obtain ⟨i, hi, hiz⟩ := Option.bind_eq_some_iff.1 hz
  have hm : (fs.mapM fun f => (Prod.mk f.offset <$> sizeOf f.type : Sem (Nat × Nat))).run P w = .ok places.toArray w := by
    rw [Array.mapM_eq_mapM_toList]
    have h1 : (fs.toList.mapM fun f => (Prod.mk f.offset <$> sizeOf f.type : Sem (Nat × Nat))).run P w = .ok (fs.toList.map fun f => (f.offset, P.cellsOf f.type)) w := by
      refine run_mapM _ _ w _ fun f hf => ?_
      have : (P.info? f.type).map (fun i => (f.offset, i.size)) ∈ places.map some := by rw [← hp]; exact List.mem_map_of_mem hf
      obtain ⟨p, _, hp'⟩ := List.mem_map.1 this
      obtain ⟨j, hj, _⟩ := Option.map_eq_some_iff.1 hp'.symm
      simp [sizeOf, typeInfo, hj, Program.cellsOf]
    have h2 : (fs.toList.map fun f => (f.offset, P.cellsOf f.type)) = places := by
      have : ∀ (l : List Field) (ps : List (Nat × Nat)), l.map (fun f => (P.info? f.type).map (fun i => (f.offset, i.size))) = ps.map some → l.map (fun f => (f.offset, P.cellsOf f.type)) = ps := by
        intro l
        induction l with
        | nil => intro ps h; cases ps with | nil => rfl | cons _ _ => simp at h
        | cons f l ih =>
          intro ps h
          cases ps with
          | nil => simp at h
          | cons p ps =>
            simp only [List.map_cons, List.cons.injEq] at h ⊢
            obtain ⟨j, hj, he⟩ := Option.map_eq_some_iff.1 h.1
            exact ⟨by rw [← he]; simp [Program.cellsOf, hj], ih ps h.2⟩
      exact this _ _ hp
    simp [h1, h2]
  simp [Instr.build, zeroValue, typeInfo, hi, hiz, run_underlying hu, hm]
  split
  · rename_i cells h; rw [h]; simp
  · rename_i h
    cases hc : Instr.fill (fun i => places[i]?) z.cells parts.toList with
    | none => simp
    | some cells => exact absurd hc (h cells)

theorem EVP.get {a : Act} {ps : List (Nat × Operand)} {qs : List (Nat × List Value)} (h : EVP tm c ps qs) (hs : Sim N tm a) (hc : c = true) :
    (ps.map fun p => (p.1, a.eval p.2)).map (fun p => (p.1, p.2.cells)) = qs.map (fun q => (q.1, q.2.toArray)) := by
  induction h with
  | nil => rfl
  | cons h1 h2 _ ih => simp only [List.map_cons, h1.get hs hc, h2, ih]

theorem qy_build {t : TypeId} {z : Value} {places : List (Nat × Nat)} {ps : List (Nat × Operand)} {qs : List (Nat × List Value)} {zs out : List Value} [hT : TP P t z places]
    (hp : EVP tm c ps qs := by repeat (first | exact .nil | apply EVP.cons ⟨_, rfl, fun _ => rfl⟩ (by first | exact SV.cells (by assumption) | exact SV.cells (Sl.sv (by assumption)) | rfl) | apply EVP.cons ⟨_, rfl, fun h => h⟩ (by first | exact SV.cells (by assumption) | exact SV.cells (Sl.sv (by assumption)) | rfl))) (hz : z.cells = zs.toArray := by rfl) (hf : fillL (fun i => places[i]?) zs qs = some out := by rfl) : QY P N (.build t ps.toArray) tm A c (.agg out.toArray) :=
  fun hc a w _ _ _ _ _ hsim hw => by
    simp only [execOp]
    refine run_v ?_
    rw [hT.h, hz]
    have h2 := fill_fillL (fun i => places[i]?) (ps.map fun p => (p.1, a.eval p.2)) qs zs out (hp.get hsim hc) hf
    have e : (Array.map (fun (x : Nat × Operand) => match x with | (i, x) => (i, a.eval x)) ps.toArray).toList = ps.map fun p => (p.1, a.eval p.2) := by simp
    rw [e, h2]

/-! slices written out -/
def AllP {α : Type} (p : α → Prop) : List α → Prop
  | [] => True
  | x :: l => p x ∧ AllP p l

theorem AllP.mem {α : Type} {p : α → Prop} : ∀ {l : List α}, AllP p l → ∀ x, x ∈ l → p x
  | [], _, x, h => by cases h
  | y :: l, h, x, hx => by
    rcases List.mem_cons.1 hx with rfl | hx
    · exact h.1
    · exact AllP.mem h.2 x hx

theorem fillL_seq (sz : Nat) : ∀ (qs : List (Nat × List Value)) (i : Nat) (pre rest : List Value), qs.map (·.1) = List.range' i qs.length → (∀ q, q ∈ qs → q.2.length = sz) → pre.length = i * sz → rest.length = qs.length * sz →
    fillL (fun i => some (i * sz, sz)) (pre ++ rest) qs = some (pre ++ (qs.map (·.2)).flatten)
  | [], i, pre, rest, _, _, _, hr => by
    have : rest = [] := List.eq_nil_of_length_eq_zero (by simpa using hr)
    subst this
    simp [fillL]
  | q :: qs, i, pre, rest, hi, hl, hp, hr => by
    obtain ⟨j, vs⟩ := q
    simp only [List.map_cons, List.length_cons, List.range'_succ, List.cons.injEq] at hi
    obtain ⟨rfl, hi⟩ := hi
    have hv := hl (j, vs) (by simp)
    simp only at hv
    rw [List.length_cons, Nat.add_one_mul] at hr
    have hc : (Nat.beq vs.length sz && Nat.ble (j * sz + vs.length) (pre ++ rest).length) = true := by
      rw [Bool.and_eq_true]
      exact ⟨by rw [hv]; exact Nat.beq_refl _, Nat.ble_eq.mpr (by rw [List.length_append]; omega)⟩
    simp only [fillL, hc, cond_true]
    have e : lay (pre ++ rest) (j * sz) vs = (pre ++ vs) ++ rest.drop sz := by
      unfold lay
      rw [← hp, List.take_left, List.drop_append, List.drop_of_length_le (by omega : pre.length ≤ pre.length + vs.length), List.nil_append, show pre.length + vs.length - pre.length = sz from by omega]
    rw [e, fillL_seq sz qs (j + 1) (pre ++ vs) (rest.drop sz) hi (fun q hq => hl q (by simp [hq])) (by rw [List.length_append, Nat.add_one_mul]; omega) (by rw [List.length_drop]; omega)]
    simp [List.append_assoc]

theorem flatMap_dec {τ : Type} {enc : τ → List Value} {dec : List Value → τ} : ∀ (qs : List (Nat × List Value)), (∀ q, q ∈ qs → enc (dec q.2) = q.2) → (qs.map fun q => dec q.2).flatMap enc = (qs.map (·.2)).flatten
  | [], _ => rfl
  | q :: qs, h => by rw [List.map_cons, List.flatMap_cons, List.map_cons, List.flatten_cons, h q (by simp), flatMap_dec qs (fun q hq => h q (by simp [hq]))]

theorem fx_lit {τ : Type} {enc : τ → List Value} {dec : List Value → τ} {d t e sz b len : Nat} {z : Value} {ps : List (Nat × Operand)} {qs : List (Nat × List Value)} [ht : TSl P t e] [hE : TE P e sz b z] [EncOf P e enc dec] [he : Enc enc sz]
    (hp : EVP tm true ps qs := by repeat (first | exact .nil | apply EVP.cons ⟨_, rfl, fun _ => rfl⟩ (by first | exact SV.cells (by assumption) | exact SV.cells (Sl.sv (by assumption)) | rfl) | apply EVP.cons ⟨_, rfl, fun h => h⟩ (by first | exact SV.cells (by assumption) | exact SV.cells (Sl.sv (by assumption)) | rfl))) (hi : qs.map (·.1) = List.range' 0 len := by rfl) (hq : AllP (fun q => enc (dec q.2) = q.2) qs := by repeat (first | exact trivial | refine ⟨rfl, ?_⟩))
    (hsz : Nat.ble (len * sz) 16777216 = true := by rfl) (hd : Nat.blt d N = true := by rfl)
    (next : ∀ v, SV v → KP N K ((d, true, v) :: tm) (Mem bs (.own v e sz enc (qs.map fun q => dec q.2) :: H))) : FX P N (.buildSlice t len ps.toArray) (some d) Q tm (Mem bs H) K := by
  intro a w ty pos aft g hs hw
  unfold Oper.wp
  have hql : qs.length = len := by have := congrArg List.length hi; simpa using this
  subst hql
  have hqs : ∀ q, q ∈ qs → q.2.length = sz := fun q hq' => by rw [← hq.mem q hq', he.len]
  obtain ⟨i, hin, his, hib, hiz⟩ := hE.h
  subst his
  have hr : ∃ o : Array Value, o.toList = (qs.map (·.2)).flatten ∧ (execOp a.eval ⟨some d, .buildSlice t qs.length ps.toArray, ty, pos, aft, g⟩).run P w = .ok (.value (.slice (some ⟨w.heap.size, 0, none⟩) qs.length qs.length)) (w.alloc (.cells o e)) := by
    have key : ∀ zs : Array Value, zs.size = qs.length * i.size → Instr.fill (fun j => some (j * i.size, i.size)) zs (ps.map fun p => (p.1, a.eval p.2)) = some ((qs.map (·.2)).flatten).toArray := by
      intro zs hzs
      have := fillL_seq i.size qs 0 [] zs.toList (by simpa using hi) hqs (by simp) (by simpa using hzs)
      simp only [List.nil_append] at this
      have := fill_fillL _ (ps.map fun p => (p.1, a.eval p.2)) qs zs.toList _ (hp.get hs rfl) this
      simpa using this
    refine ⟨((qs.map (·.2)).flatten).toArray, by simp, ?_⟩
    have h24 : ¬ (16777216 < qs.length * i.size) := by have := Nat.ble_eq.mp hsz; omega
    by_cases h0 : qs.length * i.size = 0
    · have hk := key #[] (by simp [h0])
      have e0 : ∀ f : Nat → Value, Array.map f (Array.range 0) = #[] := fun f => by simp [Array.range]
      simp [execOp, Instr.buildSlice, run_underlying ht.h, sizeOf, typeInfo, hin, h0, newRow, hk, e0]
    · have hk := key ((Array.range (qs.length * i.size)).map (z.cells[· % z.cells.size]!)) (by simp)
      simp [execOp, Instr.buildSlice, run_underlying ht.h, sizeOf, typeInfo, hin, h0, h24, zeroValue, hiz, newRow, hk]
  obtain ⟨o, ho, hr⟩ := hr
  rw [hr]
  have hfm : (qs.map fun q => dec q.2).flatMap enc = (qs.map (·.2)).flatten := flatMap_dec qs hq.mem
  have hlen : ((qs.map (·.2)).flatten).length = qs.length * i.size := by rw [← hfm, flatMap_length, List.length_map]
  refine next _ ⟨_, _, _, rfl⟩ _ _ (by simpa using hs.put (Nat.ble_eq.mp hd) true _) ?_
  refine hw.new rfl rfl rfl (by simp) (fun k hk => heap_alloc_old w _ hk) ?_ (fun k hk => ?_) (fun k hk => ?_)
  · refine ⟨by rw [flatMap_length], .inr ⟨w.heap.size, qs.length, o, by simp, Nat.zero_le _, heap_alloc_new w _, by simp, ?_, by rw [← Array.length_toList, ho, hlen], ?_⟩⟩
    · have := Nat.ble_eq.mp hsz
      have h1 : qs.length * 1 ≤ qs.length * i.size := Nat.mul_le_mul_left _ he.pos
      unfold maxLen; omega
    · rw [hfm, ho, List.length_map, ← hlen, List.take_length]
  · simp only [Ent.fp, Value.ownBlock, Option.toList, List.mem_singleton] at hk; subst hk; simp
  · simp only [Ent.fp, Value.ownBlock, Option.toList, List.mem_singleton] at hk; omega

/-! calls -/
class FN (P : Program) (k : FuncId) : Prop where
  h : ∃ fn, P.funcs[k]? = some fn ∧ (fn.name == "runtime.NumGoroutine") = false ∧ fn.body.isNone = false

/-- A call that turns nothing that was there: what it answers, of new blocks from n on. -/
def PurR (w : World) (Φ : Nat → Value → World → Prop) : Ending → World → Prop := fun e w' => ∃ v, e = .returned v ∧ Below w.heap.size w w' ∧ Φ w.heap.size v w'
def Pur (P : Program) (k : FuncId) (args : List Value) (w : World) (Φ : Nat → Value → World → Prop) : Prop :=
  Calls P k args.toArray w (PurR w Φ)

theorem exec_call {k : FuncId} {f : Operand} {xs : List Operand} {ts : Array TypeId} {first cap : List Value} {vs : List Value} {a : Act} {w : World} {d : Option Tmp} {ty : TypeId} {pos : String} {aft : Array Edge} {g : Option (Nat × Bool)} [hF : FN P k]
    (hf : a.eval f = .func (.func k) first.toArray cap.toArray) (hxs : xs.map a.eval = vs) :
    (execOp a.eval ⟨d, .call { callee := .value f, args := xs.toArray, argTypes := ts }, ty, pos, aft, g⟩).run P w = .ok (.enter k (first ++ vs ++ cap).toArray) w := by
  obtain ⟨fn, h1, h2, h3⟩ := hF.h
  have h2' : fn.name ≠ "runtime.NumGoroutine" := by simpa using h2
  have h3' : fn.body ≠ none := by intro h; rw [h] at h3; cases h3
  simp only [execOp, resolve, hf, Deferred.ofValue]
  simp [invoke, callFunc, h1, h2', h3', hxs]

theorem fx_call {d k : Nat} {f : Operand} {xs : List Operand} {ts : Array TypeId} {first cap vs : List Value} {Φ : Nat → Value → World → Prop} [hF : FN P k]
    (hf : EV tm true f (.func (.func k) first.toArray cap.toArray) := by exact ⟨_, rfl, fun _ => rfl⟩) (hxs : EVS tm true xs vs := by first | exact .nil | exact .cons ⟨_, rfl, fun _ => rfl⟩ .nil | exact .cons ⟨_, rfl, fun _ => rfl⟩ (.cons ⟨_, rfl, fun _ => rfl⟩ .nil) | (repeat (first | exact .nil | apply EVS.cons ⟨_, rfl, fun _ => rfl⟩))) (hd : Nat.blt d N = true := by rfl)
    (spec : ∀ w, Mem bs H w → Pur P k (first ++ vs ++ cap) w Φ)
    (next : ∀ v n w1, Φ n v w1 → n ≤ w1.heap.size → KP N K ((d, true, v) :: tm) (Mem ((w1, Fr n) :: bs) H)) :
    FX P N (.call { callee := .value f, args := xs.toArray, argTypes := ts }) (some d) Q tm (Mem bs H) K := by
  intro a w ty pos aft g hs hw
  unfold Oper.wp
  rw [exec_call (hf.get hs rfl) (hxs.get hs rfl)]
  simp only [Oper.upon]
  refine Calls.mono (spec w hw) fun e w' h => ?_
  obtain ⟨v, rfl, hb, hΦ⟩ := h
  refine next v w.heap.size w' hΦ hb.size _ _ (by simpa using hs.put (Nat.ble_eq.mp hd) true v) ?_
  have hm := hw.ext hb
  refine ⟨fun B hB => ?_, hm.own, hm.inb, fun B hB e he k hk hS => ?_, hm.disj⟩
  · rcases List.mem_cons.1 hB with rfl | hB
    · exact Agr.refl _ _
    · exact hm.base B hB
  · rcases List.mem_cons.1 hB with rfl | hB
    · have := hw.inb e he k hk
      simp only [Fr] at hS
      omega
    · exact hm.apart B hB e he k hk hS

/-- the same for a call that hands nothing back -/
theorem fx_call0 {k : Nat} {f : Operand} {xs : List Operand} {ts : Array TypeId} {first cap vs : List Value} [hF : FN P k]
    (hf : EV tm true f (.func (.func k) first.toArray cap.toArray) := by exact ⟨_, rfl, fun _ => rfl⟩) (hxs : EVS tm true xs vs := by first | exact .nil | exact .cons ⟨_, rfl, fun _ => rfl⟩ .nil | exact .cons ⟨_, rfl, fun _ => rfl⟩ (.cons ⟨_, rfl, fun _ => rfl⟩ .nil) | (repeat (first | exact .nil | apply EVS.cons ⟨_, rfl, fun _ => rfl⟩)))
    (spec : ∀ w, Mem bs H w → Calls P k (first ++ vs ++ cap).toArray w fun e w' => e = .returned (.tuple #[]) ∧ Mem bs H w')
    (next : KP N K tm (Mem bs H)) (dst : Option Tmp) (hd : dst = none) :
    FX P N (.call { callee := .value f, args := xs.toArray, argTypes := ts }) dst Q tm (Mem bs H) K := by
  intro a w ty pos aft g hs hw
  unfold Oper.wp
  rw [exec_call (hf.get hs rfl) (hxs.get hs rfl)]
  simp only [Oper.upon]
  refine Calls.mono (spec w hw) fun e w' h => ?_
  obtain ⟨rfl, hm⟩ := h
  subst hd
  exact next _ _ hs hm

/-! the beginning and the end of a function -/
def tmOf : Nat → List Value → Tm
  | _, [] => []
  | i, v :: r => (i, true, v) :: tmOf (i + 1) r

theorem lk_tmOf : ∀ (l : List Value) (i d : Nat) (c : Bool) (v : Value), lk (tmOf i l) d = some (c, v) → c = true ∧ i ≤ d ∧ l[d - i]? = some v
  | [], i, d, c, v, h => by cases h
  | u :: l, i, d, c, v, h => by
    simp only [tmOf, lk] at h
    cases hb : Nat.beq i d with
    | true =>
      rw [hb, cond_true] at h
      injection h with h
      injection h with h1 h2
      have := Nat.eq_of_beq_eq_true hb
      subst this
      exact ⟨h1.symm, Nat.le_refl _, by simp [h2]⟩
    | false =>
      rw [hb, cond_false] at h
      obtain ⟨h1, h2, h3⟩ := lk_tmOf l (i + 1) d c v h
      exact ⟨h1, by omega, by rw [show d - i = d - (i + 1) + 1 from by omega]; simpa using h3⟩

theorem enter {k : FuncId} {fn : Func} {code : Code} {args : List Value} {w : World} {R : Ending → World → Prop} (hf : P.funcs[k]? = some fn) (hN : fn.ntmps = N) (hb : fn.body = some code) (hlen : Nat.ble args.length N = true)
    (A : World → Prop) (hA : A w) (h : KP N (code.wp P (bodyPost P fn R)) (tmOf 0 args) A) : Calls P k args.toArray w R := by
  refine calls_of_wp hf hb (h _ w ⟨?_, rfl, fun d c v hl => ?_⟩ hA)
  · have := Nat.ble_eq.mp hlen
    simp [hN]; omega
  · obtain ⟨h1, _, h3⟩ := lk_tmOf args 0 d c v hl
    simp only [Nat.sub_zero] at h3
    have hd : d < args.length := by
      rcases Nat.lt_or_ge d args.length with h' | h'
      · exact h'
      · rw [List.getElem?_eq_none h'] at h3; cases h3
    rw [h1, if_pos rfl, Array.getElem?_append_left (by simpa using hd)]
    simpa using h3

theorem mem_start (w : World) : Mem [(w, All)] [] w :=
  ⟨fun B hB => by rw [List.mem_singleton] at hB; subst hB; exact Agr.refl _ _, fun e he => (by cases he), fun e he => (by cases he), fun B hB e he => (by cases he), fun i j ei ej _ hi => (by simp at hi)⟩

theorem enter_pur {k : FuncId} {fn : Func} {code : Code} {args : List Value} {w : World} {Φ : Nat → Value → World → Prop} (hf : P.funcs[k]? = some fn) (hN : fn.ntmps = N) (hb : fn.body = some code) (hlen : Nat.ble args.length N = true)
    (h : KP N (code.wp P (bodyPost P fn (PurR w Φ))) (tmOf 0 args) (Mem [(w, All)] [])) : Pur P k args w Φ :=
  enter hf hN hb hlen _ (mem_start w) h

theorem Agr.below {w w' : World} (h : Agr All w w') : Below w.heap.size w w' := ⟨h.os, h.tape, h.output, h.size, fun k hk => h.blk k hk trivial⟩

/-- what the results' variables hold -/
inductive RV (P : Program) (tm : Tm) (H : List Ent) : List ResultVar → List Value → Prop where
  | nil : RV P tm H [] []
  | tmp {t : Tmp} {v : Value} {rs : List ResultVar} {vs : List Value} : lk tm t = some (true, v) → RV P tm H rs vs → RV P tm H (.tmp t :: rs) (v :: vs)
  | cell1 {t : Tmp} {ty b tt : Nat} {v : Value} {rs : List ResultVar} {vs : List Value} (hT : T1 P ty) : lk tm t = some (true, .pointer (some ⟨b, 0, none⟩)) → Ent.box b [v] tt ∈ H → RV P tm H rs vs → RV P tm H (.cell t ty :: rs) (v :: vs)
  | cellN {t : Tmp} {ty b tt n : Nat} {cs : List Value} {rs : List ResultVar} {vs : List Value} (hT : TN P ty n) : lk tm t = some (true, .pointer (some ⟨b, 0, none⟩)) → Ent.box b cs tt ∈ H → Nat.beq cs.length n = true → RV P tm H rs vs → RV P tm H (.cell t ty :: rs) (.agg cs.toArray :: vs)

def resV (tmps : Array Value) : ResultVar → Sem Value
  | .tmp t => pure (tmps.getD t undef)
  | .cell p t => do loadVar t (← asAddr (tmps.getD p undef))

theorem RV.run {a : Act} {w : World} {rs : List ResultVar} {vs : List Value} (h : RV P tm H rs vs) (hs : Sim N tm a) (hw : Mem bs H w) : (rs.mapM (resV a.tmps)).run P w = .ok vs w := by
  have ev : ∀ {t v}, lk tm t = some (true, v) → a.tmps.getD t undef = v := fun h => by
    have := hs.get _ _ _ h
    rw [Array.getD_eq_getD_getElem?, this]
    rfl
  induction h with
  | nil => simp
  | tmp h1 _ ih => rw [List.mapM_cons]; simp [resV, ev h1, ih]
  | cell1 hT h1 h2 _ ih =>
    have hc := box_cell (hw.own _ h2) (j := 0) rfl
    rw [List.mapM_cons]
    simp [resV, ev h1, asAddr, loadVar, hT.h, hc, ih]
  | @cellN t ty b tt n cs rs vs hT h1 h2 h3 _ ih =>
    have hl := run_loadCells_list (P := P) w ⟨b, 0, none⟩ cs (fun j v hj => by
      have := box_cell (hw.own _ h2) hj
      unfold Addr.add
      split
      · rename_i h0; subst h0; exact this
      · simpa using this)
    have := Nat.eq_of_beq_eq_true h3
    subst this
    rw [List.mapM_cons]
    simp [resV, ev h1, asAddr, loadVar, hT.h, hT.n, hl, ih]

def retV : List Value → Value
  | [v] => v
  | vs => .tuple vs.toArray

theorem RV.results {fn : Func} {rs : List ResultVar} {a : Act} {w : World} {vs : List Value} (hr : fn.results = rs.toArray) (h : RV P tm H rs vs) (hs : Sim N tm a) (hw : Mem bs H w) : (results fn a.tmps).run P w = .ok (retV vs) w := by
  have h1 := h.run hs hw
  have e : Go.results fn a.tmps = (do let vs ← fn.results.mapM (resV a.tmps); pure (if h : vs.size = 1 then vs[0] else .tuple vs) : Sem Value) := rfl
  rw [e, hr, Array.mapM_eq_mapM_toList]
  simp [h1]
  match vs with
  | [] => rfl
  | [v] => rfl
  | v :: u :: r => simp [retV]

/-- A function's end: its results, and what must hold. -/
theorem po_ret {fn : Func} {R : Ending → World → Prop} {rs : List ResultVar} {vs : List Value} (hr : fn.results = rs.toArray) (h : RV P tm H rs vs) (hR : ∀ w', Mem bs H w' → R (.returned (retV vs)) w') : PO N .ret (bodyPost P fn R) tm (Mem bs H) :=
  fun _ w hs hw => ⟨hs.nod, _, h.results hr hs hw, hR w hw⟩
theorem po_end {fn : Func} {R : Ending → World → Prop} {rs : List ResultVar} {vs : List Value} (hr : fn.results = rs.toArray) (h : RV P tm H rs vs) (hR : ∀ w', Mem bs H w' → R (.returned (retV vs)) w') : PO N .normal (bodyPost P fn R) tm (Mem bs H) :=
  fun _ w hs hw => ⟨hs.nod, _, h.results hr hs hw, hR w hw⟩

/-- of a pure function -/
theorem pur_ret {fn : Func} {w : World} {Φ : Nat → Value → World → Prop} {rs : List ResultVar} {vs : List Value} (hr : fn.results = rs.toArray) (h : RV P tm H rs vs) (hB : (w, All) ∈ bs) (hΦ : ∀ w', Mem bs H w' → Φ w.heap.size (retV vs) w') :
    PO N .ret (bodyPost P fn (PurR w Φ)) tm (Mem bs H) :=
  po_ret hr h fun w' hw => ⟨_, rfl, (hw.base _ hB).below, hΦ w' hw⟩
theorem pur_end {fn : Func} {w : World} {Φ : Nat → Value → World → Prop} {rs : List ResultVar} {vs : List Value} (hr : fn.results = rs.toArray) (h : RV P tm H rs vs) (hB : (w, All) ∈ bs) (hΦ : ∀ w', Mem bs H w' → Φ w.heap.size (retV vs) w') :
    PO N .normal (bodyPost P fn (PurR w Φ)) tm (Mem bs H) :=
  po_end hr h fun w' hw => ⟨_, rfl, (hw.base _ hB).below, hΦ w' hw⟩

/-- What the call made itself is handed over. -/
theorem Mem.give {τ : Type} {enc : τ → List Value} {sz tt : Nat} {v : Value} {xs : List τ} {w w' : World} [he : Enc enc sz] (hw : Mem bs H w') (hm : Ent.own v tt sz enc xs ∈ H) (hB : (w, All) ∈ bs) : Sl (Fr w.heap.size) w' enc sz v xs := by
  have ho := hw.own _ hm
  refine ⟨?_, fun i x j u hi hj => own_cell ho hi hj, fun a n cap hv hpos => ?_⟩
  · obtain ⟨a, cap, hv, h1, h2, h3⟩ := own_is ho
    exact ⟨a, _, cap, hv, rfl, h2, h3, h1⟩
  · exact hw.apart _ hB _ hm a.block (by rw [Ent.fp, hv]; simp [Value.ownBlock]) trivial

/-- What was handed in reads as before, in the world at hand. -/
theorem Mem.now {τ : Type} {S : Nat → Prop} {B : World} {enc : τ → List Value} {sz : Nat} {v : Value} {xs : List τ} {w' : World} [he : Enc enc sz] (hw : Mem bs H w') (h : Sl S B enc sz v xs) (hB : (B, S) ∈ bs) : Sl All w' enc sz v xs :=
  h.mono (hw.base _ hB) (fun _ _ _ => trivial) (fun x _ => he.ne x)
theorem Mem.nowS {τ : Type} {S : Nat → Prop} {B : World} {enc : τ → List Value} {sz : Nat} {v : Value} {xs : List τ} {w' : World} [he : Enc enc sz] (hw : Mem bs H w') (h : Sl S B enc sz v xs) (hB : (B, S) ∈ bs) : Sl S w' enc sz v xs :=
  h.same_base (hw.base _ hB)
/-- An owned slice, read by a callee. -/
theorem Mem.lend {τ : Type} {enc : τ → List Value} {sz tt : Nat} {v : Value} {xs : List τ} {w' : World} [he : Enc enc sz] (hw : Mem bs H w') (hm : Ent.own v tt sz enc xs ∈ H) : Sl All w' enc sz v xs := by
  have ho := hw.own _ hm
  refine ⟨?_, fun i x j u hi hj => own_cell ho hi hj, fun a n cap hv hpos => trivial⟩
  obtain ⟨a, cap, hv, h1, h2, h3⟩ := own_is ho
  exact ⟨a, _, cap, hv, rfl, h2, h3, h1⟩

/-! a call that turns one entry of the caller's -/
def Off (e : Ent) : Nat → Prop := fun k => k ∉ e.fp
def MuR (e : Ent) (w : World) (Ψ : Nat → Value → Ent → World → Prop) : Ending → World → Prop := fun x w' => ∃ v e', x = .returned v ∧ Ψ w.heap.size v e' w' ∧ Mem [(w, Off e)] [e'] w'
def Mu (P : Program) (k : FuncId) (args : List Value) (e : Ent) (w : World) (Ψ : Nat → Value → Ent → World → Prop) : Prop := Calls P k args.toArray w (MuR e w Ψ)

theorem mem_mu {e : Ent} {w : World} (h : Mem [] [e] w) : Mem [(w, Off e)] [e] w := by
  have := h.rebase
  have e1 : (fun k => ∀ x, x ∈ [e] → k ∉ x.fp) = Off e := by funext k; simp [Off]
  rw [e1] at this
  exact this

theorem enter_mu {k : FuncId} {fn : Func} {code : Code} {args : List Value} {e : Ent} {w : World} {Ψ : Nat → Value → Ent → World → Prop} (hf : P.funcs[k]? = some fn) (hN : fn.ntmps = N) (hb : fn.body = some code) (hlen : Nat.ble args.length N = true)
    (hw : Mem [] [e] w) (h : KP N (code.wp P (bodyPost P fn (MuR e w Ψ))) (tmOf 0 args) (Mem [(w, Off e)] [e])) : Mu P k args e w Ψ :=
  enter hf hN hb hlen _ (mem_mu hw) h

theorem Mem.only {e : Ent} {w : World} (h : Mem bs H w) (he : e ∈ H) : Mem [] [e] w := by
  refine ⟨fun B hB => (by cases hB), fun x hx => ?_, fun x hx => ?_, fun B hB => (by cases hB), fun i j ei ej hij hi hj => ?_⟩
  · rw [List.mem_singleton] at hx; subst hx; exact h.own _ he
  · rw [List.mem_singleton] at hx; subst hx; exact h.inb _ he
  · cases i with
    | zero => cases j with
      | zero => exact absurd rfl hij
      | succ j => simp at hj
    | succ i => simp at hi

theorem Mem.pick {B : Base} {e : Ent} {w : World} (h : Mem bs H w) (hB : B ∈ bs) (he : e ∈ H) : Mem [B] [e] w := by
  refine ⟨fun B' hB' => ?_, (h.only he).own, (h.only he).inb, fun B' hB' x hx => ?_, (h.only he).disj⟩
  · rw [List.mem_singleton] at hB'; subst hB'; exact h.base _ hB
  · rw [List.mem_singleton] at hB' hx; subst hB'; subst hx; exact h.apart _ hB _ he

theorem mu_ret {fn : Func} {e e' : Ent} {w : World} {Ψ : Nat → Value → Ent → World → Prop} {rs : List ResultVar} {vs : List Value} (hr : fn.results = rs.toArray) (h : RV P tm H rs vs) (hB : (w, Off e) ∈ bs) (he : e' ∈ H) (hΨ : ∀ w', Mem bs H w' → Ψ w.heap.size (retV vs) e' w') :
    PO N .ret (bodyPost P fn (MuR e w Ψ)) tm (Mem bs H) :=
  po_ret hr h fun w' hw => ⟨_, e', rfl, hΨ w' hw, hw.pick hB he⟩
theorem mu_end {fn : Func} {e e' : Ent} {w : World} {Ψ : Nat → Value → Ent → World → Prop} {rs : List ResultVar} {vs : List Value} (hr : fn.results = rs.toArray) (h : RV P tm H rs vs) (hB : (w, Off e) ∈ bs) (he : e' ∈ H) (hΨ : ∀ w', Mem bs H w' → Ψ w.heap.size (retV vs) e' w') :
    PO N .normal (bodyPost P fn (MuR e w Ψ)) tm (Mem bs H) :=
  po_end hr h fun w' hw => ⟨_, e', rfl, hΨ w' hw, hw.pick hB he⟩

theorem Mem.mu {e e' : Ent} {w w' : World} {i : Nat} (hw : Mem bs H w) (hi : H[i]? = some e) (hm : Mem [(w, Off e)] [e'] w') : Mem bs (H.set i e') w' := by
  have hb := hm.base _ (.head _)
  refine hw.upd hi hb.os hb.tape hb.output hb.size (fun k hk hn => hb.blk k hk hn) (hm.own _ (.head _)) (hm.inb _ (.head _)) (fun k hk => ?_)
  by_cases hke : k ∈ e.fp
  · exact .inl hke
  · exact .inr (hm.apart _ (.head _) _ (.head _) k hk hke)

theorem fx_call_mu {k : Nat} {e : Ent} {f : Operand} {xs : List Operand} {ts : Array TypeId} {first cap vs : List Value} {Ψ : Nat → Value → Ent → World → Prop} [hF : FN P k] (i : Nat) (hi : H[i]? = some e)
    (hf : EV tm true f (.func (.func k) first.toArray cap.toArray) := by exact ⟨_, rfl, fun _ => rfl⟩) (hxs : EVS tm true xs vs := by first | exact .nil | exact .cons ⟨_, rfl, fun _ => rfl⟩ .nil | exact .cons ⟨_, rfl, fun _ => rfl⟩ (.cons ⟨_, rfl, fun _ => rfl⟩ .nil) | (repeat (first | exact .nil | apply EVS.cons ⟨_, rfl, fun _ => rfl⟩))) {d : Nat} (hd : Nat.blt d N = true := by rfl)
    (spec : ∀ w, Mem bs H w → Mu P k (first ++ vs ++ cap) e w Ψ)
    (next : ∀ v n e' w1, Ψ n v e' w1 → KP N K ((d, true, v) :: tm) (Mem bs (H.set i e'))) :
    FX P N (.call { callee := .value f, args := xs.toArray, argTypes := ts }) (some d) Q tm (Mem bs H) K := by
  intro a w ty pos aft g hs hw
  unfold Oper.wp
  rw [exec_call (hf.get hs rfl) (hxs.get hs rfl)]
  simp only [Oper.upon]
  refine Calls.mono (spec w hw) fun x w' h => ?_
  obtain ⟨v, e', rfl, hΨ, hm⟩ := h
  exact next v _ e' w' hΨ _ _ (by simpa using hs.put (Nat.ble_eq.mp hd) true v) (hw.mu hi hm)

theorem fx_call_mu0 {k : Nat} {e : Ent} {f : Operand} {xs : List Operand} {ts : Array TypeId} {first cap vs : List Value} {Ψ : Nat → Value → Ent → World → Prop} [hF : FN P k] (i : Nat) (hi : H[i]? = some e)
    (hf : EV tm true f (.func (.func k) first.toArray cap.toArray) := by exact ⟨_, rfl, fun _ => rfl⟩) (hxs : EVS tm true xs vs := by first | exact .nil | exact .cons ⟨_, rfl, fun _ => rfl⟩ .nil | exact .cons ⟨_, rfl, fun _ => rfl⟩ (.cons ⟨_, rfl, fun _ => rfl⟩ .nil) | (repeat (first | exact .nil | apply EVS.cons ⟨_, rfl, fun _ => rfl⟩)))
    (spec : ∀ w, Mem bs H w → Mu P k (first ++ vs ++ cap) e w Ψ)
    (next : ∀ v n e' w1, Ψ n v e' w1 → KP N K tm (Mem bs (H.set i e'))) :
    FX P N (.call { callee := .value f, args := xs.toArray, argTypes := ts }) none Q tm (Mem bs H) K := by
  intro a w ty pos aft g hs hw
  unfold Oper.wp
  rw [exec_call (hf.get hs rfl) (hxs.get hs rfl)]
  simp only [Oper.upon]
  refine Calls.mono (spec w hw) fun x w' h => ?_
  obtain ⟨v, e', rfl, hΨ, hm⟩ := h
  exact next v _ e' w' hΨ _ _ hs (hw.mu hi hm)

/-- some of the entries, by their places -/
theorem Mem.sel {es : List Ent} {w : World} (h : Mem bs H w) (is : List Nat) (hes : is.map (fun i => H[i]?) = es.map some) (hn : is.Nodup) : Mem bs es w := by
  have at_ : ∀ (j : Nat) (e : Ent), es[j]? = some e → ∃ i, is[j]? = some i ∧ H[i]? = some e := by
    intro j e hj
    have h1 := congrArg (fun l => l[j]?) hes
    simp only [List.getElem?_map, hj, Option.map_some] at h1
    cases hi : is[j]? with
    | none => rw [hi] at h1; simp at h1
    | some i => rw [hi] at h1; simp at h1; exact ⟨i, rfl, h1⟩
  have mem : ∀ e, e ∈ es → e ∈ H := by
    intro e he
    obtain ⟨j, hj⟩ := List.getElem?_of_mem he
    obtain ⟨i, _, hi⟩ := at_ j e hj
    exact List.mem_of_getElem? hi
  refine ⟨h.base, fun e he => h.own e (mem e he), fun e he => h.inb e (mem e he), fun B hB e he => h.apart B hB e (mem e he), fun i j ei ej hij hi hj => ?_⟩
  obtain ⟨a, ha, hea⟩ := at_ i ei hi
  obtain ⟨b, hb, heb⟩ := at_ j ej hj
  refine h.disj a b ei ej (fun hab => hij ?_) hea heb
  subst hab
  have ha' := List.getElem?_eq_some_iff.1 ha
  have hb' := List.getElem?_eq_some_iff.1 hb
  obtain ⟨h1, h2⟩ := ha'
  obtain ⟨h3, h4⟩ := hb'
  exact (List.getElem_inj hn).1 (h2.trans h4.symm)

/-- entries by their places -/
def pickL (H : List Ent) : List Nat → List Ent
  | [] => []
  | i :: is => match H[i]? with
    | some e => e :: pickL H is
    | none => pickL H is

theorem pickL_map (H : List Ent) : ∀ (is : List Nat), is.all (fun i => Nat.blt i H.length) = true → is.map (fun i => H[i]?) = (pickL H is).map some
  | [], _ => rfl
  | i :: is, h => by
    rw [List.all_cons, Bool.and_eq_true] at h
    have hi := Nat.ble_eq.mp h.1
    have he : H[i]? = some H[i] := List.getElem?_eq_getElem hi
    simp only [List.map_cons, pickL, he, pickL_map H is h.2]

theorem kp_pick (is : List Nat) (hn : is.Nodup := by decide) (hl : is.all (fun i => Nat.blt i H.length) = true := by rfl) (h : KP N K tm (Mem bs (pickL H is))) : KP N K tm (Mem bs H) :=
  fun a w hs hw => h a w hs (hw.sel is (pickL_map H is hl) hn)

theorem Mem.one {B : Base} {w : World} (h : Mem bs H w) (hB : B ∈ bs) : Mem [B] H w :=
  ⟨fun B' hB' => by rw [List.mem_singleton] at hB'; subst hB'; exact h.base _ hB, h.own, h.inb, fun B' hB' => by rw [List.mem_singleton] at hB'; subst hB'; exact h.apart _ hB, h.disj⟩

/-! a call that hands over what it has made -/
def MkR (w : World) (Ψ : Nat → Value → List Ent → World → Prop) : Ending → World → Prop := fun x w' => ∃ v es, x = .returned v ∧ Ψ w.heap.size v es w' ∧ Mem [(w, All)] es w'
def Mk (P : Program) (k : FuncId) (args : List Value) (w : World) (Ψ : Nat → Value → List Ent → World → Prop) : Prop := Calls P k args.toArray w (MkR w Ψ)

theorem enter_mk {k : FuncId} {fn : Func} {code : Code} {args : List Value} {w : World} {Ψ : Nat → Value → List Ent → World → Prop} (hf : P.funcs[k]? = some fn) (hN : fn.ntmps = N) (hb : fn.body = some code) (hlen : Nat.ble args.length N = true)
    (h : KP N (code.wp P (bodyPost P fn (MkR w Ψ))) (tmOf 0 args) (Mem [(w, All)] [])) : Mk P k args w Ψ :=
  enter hf hN hb hlen _ (mem_start w) h

theorem mk_ret {fn : Func} {w : World} {Ψ : Nat → Value → List Ent → World → Prop} {rs : List ResultVar} {vs : List Value} (hr : fn.results = rs.toArray) (h : RV P tm H rs vs) (hB : (w, All) ∈ bs) (es : List Ent) (is : List Nat)
    (hes : is.map (fun i => H[i]?) = es.map some := by rfl) (hn : is.Nodup := by decide) (hΨ : ∀ w', Mem bs H w' → Ψ w.heap.size (retV vs) es w') :
    PO N .ret (bodyPost P fn (MkR w Ψ)) tm (Mem bs H) :=
  po_ret hr h fun w' hw => ⟨_, es, rfl, hΨ w' hw, (hw.sel is hes hn).one hB⟩

def FrX (n : Nat) (es : List Ent) : Nat → Prop := fun k => n ≤ k ∧ ∀ e, e ∈ es → k ∉ e.fp

theorem Mem.made {es : List Ent} {w w' : World} (hw : Mem bs H w) (hm : Mem [(w, All)] es w') : Mem ((w', FrX w.heap.size es) :: bs) (es ++ H) w' := by
  have hb := hm.base _ (.head _)
  have hx := hw.ext hb.below
  have lo : ∀ e, e ∈ es → ∀ k, k ∈ e.fp → w.heap.size ≤ k := fun e he k hk => hm.apart _ (.head _) e he k hk trivial
  refine ⟨fun B hB => ?_, fun e he => ?_, fun e he => ?_, fun B hB e he k hk hS => ?_, fun i j ei ej hij hi hj k hki hkj => ?_⟩
  · rcases List.mem_cons.1 hB with rfl | hB
    · exact Agr.refl _ _
    · exact hx.base B hB
  · rcases List.mem_append.1 he with he | he
    · exact hm.own e he
    · exact hx.own e he
  · rcases List.mem_append.1 he with he | he
    · exact hm.inb e he
    · exact hx.inb e he
  · rcases List.mem_append.1 he with he | he
    · rcases List.mem_cons.1 hB with rfl | hB
      · exact absurd hk (hS.2 e he)
      · exact Nat.le_trans (hw.base B hB).size (lo e he k hk)
    · rcases List.mem_cons.1 hB with rfl | hB
      · have := hw.inb e he k hk
        have := hS.1
        omega
      · exact hx.apart B hB e he k hk hS
  · have cross : ∀ e e', e ∈ es → e' ∈ H → k ∈ e.fp → k ∈ e'.fp → False := fun e e' he he' hk hk' => by
      have := lo e he k hk
      have := hw.inb e' he' k hk'
      omega
    rcases Nat.lt_or_ge i es.length with hil | hil
    · rw [List.getElem?_append_left hil] at hi
      rcases Nat.lt_or_ge j es.length with hjl | hjl
      · rw [List.getElem?_append_left hjl] at hj
        exact hm.disj i j ei ej hij hi hj k hki hkj
      · rw [List.getElem?_append_right hjl] at hj
        exact cross ei ej (List.mem_of_getElem? hi) (List.mem_of_getElem? hj) hki hkj
    · rw [List.getElem?_append_right hil] at hi
      rcases Nat.lt_or_ge j es.length with hjl | hjl
      · rw [List.getElem?_append_left hjl] at hj
        exact cross ej ei (List.mem_of_getElem? hj) (List.mem_of_getElem? hi) hkj hki
      · rw [List.getElem?_append_right hjl] at hj
        exact hw.disj _ _ ei ej (by omega) hi hj k hki hkj

theorem fx_call_mk {d k : Nat} {f : Operand} {xs : List Operand} {ts : Array TypeId} {first cap vs : List Value} {Ψ : Nat → Value → List Ent → World → Prop} [hF : FN P k]
    (hf : EV tm true f (.func (.func k) first.toArray cap.toArray) := by exact ⟨_, rfl, fun _ => rfl⟩) (hxs : EVS tm true xs vs := by first | exact .nil | exact .cons ⟨_, rfl, fun _ => rfl⟩ .nil | exact .cons ⟨_, rfl, fun _ => rfl⟩ (.cons ⟨_, rfl, fun _ => rfl⟩ .nil) | (repeat (first | exact .nil | apply EVS.cons ⟨_, rfl, fun _ => rfl⟩))) (hd : Nat.blt d N = true := by rfl)
    (spec : ∀ w, Mem bs H w → Mk P k (first ++ vs ++ cap) w Ψ)
    (next : ∀ v n es w1, Ψ n v es w1 → KP N K ((d, true, v) :: tm) (Mem ((w1, FrX n es) :: bs) (es ++ H))) :
    FX P N (.call { callee := .value f, args := xs.toArray, argTypes := ts }) (some d) Q tm (Mem bs H) K := by
  intro a w ty pos aft g hs hw
  unfold Oper.wp
  rw [exec_call (hf.get hs rfl) (hxs.get hs rfl)]
  simp only [Oper.upon]
  refine Calls.mono (spec w hw) fun x w' h => ?_
  obtain ⟨v, es, rfl, hΨ, hm⟩ := h
  exact next v _ es w' hΨ _ _ (by simpa using hs.put (Nat.ble_eq.mp hd) true v) (hw.made hm)

/-- what is made is read as it stands -/
theorem Mk.pur {k : FuncId} {args : List Value} {w : World} {Ψ : Nat → Value → List Ent → World → Prop} {Φ : Nat → Value → World → Prop} (h : Mk P k args w Ψ) (hi : ∀ v es w', Mem [(w, All)] es w' → Ψ w.heap.size v es w' → Φ w.heap.size v w') : Pur P k args w Φ :=
  Calls.mono h fun _ w' ⟨v, es, hx, hΨ, hm⟩ => ⟨v, hx, (hm.base _ (.head _)).below, hi v es w' hm hΨ⟩

theorem kp_S {S : World → Prop} (h : KP N K tm A) (hS : ∀ w, A w → S w) : KP N (fun a w => S w ∧ K a w) tm A := fun a w hs hw => ⟨hS w hw, h a w hs hw⟩

/-! a call that turns some entries of the caller's -/
def OffL (es : List Ent) : Nat → Prop := fun k => ∀ e, e ∈ es → k ∉ e.fp
def MusR (es : List Ent) (w : World) (Ψ : Nat → Value → List Ent → World → Prop) : Ending → World → Prop := fun x w' => ∃ v es', x = .returned v ∧ Ψ w.heap.size v es' w' ∧ Mem [(w, OffL es)] es' w'
def Mus (P : Program) (k : FuncId) (args : List Value) (es : List Ent) (w : World) (Ψ : Nat → Value → List Ent → World → Prop) : Prop := Calls P k args.toArray w (MusR es w Ψ)

theorem enter_mus {k : FuncId} {fn : Func} {code : Code} {args : List Value} {es : List Ent} {w : World} {Ψ : Nat → Value → List Ent → World → Prop} (hf : P.funcs[k]? = some fn) (hN : fn.ntmps = N) (hb : fn.body = some code) (hlen : Nat.ble args.length N = true)
    (hw : Mem [] es w) (h : KP N (code.wp P (bodyPost P fn (MusR es w Ψ))) (tmOf 0 args) (Mem [(w, OffL es)] es)) : Mus P k args es w Ψ :=
  enter hf hN hb hlen _ hw.rebase h

theorem Mem.nob {w : World} (h : Mem bs H w) : Mem [] H w :=
  ⟨fun B hB => (by cases hB), h.own, h.inb, fun B hB => (by cases hB), h.disj⟩

theorem mus_ret {fn : Func} {es : List Ent} {w : World} {Ψ : Nat → Value → List Ent → World → Prop} {rs : List ResultVar} {vs : List Value} (hr : fn.results = rs.toArray) (h : RV P tm H rs vs) (hB : (w, OffL es) ∈ bs) (es' : List Ent) (is : List Nat)
    (hes : is.map (fun i => H[i]?) = es'.map some := by rfl) (hn : is.Nodup := by decide) (hΨ : ∀ w', Mem bs H w' → Ψ w.heap.size (retV vs) es' w') : PO N .ret (bodyPost P fn (MusR es w Ψ)) tm (Mem bs H) :=
  po_ret hr h fun w' hw => ⟨_, es', rfl, hΨ w' hw, (hw.sel is hes hn).one hB⟩
theorem mus_end {fn : Func} {es : List Ent} {w : World} {Ψ : Nat → Value → List Ent → World → Prop} {rs : List ResultVar} {vs : List Value} (hr : fn.results = rs.toArray) (h : RV P tm H rs vs) (hB : (w, OffL es) ∈ bs) (es' : List Ent) (is : List Nat)
    (hes : is.map (fun i => H[i]?) = es'.map some := by rfl) (hn : is.Nodup := by decide) (hΨ : ∀ w', Mem bs H w' → Ψ w.heap.size (retV vs) es' w') : PO N .normal (bodyPost P fn (MusR es w Ψ)) tm (Mem bs H) :=
  po_end hr h fun w' hw => ⟨_, es', rfl, hΨ w' hw, (hw.sel is hes hn).one hB⟩

theorem Mem.app_l {es : List Ent} {w : World} (h : Mem bs (es ++ H) w) : Mem bs es w :=
  ⟨h.base, fun e he => h.own e (List.mem_append_left _ he), fun e he => h.inb e (List.mem_append_left _ he), fun B hB e he => h.apart B hB e (List.mem_append_left _ he),
   fun i j ei ej hij hi hj => h.disj i j ei ej hij (by rw [List.getElem?_append_left (List.getElem?_eq_some_iff.1 hi).1]; exact hi) (by rw [List.getElem?_append_left (List.getElem?_eq_some_iff.1 hj).1]; exact hj)⟩
theorem Mem.app_r {es : List Ent} {w : World} (h : Mem bs (es ++ H) w) : Mem bs H w :=
  ⟨h.base, fun e he => h.own e (List.mem_append_right _ he), fun e he => h.inb e (List.mem_append_right _ he), fun B hB e he => h.apart B hB e (List.mem_append_right _ he),
   fun i j ei ej hij hi hj => h.disj (es.length + i) (es.length + j) ei ej (by omega) (by rw [List.getElem?_append_right (by omega)]; simpa using hi) (by rw [List.getElem?_append_right (by omega)]; simpa using hj)⟩
theorem Mem.cross {es : List Ent} {w : World} (h : Mem bs (es ++ H) w) {e e' : Ent} (he : e ∈ es) (he' : e' ∈ H) {k : Nat} (hk : k ∈ e.fp) (hk' : k ∈ e'.fp) : False := by
  obtain ⟨i, hi⟩ := List.getElem?_of_mem he
  obtain ⟨j, hj⟩ := List.getElem?_of_mem he'
  have hil := (List.getElem?_eq_some_iff.1 hi).1
  exact h.disj i (es.length + j) e e' (by omega) (by rw [List.getElem?_append_left hil]; exact hi) (by rw [List.getElem?_append_right (by omega)]; simpa using hj) k hk hk'

theorem Mem.joinL {es : List Ent} {w : World} (h1 : Mem bs es w) (h2 : Mem bs H w) (hc : ∀ e e', e ∈ es → e' ∈ H → ∀ k, k ∈ e.fp → k ∈ e'.fp → False) : Mem bs (es ++ H) w := by
  refine ⟨h1.base, fun e he => ?_, fun e he => ?_, fun B hB e he => ?_, fun i j ei ej hij hi hj k hki hkj => ?_⟩
  · rcases List.mem_append.1 he with he | he
    · exact h1.own e he
    · exact h2.own e he
  · rcases List.mem_append.1 he with he | he
    · exact h1.inb e he
    · exact h2.inb e he
  · rcases List.mem_append.1 he with he | he
    · exact h1.apart B hB e he
    · exact h2.apart B hB e he
  · rcases Nat.lt_or_ge i es.length with hil | hil
    · rw [List.getElem?_append_left hil] at hi
      rcases Nat.lt_or_ge j es.length with hjl | hjl
      · rw [List.getElem?_append_left hjl] at hj
        exact h1.disj i j ei ej hij hi hj k hki hkj
      · rw [List.getElem?_append_right hjl] at hj
        exact hc ei ej (List.mem_of_getElem? hi) (List.mem_of_getElem? hj) k hki hkj
    · rw [List.getElem?_append_right hil] at hi
      rcases Nat.lt_or_ge j es.length with hjl | hjl
      · rw [List.getElem?_append_left hjl] at hj
        exact hc ej ei (List.mem_of_getElem? hj) (List.mem_of_getElem? hi) k hkj hki
      · rw [List.getElem?_append_right hjl] at hj
        exact h2.disj _ _ ei ej (by omega) hi hj k hki hkj

theorem Mem.mus {es es' : List Ent} {w w' : World} (hw : Mem bs (es ++ H) w) (hm : Mem [(w, OffL es)] es' w') : Mem bs (es' ++ H) w' := by
  have hb := hm.base _ (.head _)
  have fp' : ∀ e, e ∈ es' → ∀ k, k ∈ e.fp → (∃ x, x ∈ es ∧ k ∈ x.fp) ∨ w.heap.size ≤ k := fun e he k hk => by
    by_cases hx : ∃ x, x ∈ es ∧ k ∈ x.fp
    · exact .inl hx
    · exact .inr (hm.apart _ (.head _) e he k hk (fun x hxe hxk => hx ⟨x, hxe, hxk⟩))
  have agr : ∀ B, B ∈ bs → Agr B.2 B.1 w' := fun B hB => by
    have h0 := hw.base B hB
    refine ⟨hb.os.trans h0.os, hb.tape.trans h0.tape, hb.output.trans h0.output, Nat.le_trans h0.size hb.size, fun k hk hS => ?_⟩
    rw [hb.blk k (Nat.lt_of_lt_of_le hk h0.size) (fun e he hke => by have := hw.apart B hB e (List.mem_append_left _ he) k hke hS; omega)]
    exact h0.blk k hk hS
  have hH := hw.app_r
  refine Mem.joinL ⟨agr, hm.own, hm.inb, fun B hB e he k hk hS => ?_, hm.disj⟩ ⟨agr, fun e he => ?_, fun e he k hk => ?_, hH.apart, hH.disj⟩ (fun e e' he he' k hk hk' => ?_)
  · rcases fp' e he k hk with ⟨x, hx, hxk⟩ | h1
    · exact hw.apart B hB x (List.mem_append_left _ hx) k hxk hS
    · exact Nat.le_trans (hw.base B hB).size h1
  · exact Ent.ok_same (hH.own e he) fun k hk => hb.blk k (hH.inb e he k hk) (fun x hx hxk => hw.cross hx he hxk hk)
  · exact Nat.lt_of_lt_of_le (hH.inb e he k hk) hb.size
  · rcases fp' e he k hk with ⟨x, hx, hxk⟩ | h1
    · exact hw.cross hx he' hxk hk'
    · have := hH.inb e' he' k hk'
      omega

theorem fx_call_mus {d k : Nat} {es : List Ent} {f : Operand} {xs : List Operand} {ts : Array TypeId} {first cap vs : List Value} {Ψ : Nat → Value → List Ent → World → Prop} [hF : FN P k]
    (hf : EV tm true f (.func (.func k) first.toArray cap.toArray) := by exact ⟨_, rfl, fun _ => rfl⟩) (hxs : EVS tm true xs vs := by first | exact .nil | exact .cons ⟨_, rfl, fun _ => rfl⟩ .nil | exact .cons ⟨_, rfl, fun _ => rfl⟩ (.cons ⟨_, rfl, fun _ => rfl⟩ .nil) | (repeat (first | exact .nil | apply EVS.cons ⟨_, rfl, fun _ => rfl⟩))) (hd : Nat.blt d N = true := by rfl)
    (spec : ∀ w, Mem bs (es ++ H) w → Mus P k (first ++ vs ++ cap) es w Ψ)
    (next : ∀ v n es' w1, Ψ n v es' w1 → KP N K ((d, true, v) :: tm) (Mem bs (es' ++ H))) :
    FX P N (.call { callee := .value f, args := xs.toArray, argTypes := ts }) (some d) Q tm (Mem bs (es ++ H)) K := by
  intro a w ty pos aft g hs hw
  unfold Oper.wp
  rw [exec_call (hf.get hs rfl) (hxs.get hs rfl)]
  simp only [Oper.upon]
  refine Calls.mono (spec w hw) fun x w' h => ?_
  obtain ⟨v, es', rfl, hΨ, hm⟩ := h
  exact next v _ es' w' hΨ _ _ (by simpa using hs.put (Nat.ble_eq.mp hd) true v) (hw.mus hm)

/-- all of what is owned is handed on -/
theorem fx_call_musA {d k : Nat} {f : Operand} {xs : List Operand} {ts : Array TypeId} {first cap vs : List Value} {Ψ : Nat → Value → List Ent → World → Prop} [hF : FN P k]
    (hf : EV tm true f (.func (.func k) first.toArray cap.toArray) := by exact ⟨_, rfl, fun _ => rfl⟩) (hxs : EVS tm true xs vs := by first | exact .nil | exact .cons ⟨_, rfl, fun _ => rfl⟩ .nil | exact .cons ⟨_, rfl, fun _ => rfl⟩ (.cons ⟨_, rfl, fun _ => rfl⟩ .nil) | (repeat (first | exact .nil | apply EVS.cons ⟨_, rfl, fun _ => rfl⟩))) (hd : Nat.blt d N = true := by rfl)
    (spec : ∀ w, Mem bs H w → Mus P k (first ++ vs ++ cap) H w Ψ)
    (next : ∀ v n es' w1, Ψ n v es' w1 → KP N K ((d, true, v) :: tm) (Mem bs es')) :
    FX P N (.call { callee := .value f, args := xs.toArray, argTypes := ts }) (some d) Q tm (Mem bs H) K := by
  have h := fx_call_mus (P := P) (N := N) (tm := tm) (bs := bs) (H := []) (es := H) (Q := Q) (K := K) (ts := ts) (Ψ := Ψ) hf hxs hd
    (fun w hw => spec w (by rw [List.append_nil] at hw; exact hw)) (fun v n es' w1 hΨ => by rw [List.append_nil]; exact next v n es' w1 hΨ)
  rw [List.append_nil] at h
  exact h
theorem mus_retA {fn : Func} {es : List Ent} {w : World} {Ψ : Nat → Value → List Ent → World → Prop} {rs : List ResultVar} {vs : List Value} (hr : fn.results = rs.toArray) (h : RV P tm H rs vs) (hB : (w, OffL es) ∈ bs)
    (hΨ : ∀ w', Mem bs H w' → Ψ w.heap.size (retV vs) H w') : PO N .ret (bodyPost P fn (MusR es w Ψ)) tm (Mem bs H) :=
  po_ret hr h fun w' hw => ⟨_, H, rfl, hΨ w' hw, hw.one hB⟩
theorem mus_endA {fn : Func} {es : List Ent} {w : World} {Ψ : Nat → Value → List Ent → World → Prop} {rs : List ResultVar} {vs : List Value} (hr : fn.results = rs.toArray) (h : RV P tm H rs vs) (hB : (w, OffL es) ∈ bs)
    (hΨ : ∀ w', Mem bs H w' → Ψ w.heap.size (retV vs) H w') : PO N .normal (bodyPost P fn (MusR es w Ψ)) tm (Mem bs H) :=
  po_end hr h fun w' hw => ⟨_, H, rfl, hΨ w' hw, hw.one hB⟩

theorem Pur.mono {k : FuncId} {args : List Value} {w : World} {Φ Φ' : Nat → Value → World → Prop} (h : Pur P k args w Φ) (hi : ∀ n v w', Φ n v w' → Φ' n v w') : Pur P k args w Φ' :=
  Calls.mono h fun _ w' ⟨v, h1, h2, h3⟩ => ⟨v, h1, h2, hi _ v w' h3⟩
theorem Mk.mono {k : FuncId} {args : List Value} {w : World} {Ψ Ψ' : Nat → Value → List Ent → World → Prop} (h : Mk P k args w Ψ) (hi : ∀ n v es w', Ψ n v es w' → Ψ' n v es w') : Mk P k args w Ψ' :=
  Calls.mono h fun _ w' ⟨v, es, h1, h2, h3⟩ => ⟨v, es, h1, hi _ v es w' h2, h3⟩
theorem Mus.mono {k : FuncId} {args : List Value} {es : List Ent} {w : World} {Ψ Ψ' : Nat → Value → List Ent → World → Prop} (h : Mus P k args es w Ψ) (hi : ∀ n v es w', Ψ n v es w' → Ψ' n v es w') : Mus P k args es w Ψ' :=
  Calls.mono h fun _ w' ⟨v, es, h1, h2, h3⟩ => ⟨v, es, h1, hi _ v es w' h2, h3⟩

end
end Go.Eng

/- Engine, part T: variables of a caller's that are read; arrays; more words. -/
namespace Go.Eng
open Go Go.RowKit

/-- A variable's block, in a base: its cells. -/
structure Bx (S : Nat → Prop) (w : World) (b : Nat) (cs : List Value) : Prop where
  inS : S b
  cell : ∀ j v, cs[j]? = some v → w.cell? ⟨b, j, none⟩ = some v

theorem Bx.mono {S S' : Nat → Prop} {B w : World} {b : Nat} {cs : List Value} (h : Bx S B b cs) (hA : Agr S B w) (hS : S b → S' b) : Bx S' w b cs :=
  ⟨hS h.inS, fun j v hj => cell_of_agr (a := ⟨b, j, none⟩) hA h.inS (h.cell j v hj)⟩

/-- an array's value, seen as a slice of all of it -/
def arrV (b len : Nat) : Value := .slice (some ⟨b, 0, none⟩) len len

class TAr (P : Program) (t : TypeId) (len : outParam Nat) (e : outParam TypeId) : Prop where
  h : P.underlying t = some (.array len e)

section
variable {P : Program} {N : Nat} {tm : Tm} {A : World → Prop} {bs : List Base} {H : List Ent} {c : Bool}

theorem Mem.bx {S : Nat → Prop} {b tt : Nat} {cs : List Value} {w : World} (h : Mem bs H w) (hm : Ent.box b cs tt ∈ H) (hS : S b) : Bx S w b cs :=
  ⟨hS, fun _ _ hj => box_cell (h.own _ hm) hj⟩

theorem qy_load_bbox1 {t b off : Nat} {x : Operand} {v : Value} {cs : List Value} {S : Nat → Prop} {B : World} [ht : T1 P t] (hx : EV tm c x (.pointer (some ⟨b, off, none⟩)) := by first | exact ⟨_, rfl, fun _ => rfl⟩ | exact ⟨_, rfl, fun h => h⟩ | exact ⟨_, rfl, and_l⟩)
    (h : Bx S B b cs := by assumption) (hB : (B, S) ∈ bs := by (repeat (first | exact List.Mem.head _ | refine List.Mem.tail _ ?_))) (hv : cs[off]? = some v := by rfl) : QY P N (.load t x) tm (Mem bs H) c v :=
  fun hc a w _ _ _ _ _ hsim hw => by
    simp only [execOp, hx.get hsim hc]
    exact run_v (run_load1 (cell_of_agr (a := ⟨b, off, none⟩) (hw.base _ hB) h.inS (h.cell _ _ hv)))

theorem qy_load_bboxN {t b off n : Nat} {x : Operand} {cs : List Value} {S : Nat → Prop} {B : World} [ht : TN P t n] (hx : EV tm c x (.pointer (some ⟨b, off, none⟩)) := by first | exact ⟨_, rfl, fun _ => rfl⟩ | exact ⟨_, rfl, fun h => h⟩ | exact ⟨_, rfl, and_l⟩)
    (h : Bx S B b cs := by assumption) (hB : (B, S) ∈ bs := by (repeat (first | exact List.Mem.head _ | refine List.Mem.tail _ ?_))) (hn : Nat.ble (off + n) cs.length = true := by rfl) : QY P N (.load t x) tm (Mem bs H) c (.agg ((cs.drop off).take n).toArray) :=
  fun hc a w _ _ _ _ _ hsim hw => by
    simp only [execOp, hx.get hsim hc]
    refine run_v (run_loadN _ (by have := Nat.ble_eq.mp hn; simp; omega) fun j v hj => ?_)
    have hj' : cs[off + j]? = some v := by
      rw [List.getElem?_take] at hj
      split at hj
      · rw [List.getElem?_drop] at hj; exact hj
      · cases hj
    have hc := cell_of_agr (a := ⟨b, off + j, none⟩) (hw.base _ hB) h.inS (h.cell _ _ hj')
    unfold Addr.add
    split
    · rename_i h0; subst h0; exact hc
    · exact hc

theorem qy_neg64 {t : TypeId} {x : Operand} {m : BitVec 64} (hx : EV tm c x (u64 m) := by first | exact ⟨_, rfl, fun _ => rfl⟩ | exact ⟨_, rfl, fun h => h⟩ | exact ⟨_, rfl, and_l⟩) : QY P N (.unOp .neg t x) tm A c (u64 (-m)) :=
  fun hc a w _ _ _ _ _ hsim _ => by
    simp only [execOp, hx.get hsim hc]
    refine run_v ?_
    have : IntKind.u64.wrap (-(m.toNat : Int)) = (((-m).toNat : Nat) : Int) := by
      rw [BitVec.toNat_neg, IntKind.wrap_u64]; have := m.isLt; omega
    show Result.ok (Value.int .u64 (IntKind.u64.wrap (0 - (m.toNat : Int)))) w = _
    rw [Int.zero_sub, this]; rfl

theorem qy_mul64 {t t' : TypeId} {x y : Operand} {m n : BitVec 64} (hx : EV tm c x (u64 m) := by first | exact ⟨_, rfl, fun _ => rfl⟩ | exact ⟨_, rfl, fun h => h⟩ | exact ⟨_, rfl, and_l⟩) (hy : EV tm c y (u64 n) := by first | exact ⟨_, rfl, fun _ => rfl⟩ | exact ⟨_, rfl, fun h => h⟩ | exact ⟨_, rfl, and_l⟩) : QY P N (.binOp .mul t x y t') tm A c (u64 (m * n)) :=
  fun hc => qy_int2 hx hy (fun w => by
    simp only [binOp, Op.intArith, ne_eq, not_true, if_false]
    show Result.ok (Value.int .u64 (IntKind.u64.wrap ((m.toNat : Int) * (n.toNat : Int)))) w = _
    have : IntKind.u64.wrap ((m.toNat : Int) * (n.toNat : Int)) = (((m * n : BitVec 64).toNat : Nat) : Int) := by
      rw [BitVec.toNat_mul, ← wrap_u64_nat, Int.natCast_mul]
    rw [this]; rfl) hc

theorem qy_index_glob {t e sz b len g n : Nat} {z : Value} {k : IntKind} {y : Operand} [ht : TAr P t len e] [hE : TE P e sz b z] (hy : EV tm c y (.int k (n : Int)) := by first | exact ⟨_, rfl, fun _ => rfl⟩ | exact ⟨_, rfl, fun h => h⟩ | exact ⟨_, rfl, and_l⟩)
    (hb : c = true → n < len := by first | (intro _; assumption) | (intro _; omega) | (intro hc; simp only [Bool.and_eq_true, Bool.or_eq_true, Bool.not_eq_true', Bool.or_eq_false_iff, Bool.and_eq_false_iff, Bool.not_eq_false', dc_true, dc_false] at hc; omega)) : QY P N (.indexAddr t (.global g) y) tm A c (.pointer (some (elt (arrV g len) sz n 0))) :=
  fun hc a w _ _ _ _ _ hsim hw => by
    simp only [execOp, hy.get hsim hc]
    refine run_v ?_
    obtain ⟨i, hi, his, _⟩ := hE.h
    subst his
    have h0 : (0 : Int) ≤ (n : Int) ∧ (n : Int) < len := ⟨by omega, by have := hb hc; omega⟩
    show (Instr.indexAt t (.pointer (some ⟨g, 0, none⟩)) (.int k (n : Int))).run P w = _
    simp [Instr.indexAt, asIntOf, run_underlying ht.h, Instr.sureAddr, hb hc, sizeOf, typeInfo, hi, elt, arrV, Addr.add]

/-- int(b) of a byte -/
theorem qy_conv_bi {s t : TypeId} {x : Operand} {n : Nat} {d : TypeDesc} [hs : TU P s d] [ht : TU P t (.int .i64)] (hx : EV tm c x (.int .u8 (n : Int)) := by first | exact ⟨_, rfl, fun _ => rfl⟩ | exact ⟨_, rfl, fun h => h⟩ | exact ⟨_, rfl, and_l⟩)
    (hb : c = true → n < 256 := by first | (intro _; assumption) | (intro _; omega) | (intro hc; simp only [Bool.and_eq_true, Bool.or_eq_true, Bool.not_eq_true', Bool.or_eq_false_iff, Bool.and_eq_false_iff, Bool.not_eq_false', dc_true, dc_false] at hc; omega)) : QY P N (.convert s t x) tm A c (.int .i64 (n : Int)) :=
  fun hc a w _ _ _ _ _ hsim _ => by
    simp only [execOp, hx.get hsim hc]
    refine run_v ?_
    have h := inI_i64 (n := (n : Int)) ⟨by omega, by have := hb hc; omega⟩
    unfold inI at h
    simp [convert, run_underlying hs.h, run_underlying ht.h, Conv.intToInt, h]

/-! what stays, said off the entries that a callee may turn -/
theorem Mem.offS {S : Nat → Prop} {B w : World} {es : List Ent} (hw : Mem bs H w) (hB : (B, S) ∈ bs) (hsub : ∀ e, e ∈ es → e ∈ H) : ∀ k, k < B.heap.size → S k → OffL es k :=
  fun k hk hS e he hke => by have := hw.apart _ hB e (hsub e he) k hke hS; simp only at this; omega
theorem Mem.slOff {τ : Type} {S : Nat → Prop} {B w : World} {enc : τ → List Value} {sz : Nat} {v : Value} {xs : List τ} {es : List Ent} [he : Enc enc sz] (hw : Mem bs H w) (h : Sl S B enc sz v xs) (hB : (B, S) ∈ bs) (hsub : ∀ e, e ∈ es → e ∈ H) : Sl (OffL es) w enc sz v xs :=
  h.mono (hw.base _ hB) (hw.offS hB hsub) (fun x _ => he.ne x)
theorem Mem.bxOff {S : Nat → Prop} {B w : World} {b : Nat} {u : Value} {cs : List Value} {es : List Ent} (hw : Mem bs H w) (h : Bx S B b (u :: cs)) (hB : (B, S) ∈ bs) (hsub : ∀ e, e ∈ es → e ∈ H) : Bx (OffL es) w b (u :: cs) :=
  h.mono (hw.base _ hB) (hw.offS hB hsub b (World.block_lt_of_cell? B ⟨b, 0, none⟩ (h.cell 0 u rfl)))
/-- a variable of ours, said off others of ours -/
theorem Mem.boxOff {w : World} {b tt : Nat} {cs : List Value} {es : List Ent} (hw : Mem bs (es ++ H) w) (hm : Ent.box b cs tt ∈ H) : Bx (OffL es) w b cs :=
  ⟨fun e he hke => hw.cross he hm hke (by simp [Ent.fp]), fun _ _ hj => box_cell (hw.own _ (List.mem_append_right _ hm)) hj⟩
theorem Mem.ownOff {τ : Type} {w : World} {enc : τ → List Value} {sz tt : Nat} {v : Value} {xs : List τ} {es : List Ent} [he : Enc enc sz] (hw : Mem bs (es ++ H) w) (hm : Ent.own v tt sz enc xs ∈ H) : Sl (OffL es) w enc sz v xs := by
  have ho := hw.own _ (List.mem_append_right _ hm)
  refine ⟨?_, fun i x j u hi hj => own_cell ho hi hj, fun a n cap hv hpos e he hke => hw.cross he hm hke (by rw [Ent.fp, hv]; simp [Value.ownBlock])⟩
  obtain ⟨a, cap, hv, h1, h2, h3⟩ := own_is ho
  exact ⟨a, _, cap, hv, rfl, h2, h3, h1⟩

/-- structs held against one another -/
class EqS (P : Program) (t : TypeId) {τ : Type} (enc : τ → List Value) [DecidableEq τ] : Prop where
  g : P.eqGuardType P.depth t = false
  h : ∀ (x y : τ) (w : World), (Op.equalIn 10000 t (.agg (enc x).toArray) (.agg (enc y).toArray)).run P w = .ok (decide (x = y)) w

theorem qy_eqS {τ : Type} [DecidableEq τ] {enc : τ → List Value} {t t' : TypeId} {x y : Operand} {p q : τ} (hx : EV tm c x (.agg (enc p).toArray) := by first | exact ⟨_, rfl, fun _ => rfl⟩ | exact ⟨_, rfl, fun h => h⟩ | exact ⟨_, rfl, and_l⟩) (hy : EV tm c y (.agg (enc q).toArray) := by first | exact ⟨_, rfl, fun _ => rfl⟩ | exact ⟨_, rfl, fun h => h⟩ | exact ⟨_, rfl, and_l⟩) [hE : EqS P t enc] :
    QY P N (.binOp .eql t x y t') tm A c (.bool (dc (p = q))) :=
  fun hc a w _ _ _ _ _ hsim _ => by
    simp only [execOp, hx.get hsim hc, hy.get hsim hc]
    refine run_v ?_
    rw [Sem.run_bind, run_eqGuard_agg w .eql t x y _ _ hE.g]
    show (binOp .eql t _ _).run P w = _
    rw [run_eql_struct, hE.h]; rfl
theorem qy_neS {τ : Type} [DecidableEq τ] {enc : τ → List Value} {t t' : TypeId} {x y : Operand} {p q : τ} (hx : EV tm c x (.agg (enc p).toArray) := by first | exact ⟨_, rfl, fun _ => rfl⟩ | exact ⟨_, rfl, fun h => h⟩ | exact ⟨_, rfl, and_l⟩) (hy : EV tm c y (.agg (enc q).toArray) := by first | exact ⟨_, rfl, fun _ => rfl⟩ | exact ⟨_, rfl, fun h => h⟩ | exact ⟨_, rfl, and_l⟩) [hE : EqS P t enc] :
    QY P N (.binOp .neq t x y t') tm A c (.bool (!dc (p = q))) :=
  fun hc a w _ _ _ _ _ hsim _ => by
    simp only [execOp, hx.get hsim hc, hy.get hsim hc]
    refine run_v ?_
    rw [Sem.run_bind, run_eqGuard_agg w .neq t x y _ _ hE.g]
    show (binOp .neq t _ _).run P w = _
    rw [run_neq_struct, hE.h]; rfl
end
end Go.Eng

/- Engine, part R: a statement whose order of evaluation is open: in one order, for all. -/
namespace Go.Eng
open Go Go.RowKit

section
variable {P : Program} {ops : Array Oper} {Q : Exit → Act → World → Prop} {md : Region.Mode}

/-- Everything else comes ahead of number j. -/
def waitsAll (md : Region.Mode) (ops : Array Oper) (j : Nat) : Bool :=
  match ops[j]? with
  | none => false
  | some oj => (List.range ops.size).all fun i => i == j || oj.after.any (fun e => Region.binds md e && e.on == i)

/-- Whatever order is picked from here on, where S holds, and what holds behind each step is no less than S; but the last one of all may turn what it likes. -/
def wpAnyG (P : Program) (md : Region.Mode) (ops : Array Oper) (Q : Exit → Act → World → Prop) : Nat → Array Bool → (World → Prop) → Act → World → Prop
  | 0, listed, _, a, w => Region.ready md ops listed = [] ∧ Q .normal a w
  | fuel + 1, listed, S, a, w =>
    (Region.ready md ops listed = [] → Q .normal a w) ∧
    ∀ i ∈ Region.ready md ops listed, wpOp P ops Q i (fun a' w' => (waitsAll md ops i = true ∧ Region.ready md ops (listed.setIfInBounds i true) = [] ∧ Q .normal a' w') ∨
      ∃ S', (∀ w, S' w → S w) ∧ S' w' ∧ wpAnyG P md ops Q fuel (listed.setIfInBounds i true) S' a' w') a w

theorem wpAny_done {listed : Array Bool} {a : Act} {w : World} (hr : Region.ready md ops listed = []) (hq : Q .normal a w) : ∀ fuel, wpAny P md ops Q fuel listed a w
  | 0 => ⟨hr, hq⟩
  | _ + 1 => ⟨fun _ => hq, fun i hi => by rw [hr] at hi; cases hi⟩

theorem wpAny_of_G : ∀ (fuel : Nat) (listed : Array Bool) (S : World → Prop) (a : Act) (w : World), wpAnyG P md ops Q fuel listed S a w → wpAny P md ops Q fuel listed a w
  | 0, _, _, _, _, h => h
  | fuel + 1, _, _, _, _, h => ⟨h.1, fun i hi => wpOp_mono (fun a' w' h' => by
      rcases h' with ⟨_, h1, h2⟩ | ⟨S', _, _, h3⟩
      · exact wpAny_done h1 h2 fuel
      · exact wpAny_of_G fuel _ S' a' w' h3) (h.2 i hi)⟩

theorem waits_not {i j : Nat} {oi : Oper} {listed : Array Bool} (hi : ops[i]? = some oi) (hw : waitsAll md ops j = true) (hj : j ∈ Region.ready md ops listed) (hun : listed.getD i true = false) (hne : i ≠ j) : False := by
  obtain ⟨_, oj, hoj, hall⟩ := mem_ready.1 hj
  unfold waitsAll at hw
  rw [hoj] at hw
  simp only [List.all_eq_true, List.mem_range] at hw
  have hil : i < ops.size := by
    rcases Nat.lt_or_ge i ops.size with h' | h'
    · exact h'
    · rw [Array.getElem?_eq_none h'] at hi; cases hi
  have h1 := hw i hil
  rw [Bool.or_eq_true] at h1
  rcases h1 with h1 | h1
  · exact hne (by simpa using h1)
  · rw [Array.any_eq_true'] at h1
    obtain ⟨e, he, h2⟩ := h1
    rw [Bool.and_eq_true] at h2
    have h3 := hall e he h2.1
    have h4 : e.on = i := by simpa using h2.2
    rw [h4] at h3
    rcases Nat.lt_or_ge i listed.size with h' | h'
    · simp [h'] at h3 hun; rw [hun] at h3; cases h3
    · simp [Array.getElem?_eq_none h'] at hun

theorem wpAnyG_first {i : Nat} {oi : Oper} {v : Value} (hi : ops[i]? = some oi) (hsel : ∀ (j : Nat) (o : Oper) cs b, ops[j]? = some o → o.op ≠ .select cs b)
    (hQ : ∀ c a w, Q (.panic c) (a.put oi.dst v) w → Q (.panic c) a w) :
    ∀ (fuel : Nat) (listed : Array Bool) (S : World → Prop) (a : Act) (w : World),
      (∀ j oj, ops[j]? = some oj → j ≠ i → listed.getD j true = false → (∀ e ∈ oj.after, Region.binds md e = true → e.on ≠ i) → oi.apart ops oj = true) →
      i ∈ Region.ready md ops listed → YieldsIf P ops S oi v a → S w →
      wpAnyG P md ops Q fuel (listed.setIfInBounds i true) S (a.put oi.dst v) w → wpAnyG P md ops Q (fuel + 1) listed S a w := by
  intro fuel
  induction fuel with
  | zero =>
    intro listed S a w _ hr hy hS H
    refine ⟨fun h => (by rw [h] at hr; cases hr), fun j hj => ?_⟩
    by_cases hji : j = i
    · subst hji; exact hy.wpOp hi hS (.inr ⟨S, fun _ h => h, hS, H⟩)
    · have := ready_mono hj hji
      rw [H.1] at this
      cases this
  | succ fuel ih =>
    intro listed S a w hfree hr hy hS H
    refine ⟨fun h => (by rw [h] at hr; cases hr), fun j hj => ?_⟩
    by_cases hji : j = i
    · subst hji; exact hy.wpOp hi hS (.inr ⟨S, fun _ h => h, hS, H⟩)
    · have h1 := H.2 j (ready_mono hj hji)
      obtain ⟨hjun, oj, hoj, hall⟩ := mem_ready.1 hj
      have hnot : ∀ e ∈ oj.after, Region.binds md e = true → e.on ≠ i := fun e he hb heq => by
        have h1 := hall e he hb
        have h0 := (mem_ready.1 hr).1
        rw [heq] at h1
        rcases Nat.lt_or_ge i listed.size with h' | h'
        · simp [h'] at h0 h1; rw [h0] at h1; cases h1
        · simp [Array.getElem?_eq_none h'] at h1
      have h2 := wpOp_putIf hoj (hfree j oj hoj hji hjun hnot) (fun cs b => hsel i oi cs b hi) (fun cs b => hsel j oj cs b hoj) hQ hy h1
      have hfree' : ∀ k ok, ops[k]? = some ok → k ≠ i → (listed.setIfInBounds j true).getD k true = false →
          (∀ e ∈ ok.after, Region.binds md e = true → e.on ≠ i) → oi.apart ops ok = true := fun k ok hk hki hun hno => by
        refine hfree k ok hk hki ?_ hno
        by_cases hjk : j = k
        · subst hjk; exact hjun
        · rw [getD_set_ne true hjk] at hun; exact hun
      refine wpOp_mono (fun a' w' h3 => ?_) h2
      obtain ⟨hy', h3⟩ := h3
      rcases h3 with ⟨hw, _⟩ | ⟨S', hSS, hS', h3⟩
      · exact (waits_not hi hw hj (mem_ready.1 hr).1 (fun e => hji e.symm)).elim
      · refine .inr ⟨S', hSS, hS', ih (listed.setIfInBounds j true) S' a' w' hfree' (ready_mono hr (Ne.symm hji)) ?_ hS' ?_⟩
        · exact hy'.imp (fun ⟨h1, h2⟩ => ⟨h1, fun w hw => h2 w (hSS w hw)⟩) id
        · rw [Array.setIfInBounds_comm _ _ hji]
          exact h3

/-- The state inside such a statement: what has come up, what holds, and in which order we take the rest. -/
def KG (P : Program) (ops : Array Oper) (Q : Exit → Act → World → Prop) (fuel : Nat) (listed : Array Bool) (S : World → Prop) (_order : List Nat) : Act → World → Prop :=
  fun a w => S w → wpAnyG P .any ops Q fuel listed S a w

/-- the exits by a panic do not look at the slots -/
def QP (Q : Exit → Act → World → Prop) : Prop := ∀ c (a : Act) (d : Option Tmp) v w, Q (.panic c) (a.put d v) w → Q (.panic c) a w

theorem qp_then {K : Act → World → Prop} (h : QP Q) : QP (Exit.then K Q) := h
theorem qp_block {id : Nat} (h : QP Q) : QP (Exit.inBlock id Q) := h
theorem qp_body {fn : Func} {R : Ending → World → Prop} : QP (bodyPost P fn R) := fun c a d v w h => by
  cases d <;> exact h

variable {N : Nat} {tm : Tm} {A : World → Prop} {listed : Array Bool} {S : World → Prop} {order : List Nat} {fuel : Nat}

theorem wc_draw {id : Nat} {l : List Oper} {bs : List Base} {H : List Ent} (order : List Nat) (hm : P.follows .mixedOrders = true)
    (h : KP N (KG P l.toArray Q l.length (Array.replicate l.length false) (Mem bs H) order) tm (Mem bs H)) : WC P N (.region id l.toArray true) Q tm (Mem bs H) := by
  intro a w hs hw
  refine wp_region_any hm (wpAny_of_G _ _ (Mem bs H) _ _ ?_)
  have := h a w.drew ⟨hs.size, hs.nod, hs.get⟩ hw.drewN hw.drewN
  simpa using this

/-- the same with a weaker S -/
theorem wc_drawS {id : Nat} {l : List Oper} {bs : List Base} {H : List Ent} (S : World → Prop) (order : List Nat) (hm : P.follows .mixedOrders = true) (hS : ∀ w, Mem bs H w → S w)
    (h : KP N (KG P l.toArray Q l.length (Array.replicate l.length false) S order) tm (Mem bs H)) : WC P N (.region id l.toArray true) Q tm (Mem bs H) := by
  intro a w hs hw
  refine wp_region_any hm (wpAny_of_G _ _ S _ _ ?_)
  have := h a w.drew ⟨hs.size, hs.nod, hs.get⟩ hw.drewN (hS _ hw.drewN)
  simpa using this

def okTake (ops : Array Oper) (listed : Array Bool) (i : Nat) : Bool := Region.noSelect ops && Region.free .any ops listed i && (Region.ready .any ops listed).contains i

theorem kg_q {i d : Nat} {op : Op} {ty : TypeId} {pos : String} {aft : Array Edge} {v : Value} (hQ : QP Q) (hi : ops[i]? = some ⟨some d, op, ty, pos, aft, none⟩) (hok : okTake ops listed i = true)
    (h : QY P N op tm S true v) (hd : Nat.blt d N = true) (next : KP N (KG P ops Q fuel (listed.setIfInBounds i true) S order) ((d, true, v) :: tm) A) : KP N (KG P ops Q (fuel + 1) listed S (i :: order)) tm A := by
  intro a w hs hw hS
  unfold okTake at hok
  simp only [Bool.and_eq_true] at hok
  refine wpAnyG_first hi (Region.noSelect_spec hok.1.1) (fun c a w h => hQ c a _ _ w h) fuel listed S a w (Region.free_spec hi hok.1.2) (by simpa using hok.2) (.inl ⟨by simp [Region.wanted], fun w hw => h rfl a w _ _ _ _ _ hs hw⟩) hS ?_
  exact next _ w (by simpa using hs.put (Nat.ble_eq.mp hd) true v) hw hS

theorem kg_qg {i j g d : Nat} {want cg b c : Bool} {op : Op} {ty : TypeId} {pos : String} {aft : Array Edge} {v : Value} (hQ : QP Q) (hi : ops[i]? = some ⟨some d, op, ty, pos, aft, some (j, want)⟩) (hok : okTake ops listed i = true)
    (hj : (ops[j]?).bind (·.dst) = some g) (hg : lk tm g = some (cg, .bool b)) (hc : c = (cg && (b == want)))
    (h : QY P N op tm S c v) (hd : Nat.blt d N = true) (next : KP N (KG P ops Q fuel (listed.setIfInBounds i true) S order) ((d, c, v) :: tm) A) : KP N (KG P ops Q (fuel + 1) listed S (i :: order)) tm A := by
  intro a w hs hw hS
  unfold okTake at hok
  simp only [Bool.and_eq_true] at hok
  have hy := yields_bool (ops := ops) hs hj hg
  have hput := hs.put (Nat.ble_eq.mp hd) c v
  refine wpAnyG_first (v := if c = true then v else undef) hi (Region.noSelect_spec hok.1.1) (fun c a w h => hQ c a _ _ w h) fuel listed S a w (Region.free_spec hi hok.1.2) (by simpa using hok.2) ?_ hS (next _ w hput hw hS)
  by_cases hcc : c = true
  · have h1 : cg = true ∧ b = want := by
      rw [hcc] at hc
      have := hc.symm
      simp only [Bool.and_eq_true, beq_iff_eq] at this
      exact this
    refine .inl ⟨by simp [Region.wanted, hy, h1.1, h1.2], fun w hw => ?_⟩
    rw [if_pos hcc]
    exact h hcc a w _ _ _ _ _ hs hw
  · refine .inr ⟨?_, if_neg hcc⟩
    unfold Region.wanted
    simp only [hy]
    cases cg with
    | false => rfl
    | true =>
      simp at hc ⊢
      intro hb
      exact hcc (by rw [hc, hb]; simp)

/-- one that may turn the world, where nothing else may come up -/
theorem kg_fx {i : Nat} {dst : Option Tmp} {op : Op} {ty : TypeId} {pos : String} {aft : Array Edge} {S' : World → Prop} (hi : ops[i]? = some ⟨dst, op, ty, pos, aft, none⟩) (hr : Region.ready .any ops listed = [i])
    (hSS : ∀ w, S' w → S w)
    (h : FX P N op dst Q tm A (fun a' w' => S' w' ∧ KG P ops Q fuel (listed.setIfInBounds i true) S' order a' w')) : KP N (KG P ops Q (fuel + 1) listed S (i :: order)) tm A := by
  intro a w hs hw _
  refine ⟨fun h => (by rw [h] at hr; cases hr), fun k hk => ?_⟩
  rw [hr, List.mem_singleton] at hk
  subst hk
  unfold wpOp
  simp only [hi, Region.wanted]
  exact .inl (Oper.wp_mono (fun a' w' h' => .inr ⟨S', hSS, h'.1, h'.2 h'.1⟩) (h a w ty pos aft none hs hw))

/-- the last one of all -/
theorem kg_last {i : Nat} {dst : Option Tmp} {op : Op} {ty : TypeId} {pos : String} {aft : Array Edge} (hi : ops[i]? = some ⟨dst, op, ty, pos, aft, none⟩) (hr : Region.ready .any ops listed = [i])
    (hw : waitsAll .any ops i = true) (hr' : Region.ready .any ops (listed.setIfInBounds i true) = [])
    (h : FX P N op dst Q tm A (Q .normal)) : KP N (KG P ops Q (fuel + 1) listed S (i :: order)) tm A := by
  intro a w hs hA _
  refine ⟨fun h => (by rw [h] at hr; cases hr), fun k hk => ?_⟩
  rw [hr, List.mem_singleton] at hk
  subst hk
  unfold wpOp
  simp only [hi, Region.wanted]
  exact .inl (Oper.wp_mono (fun a' w' h' => .inl ⟨hw, hr', h'⟩) (h a w ty pos aft none hs hA))

theorem kg_done (hr : Region.ready .any ops listed = []) (h : PO N .normal Q tm A) : KP N (KG P ops Q fuel listed S order) tm A := by
  intro a w hs hw _
  cases fuel with
  | zero => exact ⟨hr, h a w hs hw⟩
  | succ n => exact ⟨fun _ => h a w hs hw, fun i hi => by rw [hr] at hi; cases hi⟩

/-- S and what holds are one: behind a step -/
theorem kp_both {K : Act → World → Prop} (h : KP N K tm A) : KP N (fun a w => A w ∧ K a w) tm A := fun a w hs hw => ⟨hw, h a w hs hw⟩

end
end Go.Eng

/- Engine, part U: a guarded call that turns nothing that was there, of a known answer. -/
namespace Go.Eng
open Go Go.RowKit

section
variable {P : Program} {N : Nat} {Q : Exit → Act → World → Prop} {tm : Tm} {bs : List Base} {H : List Ent} {A : World → Prop} {ops : Array Oper} {rest : List Oper}

def GX (P : Program) (N : Nat) (op : Op) (tm : Tm) (A : World → Prop) (c : Bool) (u : Value) : Prop :=
  c = true → ∀ (Q : Exit → Act → World → Prop) (K : Act → World → Prop) (a : Act) (w : World) (d : Tmp) (ty : TypeId) (pos : String) (aft : Array Edge) (g : Option (Nat × Bool)), Sim N tm a → A w → (∀ w', A w' → K (a.put (some d) u) w') → Oper.wp P ⟨some d, op, ty, pos, aft, g⟩ a w K Q

theorem gx_call {k : Nat} {c : Bool} {u : Value} {f : Operand} {xs : List Operand} {ts : Array TypeId} {first cap vs : List Value} [hF : FN P k]
    (hf : EV tm c f (.func (.func k) first.toArray cap.toArray) := by first | exact ⟨_, rfl, fun _ => rfl⟩ | exact ⟨_, rfl, fun h => h⟩ | exact ⟨_, rfl, and_l⟩)
    (hxs : EVS tm c xs vs := by repeat (first | exact .nil | apply EVS.cons ⟨_, rfl, fun _ => rfl⟩ | apply EVS.cons ⟨_, rfl, fun h => h⟩ | apply EVS.cons ⟨_, rfl, and_l⟩))
    (spec : c = true → ∀ w, Mem bs H w → Pur P k (first ++ vs ++ cap) w fun _ v _ => v = u) :
    GX P N (.call { callee := .value f, args := xs.toArray, argTypes := ts }) tm (Mem bs H) c u := by
  intro hc Q K a w d ty pos aft g hs hw hK
  unfold Oper.wp
  rw [exec_call (hf.get hs hc) (hxs.get hs hc)]
  simp only [Oper.upon]
  refine Calls.mono (spec hc w hw) fun e w' h => ?_
  unfold PurR at h
  obtain ⟨v, rfl, hb, rfl⟩ := h
  exact hK w' (hw.ext hb)

/-- in a statement of one order -/
theorem wl_gx {d j g : Nat} {want cg b c : Bool} {op : Op} {ty : TypeId} {pos : String} {aft : Array Edge} {u : Value}
    (hj : (ops[j]?).bind (·.dst) = some g := by rfl) (hg : lk tm g = some (cg, .bool b) := by rfl) (hc : c = (cg && (b == want)) := by first | exact gc_tt _ | exact gc_tf _ | exact gc_st _ _ | exact gc_sf _ _) (h : GX P N op tm A c u) (hd : Nat.blt d N = true := by rfl)
    (next : WL P N ops Q rest ((d, c, u) :: tm) A) : WL P N ops Q (⟨some d, op, ty, pos, aft, some (j, want)⟩ :: rest) tm A := by
  intro a w hs hw
  refine wpList_step fun K hK => ?_
  have hy := yields_bool (ops := ops) hs hj hg
  unfold Region.wanted
  simp only [hy]
  have hd' := Nat.ble_eq.mp hd
  by_cases hcc : c = true
  · have h1 : cg = true ∧ b = want := by
      rw [hcc] at hc
      have := hc.symm
      simp only [Bool.and_eq_true, beq_iff_eq] at this
      exact this
    rw [h1.1, h1.2]
    simp only [if_true, beq_self_eq_true]
    exact h hcc _ _ a w _ _ _ _ _ hs hw fun w' hw' => hK _ _ (next _ _ (by simpa [hcc] using hs.put hd' c u) hw')
  · have h1 : ((if cg = true then some b else none) == some want) = false := by
      cases cg <;> simp at hc ⊢
      intro hb
      exact hcc (by rw [hc, hb]; simp)
    rw [h1]
    simp only [Bool.false_eq_true, if_false]
    exact hK _ _ (next _ _ (by simpa [hcc] using hs.put hd' c u) hw)

/-- where the order is open, and nothing else may come up -/
theorem kg_gx {i j g d : Nat} {want cg b c : Bool} {op : Op} {ty : TypeId} {pos : String} {aft : Array Edge} {u : Value} {listed : Array Bool} {order : List Nat} {fuel : Nat}
    (hi : ops[i]? = some ⟨some d, op, ty, pos, aft, some (j, want)⟩ := by rfl) (hr : Region.ready .any ops listed = [i] := by kernel_rfl)
    (hj : (ops[j]?).bind (·.dst) = some g := by rfl) (hg : lk tm g = some (cg, .bool b) := by rfl) (hc : c = (cg && (b == want)) := by first | exact gc_tt _ | exact gc_tf _ | exact gc_st _ _ | exact gc_sf _ _) (h : GX P N op tm A c u) (hd : Nat.blt d N = true := by rfl)
    (next : KP N (KG P ops Q fuel (listed.setIfInBounds i true) A order) ((d, c, u) :: tm) A) : KP N (KG P ops Q (fuel + 1) listed A (i :: order)) tm A := by
  intro a w hs hw
  unfold KG
  intro _
  refine ⟨fun h => (by rw [h] at hr; cases hr), fun k hk => ?_⟩
  rw [hr, List.mem_singleton] at hk
  subst hk
  have hy := yields_bool (ops := ops) hs hj hg
  have hd' := Nat.ble_eq.mp hd
  have hput := hs.put hd' c u
  unfold wpOp
  simp only [hi, Region.wanted, hy]
  unfold KP KG at next
  by_cases hcc : c = true
  · have h1 : cg = true ∧ b = want := by
      rw [hcc] at hc
      have := hc.symm
      simp only [Bool.and_eq_true, beq_iff_eq] at this
      exact this
    rw [h1.1, h1.2]
    simp only [if_true, beq_self_eq_true]
    exact .inl (h hcc _ _ a w _ _ _ _ _ hs hw fun w' hw' => .inr ⟨A, fun _ h => h, hw', next _ _ (by simpa [hcc] using hput) hw' hw'⟩)
  · have h1 : ((if cg = true then some b else none) == some want) = false := by
      cases cg <;> simp at hc ⊢
      intro hb
      exact hcc (by rw [hc, hb]; simp)
    rw [h1]
    simp only [Bool.false_eq_true, if_false]
    exact .inr ⟨A, fun _ h => h, hw, next _ _ (by simpa [hcc] using hput) hw hw⟩
end
end Go.Eng

/- Engine, part V: a slice's first so many. -/
namespace Go.Eng
open Go Go.RowKit

/-- the slice's first h -/
def cutV (h : Nat) : Value → Value
  | .slice a _ cap => .slice a h cap
  | v => v

theorem cutV_cutV (h k : Nat) (v : Value) : cutV h (cutV k v) = cutV h v := by cases v <;> rfl
theorem SV.cut {v : Value} (h : SV v) (k : Nat) : SV (cutV k v) := by obtain ⟨a, n, cap, rfl⟩ := h; exact ⟨_, _, _, rfl⟩
theorem addr_zero (a : Addr) : a.add 0 = a := by unfold Addr.add; simp

section
variable {P : Program} {N : Nat} {tm : Tm} {bs : List Base} {H : List Ent} {c : Bool}

theorem run_cut {t e sz b len cap : Nat} {z : Value} {a : Option Addr} {k : IntKind} {n : Int} {w : World} [ht : TSl P t e] [hE : TE P e sz b z] (h0 : 0 ≤ n) (h2 : n ≤ cap) :
    (Instr.sliceAt t (.slice a len cap) none (some (.int k n)) none).run P w = .ok (.slice a n.toNat cap) w := by
  have hel : P.elem t = e := by have := ht.h; simp [Program.elem, this]
  have hu : P.underlying t = some (.slice (P.elem t)) := by rw [hel]; exact ht.h
  obtain ⟨i, hi, his, _⟩ := hE.h
  rw [run_sliceAt_slice w t _ _ _ _ hu, run_slice_h w t a len cap hu k n h0 h2, hel]
  simp [sizeOf, typeInfo, hi, sliced, Result.andThen, addr_zero]

/-- of what is ours -/
theorem qy_cut_own {τ : Type} {enc : τ → List Value} {sz t tt e b : Nat} {z v : Value} {k : IntKind} {n : Nat} {xs : List τ} {x y : Operand} [ht : TSl P t e] [hE : TE P e sz b z]
    (hx : EV tm c x v) (hy : EV tm c y (.int k (n : Int))) (hm : Ent.own v tt sz enc xs ∈ H) (hb : c = true → n ≤ xs.length) : QY P N (.slice t x none (some y) none) tm (Mem bs H) c (cutV n v) :=
  fun hc a w _ _ _ _ _ hsim hw => by
    simp only [execOp, hx.get hsim hc, hy.get hsim hc, Option.map]
    obtain ⟨a', cap, hv, h1, h2, h3⟩ := own_is (hw.own _ hm)
    subst hv
    exact run_v (run_cut (by omega) (by have := hb hc; omega))

theorem Sl.cut {τ : Type} {S : Nat → Prop} {w : World} {enc : τ → List Value} {sz : Nat} {v : Value} {xs : List τ} (h : Sl S w enc sz v xs) (n : Nat) (hn : n ≤ xs.length) : Sl S w enc sz (cutV n v) (xs.take n) := by
  obtain ⟨a, m, cap, rfl, rfl, h1, h2, h3⟩ := h.is
  refine ⟨⟨a, n, cap, rfl, by simp; omega, by omega, h2, fun hp => h3 (by omega)⟩, fun i x j u hi hj => ?_, fun a' n' cap' hv hp => ?_⟩
  · have hin : i < n := by
      rcases Nat.lt_or_ge i n with h' | h'
      · exact h'
      · rw [List.getElem?_eq_none (by simp; omega)] at hi; cases hi
    rw [List.getElem?_take_of_lt hin] at hi
    have := h.cell i x j u hi hj
    cases a <;> exact this
  · cases hv
    exact h.inS _ _ _ rfl (by omega)

/-- the first of what is ours, read by a callee -/
theorem Mem.lendCut {τ : Type} {enc : τ → List Value} {sz tt : Nat} {v : Value} {xs : List τ} {w' : World} [he : Enc enc sz] (hw : Mem bs H w') (hm : Ent.own v tt sz enc xs ∈ H) (n : Nat) (hn : n ≤ xs.length) : Sl All w' enc sz (cutV n v) (xs.take n) := (hw.lend hm).cut n hn

/-- a slice of a slice whose whole is known -/
theorem qy_cut {τ : Type} {S : Nat → Prop} {B : World} {enc : τ → List Value} {sz t e b m : Nat} {z v : Value} {k : IntKind} {n : Nat} {xs : List τ} {x y : Operand} [ht : TSl P t e] [hE : TE P e sz b z]
    (hx : EV tm c x (cutV m v)) (hy : EV tm c y (.int k (n : Int))) (h : Sl S B enc sz v xs) (hb : c = true → n ≤ xs.length) : QY P N (.slice t x none (some y) none) tm (Mem bs H) c (cutV n v) :=
  fun hc a w _ _ _ _ _ hsim hw => by
    simp only [execOp, hx.get hsim hc, hy.get hsim hc, Option.map]
    obtain ⟨a', m', cap, rfl, rfl, h1, h2, h3⟩ := h.is
    exact run_v (run_cut (by omega) (by have := hb hc; omega))
end
end Go.Eng

/- Engine, part W: dropping bases. -/
namespace Go.Eng
open Go Go.RowKit
theorem Mem.last {bs : List Base} {H : List Ent} {w : World} {B : Base} (h : Mem bs H w) (hB : bs.getLast? = some B) : Mem [B] H w := by
  refine ⟨fun C hC => ?_, h.own, h.inb, fun C hC => ?_, h.disj⟩
  · obtain rfl := List.mem_singleton.1 hC
    exact h.base _ (List.mem_of_getLast? hB)
  · obtain rfl := List.mem_singleton.1 hC
    exact h.apart _ (List.mem_of_getLast? hB)
end Go.Eng
namespace Go.Eng
open Go Go.RowKit
theorem Agr.trans {S : Nat → Prop} {A B C : World} (h : Agr S A B) (h2 : Agr S B C) : Agr S A C :=
  ⟨h2.os.trans h.os, h2.tape.trans h.tape, h2.output.trans h.output, Nat.le_trans h.size h2.size, fun k hk hS => (h2.blk k (Nat.lt_of_lt_of_le hk h.size) hS).trans (h.blk k hk hS)⟩
theorem kp_mem {N : Nat} {K : Act → World → Prop} {tm : Tm} {A A' : World → Prop} (hA : ∀ w, A w → A' w) (h : KP N K tm A') : KP N K tm A := by
  unfold KP at *; exact fun a w hs hw => h a w hs (hA w hw)
/-- what stayed and stayed again -/
theorem mem_trans {H : List Ent} {w w1 w2 w3 : World} (h1 : Mem [(w, All)] H w1) (h2 : Mem [(w1, All)] [] w2) (h3 : Mem [(w2, All)] [] w3) : Mem [(w, All)] [] w3 := by
  refine ⟨fun B hB => ?_, fun e he => (by cases he), fun e he => (by cases he), fun B hB e he => (by cases he), fun i j ei ej _ hi => by simp at hi⟩
  obtain rfl := List.mem_singleton.1 hB
  exact ((h1.base _ (.head _)).trans (h2.base _ (.head _))).trans (h3.base _ (.head _))
end Go.Eng

/- Engine, part X: strings, bytes, division, parts of slices, the lesser of two. -/
namespace Go.Eng
open Go Go.RowKit

/-- strings in the order of their bytes -/
def ltT (s u : ByteArray) : Bool := Op.bytesLess s.toList u.toList
theorem eqT (s u : ByteArray) : (s.toList == u.toList) = dc (s = u) := by
  rw [ByteArray.toList_eq, ByteArray.toList_eq, dc_eq]
  by_cases h : s = u
  · subst h; simp
  · have : ¬ s.data = u.data := fun e => h (ByteArray.ext e)
    simp [h, this]
/-- a byte of a string -/
def byteT (s : ByteArray) (i : Nat) : Nat := (s.data.toList.getD i 0).toNat

/-- a part of a slice -/
def subV (sz l h : Nat) : Value → Value
  | .slice a _ cap => .slice (if cap = l then a else a.map (·.add (l * sz))) (h - l) (cap - l)
  | v => v
theorem SV.sub {v : Value} (h : SV v) (sz l k : Nat) : SV (subV sz l k v) := by obtain ⟨a, n, cap, rfl⟩ := h; exact ⟨_, _, _, rfl⟩

theorem add_add' (a : Addr) (m n : Nat) : (a.add m).add n = a.add (m + n) := add_add a m n

theorem Sl.sub {τ : Type} {S : Nat → Prop} {w : World} {enc : τ → List Value} {sz : Nat} {v : Value} {xs : List τ} (h : Sl S w enc sz v xs) (l k : Nat) (hl : l ≤ k) (hk : k ≤ xs.length) : Sl S w enc sz (subV sz l k v) ((xs.take k).drop l) := by
  obtain ⟨a, m, cap, rfl, rfl, h1, h2, h3⟩ := h.is
  have hlen : ((xs.take k).drop l).length = k - l := by rw [List.length_drop, List.length_take]; omega
  refine ⟨⟨_, _, _, rfl, hlen.symm, by omega, by omega, fun hp => ?_⟩, fun i x j u hi hj => ?_, fun a' n' cap' hv hp => ?_⟩
  · have := h3 (by omega)
    obtain ⟨A, rfl⟩ := Option.isSome_iff_exists.1 this
    split <;> rfl
  · have hil : i < k - l := by
      rcases Nat.lt_or_ge i (k - l) with h' | h'
      · exact h'
      · rw [List.getElem?_eq_none (by omega)] at hi; cases hi
    rw [List.getElem?_drop, List.getElem?_take_of_lt (by omega)] at hi
    have hc := h.cell (l + i) x j u hi hj
    obtain ⟨A, rfl⟩ := Option.isSome_iff_exists.1 (h3 (by omega))
    have hcl : ¬ cap = l := by omega
    simp only [subV, hcl, if_false, Option.map_some, elt, add_add] at hc ⊢
    rw [← hc]; congr 2; rw [Nat.add_mul]
  · obtain ⟨A, rfl⟩ := Option.isSome_iff_exists.1 (h3 (by
      simp only [subV] at hv
      injection hv with e1 e2 e3
      omega))
    simp only [subV] at hv
    injection hv with e1 e2 e3
    have := h.inS A _ _ rfl (by omega)
    split at e1
    · injection e1 with e1; subst e1; exact this
    · simp only [Option.map_some] at e1
      injection e1 with e1; subst e1; rw [add_block]; exact this

section
variable {P : Program} {N : Nat} {tm : Tm} {A : World → Prop} {bs : List Base} {H : List Ent} {c : Bool}

theorem qy_str2 {op : BinOp} {t t' : TypeId} {x y : Operand} {s u : ByteArray} {v : Value} (hx : EV tm c x (.string s)) (hy : EV tm c y (.string u))
    (hr : ∀ w, (binOp op t (.string s) (.string u)).run P w = .ok v w) : QY P N (.binOp op t x y t') tm A c v :=
  fun hc a w _ _ _ _ _ hs _ => by
    simp only [execOp, hx.get hs hc, hy.get hs hc]
    have hg : (eqGuard op t x y (.string s) (.string u)).run P w = .ok () w := by
      unfold eqGuard
      cases op <;> rfl
    simp [hg, hr w]
theorem qy_eqlT {t t' : TypeId} {x y : Operand} {s u : ByteArray} (hx : EV tm c x (.string s) := by first | exact ⟨_, rfl, fun _ => rfl⟩ | exact ⟨_, rfl, fun h => h⟩ | exact ⟨_, rfl, and_l⟩) (hy : EV tm c y (.string u) := by first | exact ⟨_, rfl, fun _ => rfl⟩ | exact ⟨_, rfl, fun h => h⟩ | exact ⟨_, rfl, and_l⟩) : QY P N (.binOp .eql t x y t') tm A c (.bool (dc (s = u))) :=
  qy_str2 hx hy (fun w => by simp [binOp, Op.stringOp, eqT])
theorem qy_neqT {t t' : TypeId} {x y : Operand} {s u : ByteArray} (hx : EV tm c x (.string s) := by first | exact ⟨_, rfl, fun _ => rfl⟩ | exact ⟨_, rfl, fun h => h⟩ | exact ⟨_, rfl, and_l⟩) (hy : EV tm c y (.string u) := by first | exact ⟨_, rfl, fun _ => rfl⟩ | exact ⟨_, rfl, fun h => h⟩ | exact ⟨_, rfl, and_l⟩) : QY P N (.binOp .neq t x y t') tm A c (.bool (!dc (s = u))) :=
  qy_str2 hx hy (fun w => by simp [binOp, Op.stringOp, eqT])
theorem qy_lssT {t t' : TypeId} {x y : Operand} {s u : ByteArray} (hx : EV tm c x (.string s) := by first | exact ⟨_, rfl, fun _ => rfl⟩ | exact ⟨_, rfl, fun h => h⟩ | exact ⟨_, rfl, and_l⟩) (hy : EV tm c y (.string u) := by first | exact ⟨_, rfl, fun _ => rfl⟩ | exact ⟨_, rfl, fun h => h⟩ | exact ⟨_, rfl, and_l⟩) : QY P N (.binOp .lss t x y t') tm A c (.bool (ltT s u)) :=
  qy_str2 hx hy (fun w => by simp [binOp, Op.stringOp, ltT])
theorem qy_leqT {t t' : TypeId} {x y : Operand} {s u : ByteArray} (hx : EV tm c x (.string s) := by first | exact ⟨_, rfl, fun _ => rfl⟩ | exact ⟨_, rfl, fun h => h⟩ | exact ⟨_, rfl, and_l⟩) (hy : EV tm c y (.string u) := by first | exact ⟨_, rfl, fun _ => rfl⟩ | exact ⟨_, rfl, fun h => h⟩ | exact ⟨_, rfl, and_l⟩) : QY P N (.binOp .leq t x y t') tm A c (.bool (ltT s u || dc (s = u))) :=
  qy_str2 hx hy (fun w => by simp [binOp, Op.stringOp, ltT, eqT])
theorem qy_gtrT {t t' : TypeId} {x y : Operand} {s u : ByteArray} (hx : EV tm c x (.string s) := by first | exact ⟨_, rfl, fun _ => rfl⟩ | exact ⟨_, rfl, fun h => h⟩ | exact ⟨_, rfl, and_l⟩) (hy : EV tm c y (.string u) := by first | exact ⟨_, rfl, fun _ => rfl⟩ | exact ⟨_, rfl, fun h => h⟩ | exact ⟨_, rfl, and_l⟩) : QY P N (.binOp .gtr t x y t') tm A c (.bool (!(ltT s u || dc (s = u)))) :=
  qy_str2 hx hy (fun w => by simp [binOp, Op.stringOp, ltT, eqT])
theorem qy_geqT {t t' : TypeId} {x y : Operand} {s u : ByteArray} (hx : EV tm c x (.string s) := by first | exact ⟨_, rfl, fun _ => rfl⟩ | exact ⟨_, rfl, fun h => h⟩ | exact ⟨_, rfl, and_l⟩) (hy : EV tm c y (.string u) := by first | exact ⟨_, rfl, fun _ => rfl⟩ | exact ⟨_, rfl, fun h => h⟩ | exact ⟨_, rfl, and_l⟩) : QY P N (.binOp .geq t x y t') tm A c (.bool (!ltT s u)) :=
  qy_str2 hx hy (fun w => by simp [binOp, Op.stringOp, ltT])

theorem qy_lenT {t : TypeId} {x : Operand} {s : ByteArray} [ht : TU P t .string] (hx : EV tm c x (.string s) := by first | exact ⟨_, rfl, fun _ => rfl⟩ | exact ⟨_, rfl, fun h => h⟩ | exact ⟨_, rfl, and_l⟩) : QY P N (.call { callee := .builtin .len, args := #[x], argTypes := #[t] }) tm A c (.int .i64 (s.size : Int)) :=
  fun hc a w _ _ _ _ _ hsim hw => exec_len (hx.get hsim hc) (by simp [Builtin.len_, run_underlying ht.h, goInt])

theorem qy_indexT {t : TypeId} {x y : Operand} {s : ByteArray} {k : IntKind} {n : Nat} [ht : TU P t .string] (hx : EV tm c x (.string s) := by first | exact ⟨_, rfl, fun _ => rfl⟩ | exact ⟨_, rfl, fun h => h⟩ | exact ⟨_, rfl, and_l⟩) (hy : EV tm c y (.int k (n : Int)) := by first | exact ⟨_, rfl, fun _ => rfl⟩ | exact ⟨_, rfl, fun h => h⟩ | exact ⟨_, rfl, and_l⟩)
    (hb : c = true → n < s.size := by first | (intro _; assumption) | (intro _; omega) | (intro hc; simp only [Bool.and_eq_true, Bool.or_eq_true, Bool.not_eq_true', Bool.or_eq_false_iff, Bool.and_eq_false_iff, Bool.not_eq_false', dc_true, dc_false] at hc; omega)) : QY P N (.index t x y) tm A c (.int .u8 (byteT s n : Int)) :=
  fun hc a w _ _ _ _ _ hsim hw => by
    simp only [execOp, hx.get hsim hc, hy.get hsim hc]
    refine run_v ?_
    have h1 := hb hc
    have h2 : s[n]? = some (s.data.toList.getD n 0) := by
      have e : s.data.toList.length = s.size := Array.length_toList
      rw [List.getD_eq_getElem?_getD, List.getElem?_eq_getElem (by omega), Option.getD_some, getElem?_pos s n h1]
      rfl
    unfold byteT
    generalize s.data.toList.getD n 0 = b at h2 ⊢
    have h3 : (0 : Int) ≤ (n : Int) := by omega
    simp [Instr.index, asIntOf, run_underlying ht.h, h3, h2]

theorem qy_indexTi {t : TypeId} {x y : Operand} {s : ByteArray} {k : IntKind} {n : Int} [ht : TU P t .string] (hx : EV tm c x (.string s) := by first | exact ⟨_, rfl, fun _ => rfl⟩ | exact ⟨_, rfl, fun h => h⟩ | exact ⟨_, rfl, and_l⟩) (hy : EV tm c y (.int k n) := by first | exact ⟨_, rfl, fun _ => rfl⟩ | exact ⟨_, rfl, fun h => h⟩ | exact ⟨_, rfl, and_l⟩)
    (hb : c = true → 0 ≤ n ∧ n < s.size := by first | (intro _; omega) | (intro hc; simp only [Bool.and_eq_true, Bool.or_eq_true, Bool.not_eq_true', Bool.or_eq_false_iff, Bool.and_eq_false_iff, Bool.not_eq_false', dc_true, dc_false] at hc; omega)) : QY P N (.index t x y) tm A c (.int .u8 (byteT s n.toNat : Int)) := by
  by_cases hc : c = true
  · obtain ⟨m, rfl⟩ : ∃ m : Nat, n = m := ⟨n.toNat, by have := hb hc; omega⟩
    rw [Int.toNat_natCast]
    exact qy_indexT hx hy (fun _ => by have := hb hc; omega)
  · exact fun h => absurd h hc

/-! bytes, and whatever kind -/
theorem qy_lss8 {t t' : TypeId} {x y : Operand} {m n : Int} (hx : EV tm c x (.int .u8 m) := by first | exact ⟨_, rfl, fun _ => rfl⟩ | exact ⟨_, rfl, fun h => h⟩ | exact ⟨_, rfl, and_l⟩) (hy : EV tm c y (.int .u8 n) := by first | exact ⟨_, rfl, fun _ => rfl⟩ | exact ⟨_, rfl, fun h => h⟩ | exact ⟨_, rfl, and_l⟩) : QY P N (.binOp .lss t x y t') tm A c (.bool (dc (m < n))) := qy_cmp hx hy (by simp) rfl
theorem qy_leq8 {t t' : TypeId} {x y : Operand} {m n : Int} (hx : EV tm c x (.int .u8 m) := by first | exact ⟨_, rfl, fun _ => rfl⟩ | exact ⟨_, rfl, fun h => h⟩ | exact ⟨_, rfl, and_l⟩) (hy : EV tm c y (.int .u8 n) := by first | exact ⟨_, rfl, fun _ => rfl⟩ | exact ⟨_, rfl, fun h => h⟩ | exact ⟨_, rfl, and_l⟩) : QY P N (.binOp .leq t x y t') tm A c (.bool (dc (m ≤ n))) := qy_cmp hx hy (by simp) rfl
theorem qy_gtr8 {t t' : TypeId} {x y : Operand} {m n : Int} (hx : EV tm c x (.int .u8 m) := by first | exact ⟨_, rfl, fun _ => rfl⟩ | exact ⟨_, rfl, fun h => h⟩ | exact ⟨_, rfl, and_l⟩) (hy : EV tm c y (.int .u8 n) := by first | exact ⟨_, rfl, fun _ => rfl⟩ | exact ⟨_, rfl, fun h => h⟩ | exact ⟨_, rfl, and_l⟩) : QY P N (.binOp .gtr t x y t') tm A c (.bool (dc (n < m))) := qy_cmp hx hy (by simp) rfl
theorem qy_geq8 {t t' : TypeId} {x y : Operand} {m n : Int} (hx : EV tm c x (.int .u8 m) := by first | exact ⟨_, rfl, fun _ => rfl⟩ | exact ⟨_, rfl, fun h => h⟩ | exact ⟨_, rfl, and_l⟩) (hy : EV tm c y (.int .u8 n) := by first | exact ⟨_, rfl, fun _ => rfl⟩ | exact ⟨_, rfl, fun h => h⟩ | exact ⟨_, rfl, and_l⟩) : QY P N (.binOp .geq t x y t') tm A c (.bool (dc (n ≤ m))) := qy_cmp hx hy (by simp) rfl
theorem qy_eql8 {t t' : TypeId} {x y : Operand} {m n : Int} (hx : EV tm c x (.int .u8 m) := by first | exact ⟨_, rfl, fun _ => rfl⟩ | exact ⟨_, rfl, fun h => h⟩ | exact ⟨_, rfl, and_l⟩) (hy : EV tm c y (.int .u8 n) := by first | exact ⟨_, rfl, fun _ => rfl⟩ | exact ⟨_, rfl, fun h => h⟩ | exact ⟨_, rfl, and_l⟩) : QY P N (.binOp .eql t x y t') tm A c (.bool (dc (m = n))) := qy_cmp hx hy (by simp) rfl
theorem qy_neq8 {t t' : TypeId} {x y : Operand} {m n : Int} (hx : EV tm c x (.int .u8 m) := by first | exact ⟨_, rfl, fun _ => rfl⟩ | exact ⟨_, rfl, fun h => h⟩ | exact ⟨_, rfl, and_l⟩) (hy : EV tm c y (.int .u8 n) := by first | exact ⟨_, rfl, fun _ => rfl⟩ | exact ⟨_, rfl, fun h => h⟩ | exact ⟨_, rfl, and_l⟩) : QY P N (.binOp .neq t x y t') tm A c (.bool (!dc (m = n))) := qy_cmp hx hy (by simp) rfl

/-! '%' and '/' of what is not negative -/
theorem qy_rem {t t' : TypeId} {x y : Operand} {m n : Nat} (hx : EV tm c x (.int .i64 (m : Int)) := by first | exact ⟨_, rfl, fun _ => rfl⟩ | exact ⟨_, rfl, fun h => h⟩ | exact ⟨_, rfl, and_l⟩) (hy : EV tm c y (.int .i64 (n : Int)) := by first | exact ⟨_, rfl, fun _ => rfl⟩ | exact ⟨_, rfl, fun h => h⟩ | exact ⟨_, rfl, and_l⟩) (hn : c = true → 0 < n := by first | (intro _; assumption) | (intro _; omega)) : QY P N (.binOp .rem t x y t') tm A c (.int .i64 ((m % n : Nat) : Int)) := by
  by_cases hc : c = true
  · have h0 : ¬ n = 0 := by have := hn hc; omega
    exact qy_int2 hx hy (fun w => by
      simp [binOp, Op.intDiv, h0]
      exact (Int.ofNat_tmod m n).symm)
  · exact fun h => absurd h hc
theorem qy_quo {t t' : TypeId} {x y : Operand} {m n : Nat} (hx : EV tm c x (.int .i64 (m : Int)) := by first | exact ⟨_, rfl, fun _ => rfl⟩ | exact ⟨_, rfl, fun h => h⟩ | exact ⟨_, rfl, and_l⟩) (hy : EV tm c y (.int .i64 (n : Int)) := by first | exact ⟨_, rfl, fun _ => rfl⟩ | exact ⟨_, rfl, fun h => h⟩ | exact ⟨_, rfl, and_l⟩) (hn : c = true → 0 < n := by first | (intro _; assumption) | (intro _; omega)) (hm : m < 9223372036854775808 := by first | assumption | omega) : QY P N (.binOp .quo t x y t') tm A c (.int .i64 ((m / n : Nat) : Int)) := by
  by_cases hc : c = true
  · have h0 : ¬ n = 0 := by have := hn hc; omega
    have h2 : m / n < 9223372036854775808 := Nat.lt_of_le_of_lt (Nat.div_le_self m n) hm
    have h1 : IntKind.i64.wrap ((m / n : Nat) : Int) = ((m / n : Nat) : Int) := inI_i64 (n := ((m / n : Nat) : Int)) ⟨by generalize m / n = q at *; omega, by generalize m / n = q at *; omega⟩
    exact qy_int2 hx hy (fun w => by
      simp only [binOp, Op.intDiv, ne_eq, not_true, if_false]
      rw [if_neg (by omega), show ((m : Int).tdiv (n : Int)) = ((m / n : Nat) : Int) from (Int.ofNat_tdiv m n).symm, h1]
      rfl)
  · exact fun h => absurd h hc

theorem qy_min {t1 t2 : TypeId} {x y : Operand} {m n : Int} (hx : EV tm c x (.int .i64 m) := by first | exact ⟨_, rfl, fun _ => rfl⟩ | exact ⟨_, rfl, fun h => h⟩ | exact ⟨_, rfl, and_l⟩) (hy : EV tm c y (.int .i64 n) := by first | exact ⟨_, rfl, fun _ => rfl⟩ | exact ⟨_, rfl, fun h => h⟩ | exact ⟨_, rfl, and_l⟩) : QY P N (.call { callee := .builtin .min, args := #[x, y], argTypes := #[t1, t2] }) tm A c (.int .i64 (if n < m then n else m)) :=
  fun hc a w _ _ _ _ _ hsim hw => by
    simp [execOp, resolve, invoke, builtin, hx.get hsim hc, hy.get hsim hc, Builtin.min_, Builtin.min2]

/-- '-x' -/
theorem qy_neg {t : TypeId} {x : Operand} {n : Int} (hx : EV tm c x (.int .i64 n) := by first | exact ⟨_, rfl, fun _ => rfl⟩ | exact ⟨_, rfl, fun h => h⟩ | exact ⟨_, rfl, and_l⟩) (hb : c = true → -9223372036854775808 ≤ -n ∧ -n ≤ 9223372036854775807 := by (intro _; omega)) : QY P N (.unOp .neg t x) tm A c (.int .i64 (-n)) :=
  fun hc a w _ _ _ _ _ hsim _ => by
    simp only [execOp, hx.get hsim hc]
    refine run_v ?_
    have h := inI_i64 (hb hc)
    unfold inI at h
    show Result.ok (Value.int .i64 (IntKind.i64.wrap (0 - n))) w = _
    rw [Int.zero_sub, h]

/-! parts of slices -/
theorem run_subLH {t e sz b len cap : Nat} {z : Value} {a : Option Addr} {k1 k2 : IntKind} {l h : Nat} {w : World} [ht : TSl P t e] [hE : TE P e sz b z] (h1 : l ≤ h) (h2 : h ≤ cap) :
    (Instr.sliceAt t (.slice a len cap) (some (.int k1 (l : Int))) (some (.int k2 (h : Int))) none).run P w = .ok (subV sz l h (.slice a len cap)) w := by
  have hel : P.elem t = e := by have := ht.h; simp [Program.elem, this]
  have hu : P.underlying t = some (.slice (P.elem t)) := by rw [hel]; exact ht.h
  obtain ⟨i, hi, his, _⟩ := hE.h
  rw [run_sliceAt_slice w t _ _ _ _ hu, run_slice_lh w t a len cap hu k1 k2 l h (by omega) (by omega) (by omega), hel]
  simp [sizeOf, typeInfo, hi, sliced, Result.andThen, subV, his]
theorem run_subL {t e sz b len cap : Nat} {z : Value} {a : Option Addr} {k1 : IntKind} {l : Nat} {w : World} [ht : TSl P t e] [hE : TE P e sz b z] (h1 : l ≤ len) :
    (Instr.sliceAt t (.slice a len cap) (some (.int k1 (l : Int))) none none).run P w = .ok (subV sz l len (.slice a len cap)) w := by
  have hel : P.elem t = e := by have := ht.h; simp [Program.elem, this]
  have hu : P.underlying t = some (.slice (P.elem t)) := by rw [hel]; exact ht.h
  obtain ⟨i, hi, his, _⟩ := hE.h
  rw [run_sliceAt_slice w t _ _ _ _ hu, run_slice_l w t a len cap hu k1 l (by omega) (by omega), hel]
  simp [sizeOf, typeInfo, hi, sliced, Result.andThen, subV, his]
/-- 'v[l:]' of what is read -/
theorem qy_subL {τ : Type} {S : Nat → Prop} {B : World} {enc : τ → List Value} {sz t e b : Nat} {z v : Value} {k : IntKind} {l : Nat} {xs : List τ} {x y : Operand} [ht : TSl P t e] [hE : TE P e sz b z]
    (hx : EV tm c x v) (hy : EV tm c y (.int k (l : Int))) (h : Sl S B enc sz v xs) (hb : c = true → l ≤ xs.length) : QY P N (.slice t x (some y) none none) tm A c (subV sz l xs.length v) :=
  fun hc a w _ _ _ _ _ hsim hw => by
    simp only [execOp, hx.get hsim hc, hy.get hsim hc, Option.map]
    obtain ⟨a', m', cap, rfl, rfl, h1, h2, h3⟩ := h.is
    exact run_v (run_subL (hb hc))
/-- 'v[l:]' of what is ours -/
theorem qy_subL_own {τ : Type} {enc : τ → List Value} {sz t tt e b : Nat} {z v : Value} {k : IntKind} {l : Nat} {xs : List τ} {x y : Operand} [ht : TSl P t e] [hE : TE P e sz b z]
    (hx : EV tm c x v) (hy : EV tm c y (.int k (l : Int))) (hm : Ent.own v tt sz enc xs ∈ H) (hb : c = true → l ≤ xs.length) : QY P N (.slice t x (some y) none none) tm (Mem bs H) c (subV sz l xs.length v) :=
  fun hc a w _ _ _ _ _ hsim hw => by
    simp only [execOp, hx.get hsim hc, hy.get hsim hc, Option.map]
    obtain ⟨a', cap, hv, h1, h2, h3⟩ := own_is (hw.own _ hm)
    subst hv
    exact run_v (run_subL (hb hc))
end
end Go.Eng

/- Engine, part S: the step by program. -/
namespace Go.Eng
open Go Go.RowKit

section
variable {P : Program} {N : Nat} {Q Q' : Exit → Act → World → Prop} {tm : Tm} {A A' : World → Prop} {ops : Array Oper} {rest : List Oper}

theorem wl_a {d : Nat} {op : Op} {ty : TypeId} {pos : String} {aft : Array Edge} {v : Value} (h : QY P N op tm A true v := by first | (show QY _ _ (.move _) _ _ _ _; exact qy_move) | (show QY _ _ (.assign _) _ _ _ _; exact qy_assign) | (show QY _ _ (.load _ _) _ _ _ _; first | exact qy_load_box1 | exact qy_load_elt1 | exact qy_load_own1 | exact qy_load_boxN | exact qy_load_eltN | exact qy_load_ownN | exact qy_load_bbox1 | exact qy_load_bboxN) | (show QY _ _ (.fieldAddr _ _ _) _ _ _ _; first | exact qy_field_box | exact qy_field_elt) | (show QY _ _ (.indexAddr _ (.global _) _) _ _ _ _; exact qy_index_glob) | (show QY _ _ (.indexAddr _ _ _) _ _ _ _; first | exact qy_index_nat | exact qy_index_own_nat | exact qy_index | exact qy_index_own) | (show QY _ _ (.call _) _ _ _ _; first | exact qy_len | exact qy_len_own | exact qy_lenT | exact qy_min) | (show QY _ _ (.index _ _ _) _ _ _ _; first | exact qy_indexT | exact qy_indexTi) | (show QY _ _ (.extract _ _) _ _ _ _; exact qy_extract) | (show QY _ _ (.pick _ _ _) _ _ _ _; first | exact qy_pick_and | exact qy_pick_or) | (show QY _ _ (.convert _ _ _) _ _ _ _; first | exact qy_conv_iu | exact qy_conv_ui | exact qy_conv_ii | exact qy_conv_bi) | (show QY _ _ (.unOp .not _ _) _ _ _ _; exact qy_not) | (show QY _ _ (.unOp .neg _ _) _ _ _ _; first | exact qy_neg64 | exact qy_neg) | (show QY _ _ (.build _ _) _ _ _ _; exact qy_build) | (show QY _ _ (.makeFunc _ _ _) _ _ _ _; exact qy_func) | (show QY _ _ (.binOp .lss _ _ _ _) _ _ _ _; first | exact qy_lss | exact qy_lss8 | exact qy_lssT) | (show QY _ _ (.binOp .geq _ _ _ _) _ _ _ _; first | exact qy_geq | exact qy_geq8 | exact qy_geqT) | (show QY _ _ (.binOp .gtr _ _ _ _) _ _ _ _; first | exact qy_gtr | exact qy_gtr8 | exact qy_gtrT) | (show QY _ _ (.binOp .leq _ _ _ _) _ _ _ _; first | exact qy_leq | exact qy_leq8 | exact qy_leqT) | (show QY _ _ (.binOp .neq _ _ _ _) _ _ _ _; first | exact qy_neq | exact qy_neq64 | exact qy_neb | exact qy_neS | exact qy_neqT | exact qy_neq8) | (show QY _ _ (.binOp .eql _ _ _ _) _ _ _ _; first | exact qy_eql | exact qy_eql64 | exact qy_eqb | exact qy_eqS | exact qy_eqlT | exact qy_eql8) | (show QY _ _ (.binOp .add _ _ _ _) _ _ _ _; first | exact qy_add | exact qy_add64) | (show QY _ _ (.binOp .sub _ _ _ _) _ _ _ _; first | exact qy_sub | exact qy_sub64) | (show QY _ _ (.binOp .mul _ _ _ _) _ _ _ _; first | exact qy_mul | exact qy_mul64) | (show QY _ _ (.binOp .and _ _ _ _) _ _ _ _; exact qy_and64) | (show QY _ _ (.binOp .or _ _ _ _) _ _ _ _; exact qy_or64) | (show QY _ _ (.binOp .xor _ _ _ _) _ _ _ _; exact qy_xor64) | (show QY _ _ (.binOp .andNot _ _ _ _) _ _ _ _; exact qy_andNot64) | (show QY _ _ (.binOp .shr _ _ _ _) _ _ _ _; exact qy_shr64) | (show QY _ _ (.binOp .shl _ _ _ _) _ _ _ _; exact qy_shl64) | (show QY _ _ (.binOp .rem _ _ _ _) _ _ _ _; exact qy_rem) | (show QY _ _ (.binOp .quo _ _ _ _) _ _ _ _; exact qy_quo)) (hd : Nat.blt d N = true := by rfl)
    (next : WL P N ops Q rest ((d, true, v) :: tm) A) : WL P N ops Q (⟨some d, op, ty, pos, aft, none⟩ :: rest) tm A := wl_q h hd next

theorem wl_ag {d j g : Nat} {want cg b c : Bool} {op : Op} {ty : TypeId} {pos : String} {aft : Array Edge} {v : Value} (hj : (ops[j]?).bind (·.dst) = some g := by rfl)
    (hg : lk tm g = some (cg, .bool b) := by rfl) (hc : c = (cg && (b == want)) := by first | exact gc_tt _ | exact gc_tf _ | exact gc_st _ _ | exact gc_sf _ _) (h : QY P N op tm A c v := by first | (show QY _ _ (.move _) _ _ _ _; exact qy_move) | (show QY _ _ (.assign _) _ _ _ _; exact qy_assign) | (show QY _ _ (.load _ _) _ _ _ _; first | exact qy_load_box1 | exact qy_load_elt1 | exact qy_load_own1 | exact qy_load_boxN | exact qy_load_eltN | exact qy_load_ownN | exact qy_load_bbox1 | exact qy_load_bboxN) | (show QY _ _ (.fieldAddr _ _ _) _ _ _ _; first | exact qy_field_box | exact qy_field_elt) | (show QY _ _ (.indexAddr _ (.global _) _) _ _ _ _; exact qy_index_glob) | (show QY _ _ (.indexAddr _ _ _) _ _ _ _; first | exact qy_index_nat | exact qy_index_own_nat | exact qy_index | exact qy_index_own) | (show QY _ _ (.call _) _ _ _ _; first | exact qy_len | exact qy_len_own | exact qy_lenT | exact qy_min) | (show QY _ _ (.index _ _ _) _ _ _ _; first | exact qy_indexT | exact qy_indexTi) | (show QY _ _ (.extract _ _) _ _ _ _; exact qy_extract) | (show QY _ _ (.pick _ _ _) _ _ _ _; first | exact qy_pick_and | exact qy_pick_or) | (show QY _ _ (.convert _ _ _) _ _ _ _; first | exact qy_conv_iu | exact qy_conv_ui | exact qy_conv_ii | exact qy_conv_bi) | (show QY _ _ (.unOp .not _ _) _ _ _ _; exact qy_not) | (show QY _ _ (.unOp .neg _ _) _ _ _ _; first | exact qy_neg64 | exact qy_neg) | (show QY _ _ (.build _ _) _ _ _ _; exact qy_build) | (show QY _ _ (.makeFunc _ _ _) _ _ _ _; exact qy_func) | (show QY _ _ (.binOp .lss _ _ _ _) _ _ _ _; first | exact qy_lss | exact qy_lss8 | exact qy_lssT) | (show QY _ _ (.binOp .geq _ _ _ _) _ _ _ _; first | exact qy_geq | exact qy_geq8 | exact qy_geqT) | (show QY _ _ (.binOp .gtr _ _ _ _) _ _ _ _; first | exact qy_gtr | exact qy_gtr8 | exact qy_gtrT) | (show QY _ _ (.binOp .leq _ _ _ _) _ _ _ _; first | exact qy_leq | exact qy_leq8 | exact qy_leqT) | (show QY _ _ (.binOp .neq _ _ _ _) _ _ _ _; first | exact qy_neq | exact qy_neq64 | exact qy_neb | exact qy_neS | exact qy_neqT | exact qy_neq8) | (show QY _ _ (.binOp .eql _ _ _ _) _ _ _ _; first | exact qy_eql | exact qy_eql64 | exact qy_eqb | exact qy_eqS | exact qy_eqlT | exact qy_eql8) | (show QY _ _ (.binOp .add _ _ _ _) _ _ _ _; first | exact qy_add | exact qy_add64) | (show QY _ _ (.binOp .sub _ _ _ _) _ _ _ _; first | exact qy_sub | exact qy_sub64) | (show QY _ _ (.binOp .mul _ _ _ _) _ _ _ _; first | exact qy_mul | exact qy_mul64) | (show QY _ _ (.binOp .and _ _ _ _) _ _ _ _; exact qy_and64) | (show QY _ _ (.binOp .or _ _ _ _) _ _ _ _; exact qy_or64) | (show QY _ _ (.binOp .xor _ _ _ _) _ _ _ _; exact qy_xor64) | (show QY _ _ (.binOp .andNot _ _ _ _) _ _ _ _; exact qy_andNot64) | (show QY _ _ (.binOp .shr _ _ _ _) _ _ _ _; exact qy_shr64) | (show QY _ _ (.binOp .shl _ _ _ _) _ _ _ _; exact qy_shl64) | (show QY _ _ (.binOp .rem _ _ _ _) _ _ _ _; exact qy_rem) | (show QY _ _ (.binOp .quo _ _ _ _) _ _ _ _; exact qy_quo)) (hd : Nat.blt d N = true := by rfl)
    (next : WL P N ops Q rest ((d, c, v) :: tm) A) : WL P N ops Q (⟨some d, op, ty, pos, aft, some (j, want)⟩ :: rest) tm A := wl_qg hj hg hc h hd next

variable {listed : Array Bool} {S : World → Prop} {order : List Nat} {fuel : Nat}

theorem kg_a {i d : Nat} {op : Op} {ty : TypeId} {pos : String} {aft : Array Edge} {v : Value} (hi : ops[i]? = some ⟨some d, op, ty, pos, aft, none⟩ := by rfl) (hQ : QP Q := by repeat (first | exact qp_body | apply qp_then | apply qp_block)) (hok : okTake ops listed i = true := by kernel_rfl)
    (h : QY P N op tm S true v := by first | (show QY _ _ (.move _) _ _ _ _; exact qy_move) | (show QY _ _ (.assign _) _ _ _ _; exact qy_assign) | (show QY _ _ (.load _ _) _ _ _ _; first | exact qy_load_box1 | exact qy_load_elt1 | exact qy_load_own1 | exact qy_load_boxN | exact qy_load_eltN | exact qy_load_ownN | exact qy_load_bbox1 | exact qy_load_bboxN) | (show QY _ _ (.fieldAddr _ _ _) _ _ _ _; first | exact qy_field_box | exact qy_field_elt) | (show QY _ _ (.indexAddr _ (.global _) _) _ _ _ _; exact qy_index_glob) | (show QY _ _ (.indexAddr _ _ _) _ _ _ _; first | exact qy_index_nat | exact qy_index_own_nat | exact qy_index | exact qy_index_own) | (show QY _ _ (.call _) _ _ _ _; first | exact qy_len | exact qy_len_own | exact qy_lenT | exact qy_min) | (show QY _ _ (.index _ _ _) _ _ _ _; first | exact qy_indexT | exact qy_indexTi) | (show QY _ _ (.extract _ _) _ _ _ _; exact qy_extract) | (show QY _ _ (.pick _ _ _) _ _ _ _; first | exact qy_pick_and | exact qy_pick_or) | (show QY _ _ (.convert _ _ _) _ _ _ _; first | exact qy_conv_iu | exact qy_conv_ui | exact qy_conv_ii | exact qy_conv_bi) | (show QY _ _ (.unOp .not _ _) _ _ _ _; exact qy_not) | (show QY _ _ (.unOp .neg _ _) _ _ _ _; first | exact qy_neg64 | exact qy_neg) | (show QY _ _ (.build _ _) _ _ _ _; exact qy_build) | (show QY _ _ (.makeFunc _ _ _) _ _ _ _; exact qy_func) | (show QY _ _ (.binOp .lss _ _ _ _) _ _ _ _; first | exact qy_lss | exact qy_lss8 | exact qy_lssT) | (show QY _ _ (.binOp .geq _ _ _ _) _ _ _ _; first | exact qy_geq | exact qy_geq8 | exact qy_geqT) | (show QY _ _ (.binOp .gtr _ _ _ _) _ _ _ _; first | exact qy_gtr | exact qy_gtr8 | exact qy_gtrT) | (show QY _ _ (.binOp .leq _ _ _ _) _ _ _ _; first | exact qy_leq | exact qy_leq8 | exact qy_leqT) | (show QY _ _ (.binOp .neq _ _ _ _) _ _ _ _; first | exact qy_neq | exact qy_neq64 | exact qy_neb | exact qy_neS | exact qy_neqT | exact qy_neq8) | (show QY _ _ (.binOp .eql _ _ _ _) _ _ _ _; first | exact qy_eql | exact qy_eql64 | exact qy_eqb | exact qy_eqS | exact qy_eqlT | exact qy_eql8) | (show QY _ _ (.binOp .add _ _ _ _) _ _ _ _; first | exact qy_add | exact qy_add64) | (show QY _ _ (.binOp .sub _ _ _ _) _ _ _ _; first | exact qy_sub | exact qy_sub64) | (show QY _ _ (.binOp .mul _ _ _ _) _ _ _ _; first | exact qy_mul | exact qy_mul64) | (show QY _ _ (.binOp .and _ _ _ _) _ _ _ _; exact qy_and64) | (show QY _ _ (.binOp .or _ _ _ _) _ _ _ _; exact qy_or64) | (show QY _ _ (.binOp .xor _ _ _ _) _ _ _ _; exact qy_xor64) | (show QY _ _ (.binOp .andNot _ _ _ _) _ _ _ _; exact qy_andNot64) | (show QY _ _ (.binOp .shr _ _ _ _) _ _ _ _; exact qy_shr64) | (show QY _ _ (.binOp .shl _ _ _ _) _ _ _ _; exact qy_shl64) | (show QY _ _ (.binOp .rem _ _ _ _) _ _ _ _; exact qy_rem) | (show QY _ _ (.binOp .quo _ _ _ _) _ _ _ _; exact qy_quo)) (hd : Nat.blt d N = true := by rfl) (next : KP N (KG P ops Q fuel (listed.setIfInBounds i true) S order) ((d, true, v) :: tm) A) : KP N (KG P ops Q (fuel + 1) listed S (i :: order)) tm A :=
  kg_q hQ hi hok h hd next

theorem kg_ag {i j g d : Nat} {want cg b c : Bool} {op : Op} {ty : TypeId} {pos : String} {aft : Array Edge} {v : Value} (hi : ops[i]? = some ⟨some d, op, ty, pos, aft, some (j, want)⟩ := by rfl) (hQ : QP Q := by repeat (first | exact qp_body | apply qp_then | apply qp_block)) (hok : okTake ops listed i = true := by kernel_rfl)
    (hj : (ops[j]?).bind (·.dst) = some g := by rfl) (hg : lk tm g = some (cg, .bool b) := by rfl) (hc : c = (cg && (b == want)) := by first | exact gc_tt _ | exact gc_tf _ | exact gc_st _ _ | exact gc_sf _ _)
    (h : QY P N op tm S c v := by first | (show QY _ _ (.move _) _ _ _ _; exact qy_move) | (show QY _ _ (.assign _) _ _ _ _; exact qy_assign) | (show QY _ _ (.load _ _) _ _ _ _; first | exact qy_load_box1 | exact qy_load_elt1 | exact qy_load_own1 | exact qy_load_boxN | exact qy_load_eltN | exact qy_load_ownN | exact qy_load_bbox1 | exact qy_load_bboxN) | (show QY _ _ (.fieldAddr _ _ _) _ _ _ _; first | exact qy_field_box | exact qy_field_elt) | (show QY _ _ (.indexAddr _ (.global _) _) _ _ _ _; exact qy_index_glob) | (show QY _ _ (.indexAddr _ _ _) _ _ _ _; first | exact qy_index_nat | exact qy_index_own_nat | exact qy_index | exact qy_index_own) | (show QY _ _ (.call _) _ _ _ _; first | exact qy_len | exact qy_len_own | exact qy_lenT | exact qy_min) | (show QY _ _ (.index _ _ _) _ _ _ _; first | exact qy_indexT | exact qy_indexTi) | (show QY _ _ (.extract _ _) _ _ _ _; exact qy_extract) | (show QY _ _ (.pick _ _ _) _ _ _ _; first | exact qy_pick_and | exact qy_pick_or) | (show QY _ _ (.convert _ _ _) _ _ _ _; first | exact qy_conv_iu | exact qy_conv_ui | exact qy_conv_ii | exact qy_conv_bi) | (show QY _ _ (.unOp .not _ _) _ _ _ _; exact qy_not) | (show QY _ _ (.unOp .neg _ _) _ _ _ _; first | exact qy_neg64 | exact qy_neg) | (show QY _ _ (.build _ _) _ _ _ _; exact qy_build) | (show QY _ _ (.makeFunc _ _ _) _ _ _ _; exact qy_func) | (show QY _ _ (.binOp .lss _ _ _ _) _ _ _ _; first | exact qy_lss | exact qy_lss8 | exact qy_lssT) | (show QY _ _ (.binOp .geq _ _ _ _) _ _ _ _; first | exact qy_geq | exact qy_geq8 | exact qy_geqT) | (show QY _ _ (.binOp .gtr _ _ _ _) _ _ _ _; first | exact qy_gtr | exact qy_gtr8 | exact qy_gtrT) | (show QY _ _ (.binOp .leq _ _ _ _) _ _ _ _; first | exact qy_leq | exact qy_leq8 | exact qy_leqT) | (show QY _ _ (.binOp .neq _ _ _ _) _ _ _ _; first | exact qy_neq | exact qy_neq64 | exact qy_neb | exact qy_neS | exact qy_neqT | exact qy_neq8) | (show QY _ _ (.binOp .eql _ _ _ _) _ _ _ _; first | exact qy_eql | exact qy_eql64 | exact qy_eqb | exact qy_eqS | exact qy_eqlT | exact qy_eql8) | (show QY _ _ (.binOp .add _ _ _ _) _ _ _ _; first | exact qy_add | exact qy_add64) | (show QY _ _ (.binOp .sub _ _ _ _) _ _ _ _; first | exact qy_sub | exact qy_sub64) | (show QY _ _ (.binOp .mul _ _ _ _) _ _ _ _; first | exact qy_mul | exact qy_mul64) | (show QY _ _ (.binOp .and _ _ _ _) _ _ _ _; exact qy_and64) | (show QY _ _ (.binOp .or _ _ _ _) _ _ _ _; exact qy_or64) | (show QY _ _ (.binOp .xor _ _ _ _) _ _ _ _; exact qy_xor64) | (show QY _ _ (.binOp .andNot _ _ _ _) _ _ _ _; exact qy_andNot64) | (show QY _ _ (.binOp .shr _ _ _ _) _ _ _ _; exact qy_shr64) | (show QY _ _ (.binOp .shl _ _ _ _) _ _ _ _; exact qy_shl64) | (show QY _ _ (.binOp .rem _ _ _ _) _ _ _ _; exact qy_rem) | (show QY _ _ (.binOp .quo _ _ _ _) _ _ _ _; exact qy_quo)) (hd : Nat.blt d N = true := by rfl) (next : KP N (KG P ops Q fuel (listed.setIfInBounds i true) S order) ((d, c, v) :: tm) A) : KP N (KG P ops Q (fuel + 1) listed S (i :: order)) tm A :=
  kg_qg hQ hi hok hj hg hc h hd next

theorem kg_end (hr : Region.ready .any ops listed = [] := by kernel_rfl) (h : PO N .normal Q tm A) : KP N (KG P ops Q fuel listed S []) tm A := kg_done hr h

/-- the last of all: 'refine kg_z (fx_.. ..)' -/
theorem kg_z {i : Nat} {dst : Option Tmp} {op : Op} {ty : TypeId} {pos : String} {aft : Array Edge} (hi : ops[i]? = some ⟨dst, op, ty, pos, aft, none⟩ := by rfl) (hr : Region.ready .any ops listed = [i] := by kernel_rfl)
    (hw : waitsAll .any ops i = true := by kernel_rfl) (hr' : Region.ready .any ops (listed.setIfInBounds i true) = [] := by kernel_rfl)
    (h : FX P N op dst Q tm A (Q .normal)) : KP N (KG P ops Q (fuel + 1) listed S (i :: order)) tm A := kg_last hi hr hw hr' h

/-- one that may turn the world, where nothing else may come up: S' is what holds behind it -/
theorem kg_f {i : Nat} {dst : Option Tmp} {op : Op} {ty : TypeId} {pos : String} {aft : Array Edge} (S' : World → Prop) (hi : ops[i]? = some ⟨dst, op, ty, pos, aft, none⟩ := by rfl) (hr : Region.ready .any ops listed = [i] := by kernel_rfl)
    (hSS : ∀ w, S' w → S w := by first | exact fun _ h => h | exact fun _ h => h.tail | exact fun _ h => h.tailB)
    (h : FX P N op dst Q tm A (fun a' w' => S' w' ∧ KG P ops Q fuel (listed.setIfInBounds i true) S' order a' w')) : KP N (KG P ops Q (fuel + 1) listed S (i :: order)) tm A :=
  kg_fx hi hr hSS h

end
attribute [irreducible] QY FX GX KP KG PurR MuR MkR MusR dc LQ CQ
/-- The quiet steps, as many as there are; and those of a drawn region. -/
structure Bx_ (Y : Prop) : Prop where
  it : Y
theorem gO_ {X Y : Prop} (next : Y) (step : Bx_ Y → X := by intro q_; (repeat (first | (show KP _ (wpList _ _ _ (⟨some _, _, _, _, _, none⟩ :: _)) _ _; refine wl_a (next := ?_)) | (show KP _ (wpList _ _ _ (⟨some _, _, _, _, _, some _⟩ :: _)) _ _; refine wl_ag (next := ?_)) | refine wl_nil ?_ | refine po_then ?_ | refine wc_seq ?_ | refine wc_region ?_ | refine wc_block ?_ | refine po_block ?_ | refine wc_ret ?_ | refine po_then_ret ?_ | refine po_block_ret ?_ | refine wc_exit ?_ | refine po_then_exit ?_ | refine po_block_exit ?_ | refine po_block_pass rfl ?_ | refine wc_skip ?_)); exact q_.it) : X := step ⟨next⟩
theorem kG_ {X Y : Prop} (next : Y) (step : Bx_ Y → X := by intro q_; (repeat (first | refine kg_a (next := ?_) | refine kg_ag (next := ?_) | refine kg_end (h := ?_))); exact q_.it) : X := step ⟨next⟩
end Go.Eng
end
