import Derived.Test.YtifgncgiiojikaaGreatDoorG19
import Derived.Test.YtifgncgiiojikaaGreatDoorG14
set_option linter.unusedSimpArgs false
set_option linter.unusedVariables false
section
/- The walk of the reference's Round. -/
namespace Go.Rl
def bestR : Option (Nat × Nat) → Int | none => -1 | some (f, _) => f
end Go.Rl
namespace Go.Proofs.YtifgncgiiojikaaGreatDoor
open Go Go.Eng Go.Rl
attribute [local irreducible] wpList Code.wp bodyPost Exit.then Exit.inBlock Calls

end Go.Proofs.YtifgncgiiojikaaGreatDoor
end

section
/- Plain: lines: again and again the least thing to which none that is left stands. -/
namespace Go.Rl
open Go.Eng

def nextN (m : Nat) (p : Nat → Nat → Bool) (l : List Nat) : Option Nat := (List.range m).find? fun i => decide (i ∉ l) && (List.range m).all fun q => decide (q ∈ l) || !p q i
def lN (m : Nat) (p : Nat → Nat → Bool) : Nat → List Nat
  | 0 => []
  | n + 1 => match nextN m p (lN m p n) with
    | some i => lN m p n ++ [i]
    | none => lN m p n

section
variable {m : Nat} {p : Nat → Nat → Bool}

theorem nextN_some {l : List Nat} {i : Nat} (h : nextN m p l = some i) : i < m ∧ i ∉ l ∧ ∀ q, q < m → p q i = true → q ∈ l := by
  unfold nextN at h
  have h1 := List.find?_some h
  have h2 := List.mem_of_find?_eq_some h
  simp only [Bool.and_eq_true, decide_eq_true_eq, List.all_eq_true, Bool.or_eq_true, Bool.not_eq_true', List.mem_range] at h1 h2
  refine ⟨h2, h1.1, fun q hq hp => ?_⟩
  rcases h1.2 q hq with h3 | h3
  · exact h3
  · rw [hp] at h3; cases h3
theorem nextN_none {l : List Nat} (h : nextN m p l = none) (i : Nat) (hi : i < m) (hl : i ∉ l) : ∃ q, q < m ∧ q ∉ l ∧ p q i = true := by
  unfold nextN at h
  rw [List.find?_eq_none] at h
  have h1 := h i (List.mem_range.2 hi)
  simp only [Bool.and_eq_true, decide_eq_true_eq, not_and, Bool.not_eq_true, List.all_eq_false, List.mem_range] at h1
  obtain ⟨q, hq, h2⟩ := h1 hl
  simp only [Bool.not_eq_true, Bool.or_eq_false_iff, decide_eq_false_iff_not, Bool.not_eq_false'] at h2
  exact ⟨q, hq, h2.1, h2.2⟩

/-- each thing stands behind what stands to it -/
structure Topo (m : Nat) (p : Nat → Nat → Bool) (l : List Nat) : Prop where
  nodup : l.Nodup
  lt : ∀ x, x ∈ l → x < m
  prec : ∀ (a x : Nat), l[a]? = some x → ∀ q, q < m → p q x = true → ∃ b, b < a ∧ l[b]? = some q

theorem Topo.nil : Topo m p [] := ⟨List.nodup_nil, fun _ h => (by cases h), fun _ _ h => by simp at h⟩
theorem Topo.snoc {l : List Nat} {i : Nat} (h : Topo m p l) (hn : nextN m p l = some i) : Topo m p (l ++ [i]) := by
  obtain ⟨h1, h2, h3⟩ := nextN_some hn
  refine ⟨?_, fun x hx => ?_, fun a x hx q hq hp => ?_⟩
  · rw [List.nodup_append]
    exact ⟨h.nodup, by simp, fun a ha b hb => by rw [List.mem_singleton] at hb; subst hb; exact fun e => h2 (e ▸ ha)⟩
  · rw [List.mem_append, List.mem_singleton] at hx
    rcases hx with hx | rfl
    · exact h.lt x hx
    · exact h1
  · by_cases ha : a < l.length
    · rw [List.getElem?_append_left ha] at hx
      obtain ⟨b, hb, hbq⟩ := h.prec a x hx q hq hp
      exact ⟨b, hb, by rw [List.getElem?_append_left (by omega)]; exact hbq⟩
    · rw [List.getElem?_append_right (by omega)] at hx
      by_cases h0 : a - l.length = 0
      · rw [h0] at hx
        obtain rfl : i = x := by simpa using hx
        obtain ⟨b, hb⟩ := List.getElem?_of_mem (h3 q hq hp)
        have hbl : b < l.length := (List.getElem?_eq_some_iff.1 hb).1
        exact ⟨b, by omega, by rw [List.getElem?_append_left hbl]; exact hb⟩
      · rw [List.getElem?_eq_none (by simp; omega)] at hx; cases hx
theorem lN_topo (n : Nat) : Topo m p (lN m p n) := by
  induction n with
  | zero => exact .nil
  | succ n ih =>
    show Topo m p (match nextN m p (lN m p n) with | some i => lN m p n ++ [i] | none => lN m p n)
    cases h : nextN m p (lN m p n) with
    | none => exact ih
    | some i => exact ih.snoc h

theorem cover : ∀ (m : Nat) (l : List Nat), l.length < m → ∃ x, x < m ∧ x ∉ l
  | 0, l, h => by omega
  | m + 1, l, h => by
    by_cases hm : m ∈ l
    · have h1 := List.length_erase_of_mem hm
      have h2 : 0 < l.length := List.length_pos_of_mem hm
      obtain ⟨x, hx, hxl⟩ := cover m (l.erase m) (by omega)
      exact ⟨x, by omega, fun hc => hxl ((List.mem_erase_of_ne (by omega)).2 hc)⟩
    · exact ⟨m, by omega, hm⟩
theorem bound : ∀ (m : Nat) (l : List Nat), l.Nodup → (∀ x, x ∈ l → x < m) → l.length ≤ m
  | 0, l, _, h => by
    cases l with
    | nil => simp
    | cons x l => have := h x (.head _); omega
  | m + 1, l, hn, h => by
    by_cases hm : m ∈ l
    · have h1 := List.length_erase_of_mem hm
      have := bound m (l.erase m) (hn.erase m) (fun x hx => by
        have h2 := h x (List.mem_of_mem_erase hx)
        have h3 : x ≠ m := fun e => by subst e; exact (List.Nodup.not_mem_erase hn) hx
        omega)
      omega
    · have := bound m l hn (fun x hx => by
        have h2 := h x hx
        have h3 : x ≠ m := fun e => hm (e ▸ hx)
        omega)
      omega
theorem Topo.all {l : List Nat} (h : Topo m p l) (hl : l.length = m) (i : Nat) (hi : i < m) : i ∈ l := by
  apply Classical.byContradiction
  intro hn
  have := bound m (i :: l) (List.nodup_cons.2 ⟨hn, h.nodup⟩) (fun x hx => by
    rcases List.mem_cons.1 hx with rfl | hx
    · exact hi
    · exact h.lt x hx)
  simp at this; omega

/-- what is come to from a thing stands behind it -/
theorem Topo.before {l : List Nat} (h : Topo m p l) (hp : ∀ a b, p a b = true → a < m ∧ b < m) {q x : Nat} (hr : Rch p q x) : ∀ (a : Nat), l[a]? = some x → ∃ b, b < a ∧ l[b]? = some q := by
  induction hr with
  | one h1 => exact fun a ha => h.prec a _ ha _ (hp _ _ h1).1 h1
  | more h1 h2 ih =>
    intro a ha
    obtain ⟨b, hb, hbq⟩ := h.prec a _ ha _ (hp _ _ h2).1 h2
    obtain ⟨b', hb', hbq'⟩ := ih b hbq
    exact ⟨b', by omega, hbq'⟩
theorem Topo.acyc {l : List Nat} (h : Topo m p l) (hp : ∀ a b, p a b = true → a < m ∧ b < m) (hl : l.length = m) (i : Nat) : ¬ Rch p i i := by
  intro hr
  have hi : i < m := by cases hr with | one h1 => exact (hp _ _ h1).1 | more _ h1 => exact (hp _ _ h1).2
  obtain ⟨a, ha⟩ := List.getElem?_of_mem (h.all hl i hi)
  obtain ⟨b, hb, hbi⟩ := h.before hp hr a ha
  have := (List.getElem?_inj (List.getElem?_eq_some_iff.1 ha).1 h.nodup).1 (ha.trans hbi.symm)
  omega

theorem countP_lt {f g : Nat → Bool} : ∀ {L : List Nat}, (∀ x, x ∈ L → f x = true → g x = true) → (∃ y, y ∈ L ∧ g y = true ∧ f y = false) → L.countP f < L.countP g
  | [], _, ⟨y, hy, _⟩ => by cases hy
  | x :: L, h1, ⟨y, hy, hg, hf⟩ => by
    rw [List.countP_cons, List.countP_cons]
    have hle : L.countP f ≤ L.countP g := List.countP_mono_left fun z hz hfz => h1 z (.tail _ hz) hfz
    rcases List.mem_cons.1 hy with rfl | hy
    · rw [hg, hf]; simp; omega
    · have := countP_lt (fun z hz => h1 z (.tail _ hz)) ⟨y, hy, hg, hf⟩
      have h2 := h1 x (.head _)
      cases hfx : f x
      · simp; split <;> omega
      · rw [h2 hfx]; simp; omega
end

/-- if none can be next, there is a round -/
theorem stuck {m : Nat} {rows : List W} (ok : relOk m rows = true) {l : List Nat} (hl : l.length < m) (hn : nextN m (bt rows) l = none) : ∃ i, i < m ∧ Rch (bt rows) i i := by
  obtain ⟨x, hx, hxl⟩ := cover m l hl
  let c : Nat → Nat := fun j => (List.range m).countP fun q => decide (q ∉ l) && bt (closedL m rows) q j
  have key : ∀ k j, c j = k → j < m → j ∉ l → ∃ i, i < m ∧ Rch (bt rows) i i := by
    intro k
    induction k using Nat.strongRecOn with
    | ind k ih =>
      intro j hc hj hjl
      obtain ⟨q, hq, hql, hp⟩ := nextN_none hn j hj hjl
      by_cases hqq : Rch (bt rows) q q
      · exact ⟨q, hq, hqq⟩
      · refine ih (c q) ?_ q rfl hq hql
        rw [← hc]
        refine countP_lt (fun z _ hz => ?_) ⟨q, List.mem_range.2 hq, ?_, ?_⟩
        · simp only [Bool.and_eq_true, decide_eq_true_eq] at hz ⊢
          refine ⟨hz.1, ?_⟩
          rw [closedL_bt ok] at hz ⊢
          exact .more hz.2 hp
        · simp only [Bool.and_eq_true, decide_eq_true_eq]
          exact ⟨hql, by rw [closedL_bt ok]; exact .one hp⟩
        · have : bt (closedL m rows) q q = false := by
            rw [Bool.eq_false_iff]; intro h; rw [closedL_bt ok] at h; exact hqq h
          rw [this, Bool.and_false]
  exact key _ x rfl hx hxl

theorem turnsL_iff {m : Nat} {rows : List W} (ok : relOk m rows = true) : turnsL m rows = true ↔ ∃ i, i < m ∧ Rch (bt rows) i i := by
  unfold turnsL
  rw [List.any_eq_true]
  constructor
  · rintro ⟨i, hi, h⟩; exact ⟨i, List.mem_range.1 hi, (closedL_bt ok i i).1 h⟩
  · rintro ⟨i, hi, h⟩; exact ⟨i, List.mem_range.2 hi, (closedL_bt ok i i).2 h⟩

theorem bt_lt {m : Nat} {rows : List W} (ok : relOk m rows = true) (a b : Nat) (h : bt rows a b = true) : a < m ∧ b < m := by
  obtain ⟨m', hm, _, hl⟩ := relOk_nat ok
  obtain rfl : m = m' := by omega
  constructor
  · rcases Nat.lt_or_ge a m with h' | h'
    · exact h'
    · rw [bt_ge rows a b (by omega)] at h; cases h
  · rcases Nat.lt_or_ge b m with h' | h'
    · exact h'
    · rw [relOk_bt ok a b h'] at h; cases h

/-- of a relation without a round the line has all things -/
theorem lN_length {m : Nat} {rows : List W} (ok : relOk m rows = true) (ht : turnsL m rows = false) (n : Nat) (hn : n ≤ m) : (lN m (bt rows) n).length = n := by
  induction n with
  | zero => rfl
  | succ n ih =>
    have ih := ih (by omega)
    show (match nextN m (bt rows) (lN m (bt rows) n) with | some i => lN m (bt rows) n ++ [i] | none => lN m (bt rows) n).length = n + 1
    cases h : nextN m (bt rows) (lN m (bt rows) n) with
    | some i => simp [ih]
    | none =>
      have := (turnsL_iff ok).2 (stuck ok (by omega) h)
      rw [ht] at this; cases this

/-! the program's words -/
theorem behindL_bit (rows : List W) (dn : W) (n i : Nat) : (behindL rows dn n).getLsbD i = (List.range n).any fun q => !dn.getLsbD q && bt rows q i := by
  induction n with
  | zero => simp [behindL]
  | succ n ih =>
    rw [behindL_succ, List.range_succ, List.any_append]
    by_cases h : dn.getLsbD n = true
    · rw [if_pos h, ih]; simp [h]
    · rw [if_neg h, BitVec.getLsbD_or, ih]
      have h' : dn.getLsbD n = false := by simpa using h
      simp [h', bt]
theorem lineF_lN {m : Nat} {rows : List W} (h64 : m ≤ 64) (n : Nat) : (lineF m rows n).2 = (lN m (bt rows) n).map (fun (i : Nat) => (i : Int)) ∧ ∀ j, (lineF m rows n).1.getLsbD j = decide (j ∈ lN m (bt rows) n) := by
  induction n with
  | zero => simp [lineF, lN]
  | succ n ih =>
    obtain ⟨ih1, ih2⟩ := ih
    have hfree : free? m ((lineF m rows n).1 ||| behindL rows (lineF m rows n).1 m) = nextN m (bt rows) (lN m (bt rows) n) := by
      unfold free? nextN
      congr 1
      funext i
      rw [BitVec.getLsbD_or, ih2, behindL_bit, Bool.not_or]
      congr 1
      · simp
      · rw [List.not_any_eq_all_not]
        congr 1
        funext q
        rw [ih2, Bool.not_and, Bool.not_not]
    rw [lineF_succ]
    unfold lstep
    rw [hfree]
    show _ = (match nextN m (bt rows) (lN m (bt rows) n) with | some i => lN m (bt rows) n ++ [i] | none => lN m (bt rows) n).map _ ∧ ∀ j, _ = decide (j ∈ (match nextN m (bt rows) (lN m (bt rows) n) with | some i => lN m (bt rows) n ++ [i] | none => lN m (bt rows) n))
    cases hc : nextN m (bt rows) (lN m (bt rows) n) with
    | none => exact ⟨ih1, ih2⟩
    | some i =>
      have hi := (nextN_some hc).1
      refine ⟨by simp [ih1], fun j => ?_⟩
      simp only [BitVec.getLsbD_or, ih2, List.mem_append, List.mem_singleton]
      have e : (1#64 <<< i).getLsbD j = decide (j = i) := by
        rw [BitVec.getLsbD_shiftLeft, BitVec.getLsbD_one]
        by_cases h : j = i
        · subst h; simp; omega
        · simp [h]; omega
      rw [e]
      by_cases h1 : j ∈ lN m (bt rows) n <;> by_cases h2 : j = i <;> simp [h1, h2]
theorem lineL_lN {m : Nat} {rows : List W} (h64 : m ≤ 64) : lineL m rows = (lN m (bt rows) m).map (fun (i : Nat) => (i : Int)) := (lineF_lN h64 m).1
end Go.Rl
end

section
/- The walks: Line of the reference; Line of the program in the common form. -/
namespace Go.Proofs.YtifgncgiiojikaaGreatDoor
open Go Go.Eng Go.Rl
attribute [local irreducible] wpList Code.wp bodyPost Exit.then Exit.inBlock Calls

def lineS (n : Int) (rows : List W) : List Int := if relOk n rows = true then (if turnsL n.toNat rows = true then [] else ints (lN n.toNat (bt rows) n.toNat)) else []
def lineE (n : Int) (rows : List W) : Int := if relOk n rows = true then (if turnsL n.toNat rows = true then 12 else 0) else 10

/-- which are done -/
def inL (m : Nat) (l : List Nat) : List Bool := (List.range m).map fun i => decide (i ∈ l)
theorem inL_length (m : Nat) (l : List Nat) : (inL m l).length = m := by simp [inL]
theorem inL_get (m : Nat) (l : List Nat) (i : Nat) (hi : i < m) : (inL m l).getD i default = decide (i ∈ l) := by
  unfold inL; rw [List.getD_eq_getElem?_getD, List.getElem?_map, List.getElem?_range hi]; rfl
theorem inL_set (m : Nat) (l : List Nat) (i : Nat) : (inL m l).set i true = inL m (l ++ [i]) := by
  apply List.ext_getElem (by simp [inL])
  intro j h1 h2
  rw [List.getElem_set]
  simp only [inL, List.getElem_map, List.getElem_range]
  by_cases hj : i = j
  · subst hj; simp
  · rw [if_neg hj]; simp [show ¬ j = i from fun h => hj h.symm]

end Go.Proofs.YtifgncgiiojikaaGreatDoor
end

section
/- The walks: Acyclic (both). -/
namespace Go.Proofs.YtifgncgiiojikaaGreatDoor
open Go Go.Eng Go.Rl
attribute [local irreducible] wpList Code.wp bodyPost Exit.then Exit.inBlock Calls

def acycS (n : Int) (rows : List W) : Bool := if relOk n rows = true then !turnsL n.toNat rows else false

set_option maxHeartbeats 800000 in
theorem acyclic_spec (n : Int) (sv : Value) (rows : List W) (w : World) (h : Sl All w encW 1 sv rows) :
    Pur Tryz.prog 22 [.agg #[.int .i64 n, sv]] w fun _ v _ => v = .tuple #[.bool (acycS n rows), .int .i64 (erOf (relOk n rows))] := by
  unfold acycS erOf
  refine enter_pur Tryz.func22 Tryz.ntmps22 rfl rfl ?_
  refine gO_ ?_
  refine wl_fx (fx_box (next := ?_)); intro ba
  refine gO_ ?_
  refine wl_fx (fx_call (spec := fun w' hw => check_spec n sv rows w' (hw.now h (.head _))) (next := ?_))
  rintro v n1 w1 rfl hn1
  by_cases hok : relOk n rows = true
  · simp only [if_pos hok]
    obtain ⟨m, rfl, hm64, hlen⟩ := relOk_nat hok
    refine gO_ ?_
    refine wc_cond rfl (fun h1 => by simp [dc_eq] at h1) (fun _ => ?_)
    refine gO_ ?_
    refine wl_fx (fx_call (spec := fun w' hw => turns_spec m sv rows w' (hw.now h (.tail _ (.head _))) hm64 hlen) (next := ?_))
    rintro v n2 w2 rfl hn2
    refine gO_ ?_
    exact pur_ret Tryz.results22 (.tmp rfl (.tmp rfl .nil)) (.tail _ (.tail _ (.head _))) fun w' hw => rfl
  · simp only [if_neg hok]
    refine gO_ ?_
    refine wc_cond rfl (fun _ => ?_) (fun h1 => by simp [dc_eq] at h1)
    refine gO_ ?_
    exact pur_ret Tryz.results22 (.tmp rfl (.tmp rfl .nil)) (.tail _ (.head _)) fun w' hw => rfl

theorem lendC' {bs : List Base} {H : List Ent} {w : World} {cv : Value} {rows : List W} (hw : Mem bs H w) (hm : ownW cv (rows ++ marks) ∈ H) : Sl All w encW 1 (cutV rows.length cv) rows := by
  have := hw.lendCut hm rows.length (by simp)
  simpa using this

end Go.Proofs.YtifgncgiiojikaaGreatDoor
end
