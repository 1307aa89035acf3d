import Derived.Test.YtifgncgiiojikaaGreatDoorG02
import Derived.Lib.TrailingZeros
set_option linter.unusedSimpArgs false
set_option linter.unusedVariables false
section
/- Plain: what relations are, in Lean: rows of 64 bits. No program in sight. -/
namespace Go.Rl
open Go.Eng

abbrev W := BitVec 64

/-- may a relation be? -/
def relOk (n : Int) (rows : List W) : Bool := decide (0 ≤ n) && decide (n ≤ 64) && decide ((rows.length : Int) = n) && (decide (n = 64) || rows.all fun r => r >>> n.toNat == 0#64)

structure Ok (m : Nat) (rows : List W) : Prop where
  le : m ≤ 64
  len : rows.length = m
  high : ∀ r, r ∈ rows → ∀ j, m ≤ j → r.getLsbD j = false

theorem shr_zero (r : W) (m : Nat) : r >>> m = 0#64 ↔ ∀ j, m ≤ j → r.getLsbD j = false := by
  constructor
  · intro h j hj
    have := congrArg (fun x => x.getLsbD (j - m)) h
    simp only [BitVec.getLsbD_ushiftRight, BitVec.getLsbD_zero] at this
    rwa [show m + (j - m) = j from by omega] at this
  · intro h
    apply BitVec.eq_of_getLsbD_eq
    intro i hi
    simp only [BitVec.getLsbD_ushiftRight, BitVec.getLsbD_zero]
    exact h _ (by omega)

theorem relOk_iff (n : Int) (rows : List W) : relOk n rows = true ↔ ∃ m : Nat, n = m ∧ Ok m rows := by
  unfold relOk
  simp only [Bool.and_eq_true, Bool.or_eq_true, decide_eq_true_eq, List.all_eq_true, beq_iff_eq]
  constructor
  · rintro ⟨⟨⟨h0, h1⟩, h2⟩, h3⟩
    refine ⟨n.toNat, by omega, by omega, by omega, fun r hr j hj => ?_⟩
    rcases h3 with h3 | h3
    · exact BitVec.getLsbD_of_ge _ _ (by omega)
    · exact (shr_zero r _).1 (h3 r hr) j hj
  · rintro ⟨m, rfl, h1, h2, h3⟩
    refine ⟨⟨⟨by omega, by omega⟩, by omega⟩, .inr fun r hr => ?_⟩
    exact (shr_zero r _).2 (fun j hj => h3 r hr j (by simpa using hj))

theorem and1 (x : W) (s : Nat) : (x >>> s &&& 1#64 = 1#64) ↔ x.getLsbD s = true := by
  constructor
  · intro h
    have := congrArg (fun x => x.getLsbD 0) h
    simpa using this
  · intro h
    apply BitVec.eq_of_getLsbD_eq
    intro i hi
    simp only [BitVec.getLsbD_and, BitVec.getLsbD_ushiftRight, BitVec.getLsbD_one]
    by_cases h0 : i = 0
    · subst h0; simp [h]
    · simp [h0]

theorem bit_eq (x : W) (j : Nat) (hj : j < 64) : decide (x >>> (BitVec.ofInt 64 (j : Int)).toNat &&& 1#64 = 1#64) = x.getLsbD j := by
  have h1 : (BitVec.ofInt 64 (j : Int)).toNat = j := by simp; omega
  rw [h1]
  cases hb : x.getLsbD j with
  | true => exact decide_eq_true ((and1 x j).2 hb)
  | false => exact decide_eq_false (fun h => by rw [(and1 x j).1 h] at hb; cases hb)

theorem ofInt_toNat (j : Nat) (hj : j < 64) : (BitVec.ofInt 64 (j : Int)).toNat = j := by simp; omega

/-- a pair more -/
def put (rows : List W) (a b : Nat) : List W := rows.set a (rows.getD a default ||| 1#64 <<< b)

/-- the relation of some pairs; none: one is out of range -/
def ofL (m : Nat) : List W → List Pair → Option (List W)
  | rows, [] => some rows
  | rows, p :: l => if 0 ≤ p.A ∧ p.A < m ∧ 0 ≤ p.B ∧ p.B < m then ofL m (put rows p.A.toNat p.B.toNat) l else none

def ofS (n : Int) (l : List Pair) : Option (List W) := if 0 ≤ n ∧ n ≤ 64 then ofL n.toNat (List.replicate n.toNat 0#64) l else none

theorem put_length (rows : List W) (a b : Nat) : (put rows a b).length = rows.length := by simp [put]

/-- the bits of a row, rising -/
def bitsOf (r : W) : List Nat := (List.range 64).filter fun j => r.getLsbD j

def has (n : Int) (rows : List W) (a b : Int) : Bool := relOk n rows && (decide (0 ≤ a) && decide (a < n) && decide (0 ≤ b) && decide (b < n) && (rows.getD a.toNat default).getLsbD b.toNat)

def pairsL (m : Nat) (rows : List W) : List Pair := (List.range m).flatMap fun (i : Nat) => (bitsOf (rows.getD i default)).map fun (j : Nat) => (⟨i, j⟩ : Pair)

/-- the lowest bit's place -/
def tz (r : W) : Nat := Lib.ctz 64 r.toNat

theorem tz_facts (r : W) (h : r ≠ 0#64) : tz r < 64 ∧ (r &&& -r).toNat = 2 ^ tz r := by
  have h0 : r.toNat ≠ 0 := fun e => h (BitVec.eq_of_toNat_eq (by simpa using e))
  obtain ⟨h1, h2⟩ := Lib.lowest_bit 64 r.toNat h0 r.isLt
  refine ⟨h2, ?_⟩
  rw [BitVec.toNat_and, BitVec.toNat_neg, Nat.mod_eq_of_lt (by have := r.isLt; omega)]
  exact h1

theorem tz_table (r : W) (h : r ≠ 0#64) : (((r &&& -r) * 285870213051353865#64) >>> 58).toNat < 64 ∧ Lib.deBruijn64tab.getD (((r &&& -r) * 285870213051353865#64) >>> 58).toNat 0 = tz r := by
  obtain ⟨h1, h2⟩ := tz_facts r h
  have e : (((r &&& -r) * 285870213051353865#64) >>> 58).toNat = 2 ^ tz r * 285870213051353865 % 18446744073709551616 / 288230376151711744 := by
    rw [BitVec.toNat_ushiftRight, BitVec.toNat_mul, h2, Nat.shiftRight_eq_div_pow]
    rfl
  rw [e]
  exact Lib.deBruijn64_at (tz r) h1

theorem ctz_form (r : W) (h : r ≠ 0#64) : ∃ m, r.toNat = 2 ^ tz r * (2 * m + 1) := by
  have h0 : r.toNat ≠ 0 := fun e => h (BitVec.eq_of_toNat_eq (by simpa using e))
  obtain ⟨m, hm, _⟩ := Lib.ctzFrom_spec 64 r.toNat (by omega) r.isLt
  exact ⟨m, by simpa [tz, Lib.ctz, h0] using hm⟩

theorem tz_bits (r : W) (h : r ≠ 0#64) (j : Nat) : (j < tz r → r.getLsbD j = false) ∧ r.getLsbD (tz r) = true ∧ (r &&& (r - 1#64)).getLsbD j = (r.getLsbD j && decide (j ≠ tz r)) := by
  obtain ⟨m, hm⟩ := ctz_form r h
  obtain ⟨hk, _⟩ := tz_facts r h
  generalize hkk : tz r = k at *
  have bit : ∀ j, r.getLsbD j = (decide (j ≥ k) && (2 * m + 1).testBit (j - k)) := fun j => by
    rw [← BitVec.testBit_toNat, hm, Nat.testBit_two_pow_mul]
  have hpos : 0 < 2 ^ k := Nat.two_pow_pos k
  have hsub : (r - 1#64).toNat = 2 ^ k * (2 * m) + (2 ^ k - 1) := by
    have h1 : 1 ≤ r.toNat := by rw [hm]; exact Nat.mul_pos hpos (by omega)
    have h2 : (r - 1#64).toNat = r.toNat - 1 := by
      rw [BitVec.toNat_sub]; have := r.isLt; simp; omega
    rw [h2, hm, Nat.mul_add]; omega
  have bit1 : ∀ j, (r - 1#64).getLsbD j = if j < k then true else (2 * m).testBit (j - k) := fun j => by
    rw [← BitVec.testBit_toNat, hsub, Nat.testBit_two_pow_mul_add _ (by omega)]
    split
    · rename_i hj; rw [Nat.testBit_two_pow_sub_one]; simp [hj]
    · rfl
  refine ⟨fun hj => by rw [bit]; simp; omega, by rw [bit]; simp, ?_⟩
  rw [BitVec.getLsbD_and, bit, bit1]
  by_cases hj : j < k
  · simp [show ¬ k ≤ j from by omega]
  · simp only [hj, if_false]
    by_cases hjk : j = k
    · subst hjk; simp
    · obtain ⟨i, hi⟩ : ∃ i, j - k = i + 1 := ⟨j - k - 1, by omega⟩
      rw [hi, Nat.testBit_succ, Nat.testBit_succ, show (2 * m + 1) / 2 = m from by omega, show 2 * m / 2 = m from by omega]
      cases m.testBit i <;> simp [hjk, show k ≤ j from by omega]

theorem bits_zero : bitsOf 0#64 = [] := by
  unfold bitsOf
  rw [List.filter_eq_nil_iff]
  intro j _
  simp

theorem bits_step (r : W) (h : r ≠ 0#64) : bitsOf r = tz r :: bitsOf (r &&& (r - 1#64)) := by
  obtain ⟨hk, _⟩ := tz_facts r h
  have hb := tz_bits r h
  generalize tz r = k at *
  unfold bitsOf
  have hr : List.range 64 = List.range k ++ k :: List.range' (k + 1) (63 - k) := by
    rw [List.range_eq_range', List.range_eq_range', show (64 : Nat) = k + ((63 - k) + 1) from by omega, ← List.range'_append_1, Nat.zero_add, List.range'_succ]
  have hlow : ∀ (p : Nat → Bool), (∀ j, j < k → p j = false) → (List.range k).filter p = [] := fun p hp => by
    rw [List.filter_eq_nil_iff]
    intro j hj
    rw [hp j (List.mem_range.1 hj)]
    simp
  rw [hr, List.filter_append, List.filter_append, hlow _ (fun j hj => (hb j).1 hj), hlow _ (fun j hj => by rw [(hb j).2.2, (hb j).1 hj]; rfl), List.nil_append, List.nil_append,
    List.filter_cons_of_pos (hb k).2.1, List.filter_cons_of_neg (by rw [(hb k).2.2]; simp)]
  congr 1
  refine List.filter_congr fun j hj => ?_
  rw [List.mem_range'_1] at hj
  rw [(hb j).2.2]
  simp [show j ≠ k from by omega]

theorem mem_bits (r : W) (j : Nat) : j ∈ bitsOf r ↔ r.getLsbD j = true := by
  unfold bitsOf
  rw [List.mem_filter, List.mem_range]
  constructor
  · exact fun h => h.2
  · intro h
    refine ⟨?_, h⟩
    rcases Nat.lt_or_ge j 64 with h' | h'
    · exact h'
    · rw [BitVec.getLsbD_of_ge _ _ h'] at h; cases h

/-- the rows that are left to go over: by steps -/
theorem bits_pre (r : W) (js : List Nat) (s : W) (h : bitsOf r = js ++ bitsOf s) (hs : s ≠ 0#64) : bitsOf r = (js ++ [tz s]) ++ bitsOf (s &&& (s - 1#64)) := by
  rw [h, bits_step s hs, List.append_assoc]; rfl

theorem bitsOf_length (r : W) : (bitsOf r).length ≤ 64 := by
  unfold bitsOf
  have := List.length_filter_le (fun j => r.getLsbD j) (List.range 64)
  simpa using this

def pairsAt (i : Int) (js : List Nat) : List Pair := js.map fun (j : Nat) => (⟨i, j⟩ : Pair)

theorem pairsL_succ (k : Nat) (rows : List W) : pairsL (k + 1) rows = pairsL k rows ++ pairsAt k (bitsOf (rows.getD k default)) := by
  unfold pairsL pairsAt
  rw [List.range_succ, List.flatMap_append]
  simp

theorem pairsL_length (k : Nat) (rows : List W) : (pairsL k rows).length ≤ k * 64 := by
  induction k with
  | zero => simp [pairsL]
  | succ k ih =>
    rw [pairsL_succ, List.length_append]
    have := bitsOf_length (rows.getD k default)
    simp only [pairsAt, List.length_map]
    omega

theorem relOk_nat {n : Int} {rows : List W} (h : relOk n rows = true) : ∃ m : Nat, n = m ∧ m ≤ 64 ∧ rows.length = m := by
  obtain ⟨m, hm, ho⟩ := (relOk_iff n rows).1 h
  exact ⟨m, hm, ho.le, ho.len⟩

/-- the bits under one -/
def bitsTo (r : W) (j : Nat) : List Nat := (List.range j).filter fun q => r.getLsbD q

theorem bitsTo_succ (r : W) (j : Nat) : bitsTo r (j + 1) = bitsTo r j ++ if r.getLsbD j = true then [j] else [] := by
  unfold bitsTo
  rw [List.range_succ, List.filter_append]
  congr 1
  by_cases h : r.getLsbD j = true <;> simp [h]

theorem bitsTo_all (r : W) (m : Nat) (h64 : m ≤ 64) (h : ∀ j, m ≤ j → r.getLsbD j = false) : bitsTo r m = bitsOf r := by
  unfold bitsTo bitsOf
  have hd : List.range 64 = List.range' 0 m ++ List.range' (0 + m) (64 - m) := by
    rw [List.range'_append_1, List.range_eq_range', show m + (64 - m) = 64 from by omega]
  have h0 : (List.range' (0 + m) (64 - m)).filter (fun j => r.getLsbD j) = [] := by
    rw [List.filter_eq_nil_iff]
    intro j hj
    rw [List.mem_range'_1] at hj
    rw [h j (by omega)]; simp
  rw [hd, List.range_eq_range', List.filter_append, h0, List.append_nil]

theorem bitsTo_length (r : W) (j : Nat) : (bitsTo r j).length ≤ j := by
  unfold bitsTo
  have := List.length_filter_le (fun q => r.getLsbD q) (List.range j)
  simpa using this

theorem relOk_high {m : Nat} {rows : List W} (h : relOk m rows = true) (k : Nat) : ∀ j, m ≤ j → (rows.getD k default).getLsbD j = false := by
  obtain ⟨m', hm', hok⟩ := (relOk_iff _ _).1 h
  intro j hj
  by_cases hk : k < rows.length
  · exact hok.high _ (List.mem_of_getElem? (getD_some hk)) j (by omega)
  · rw [List.getD_eq_getElem?_getD, List.getElem?_eq_none (by omega)]
    exact BitVec.getLsbD_zero

/-! what one comes to by one step or more -/
def cstep (k : Nat) (rows : List W) (i : Nat) : List W := if (rows.getD i default).getLsbD k = true then rows.set i (rows.getD i default ||| rows.getD k default) else rows
def crow (m : Nat) (rows : List W) (k : Nat) : List W := (List.range m).foldl (cstep k) rows
def closedL (m : Nat) (rows : List W) : List W := (List.range m).foldl (crow m) rows

theorem foldl_succ {α : Type} (f : α → Nat → α) (a : α) (k : Nat) : (List.range (k + 1)).foldl f a = f ((List.range k).foldl f a) k := by
  rw [List.range_succ, List.foldl_append]; rfl

theorem cstep_length (k : Nat) (rows : List W) (i : Nat) : (cstep k rows i).length = rows.length := by
  unfold cstep; split <;> simp
theorem foldl_length (f : List W → Nat → List W) (h : ∀ r i, (f r i).length = r.length) (l : List Nat) (rows : List W) : (l.foldl f rows).length = rows.length := by
  induction l generalizing rows with
  | nil => rfl
  | cons x l ih => rw [List.foldl_cons, ih, h]
theorem crow_length (m k : Nat) (rows : List W) : (crow m rows k).length = rows.length := foldl_length _ (cstep_length k) _ _
theorem closedL_length (m : Nat) (rows : List W) : (closedL m rows).length = rows.length := foldl_length _ (fun r k => crow_length m k r) _ _

/-- is there a round? -/
def turnsL (m : Nat) (rows : List W) : Bool := (List.range m).any fun i => ((closedL m rows).getD i default).getLsbD i

theorem map_getD (m : Nat) (rows : List W) (h : rows.length = m) : (List.range m).map (fun i => rows.getD i default) = rows := by
  apply List.ext_getElem (by simp [h])
  intro i h1 h2
  rw [List.getElem_map, List.getElem_range, List.getD_eq_getElem?_getD, List.getElem?_eq_getElem h2]; rfl

/-! the least line -/
def behindL (rows : List W) (done : W) (n : Nat) : W := (List.range n).foldl (fun b i => if done.getLsbD i = true then b else b ||| rows.getD i default) 0#64
def free? (m : Nat) (x : W) : Option Nat := (List.range m).find? fun i => !x.getLsbD i
def lstep (m : Nat) (rows : List W) (s : W × List Int) (_ : Nat) : W × List Int :=
  match free? m (s.1 ||| behindL rows s.1 m) with
  | some i => (s.1 ||| 1#64 <<< i, s.2 ++ [(i : Int)])
  | none => s
def lineF (m : Nat) (rows : List W) (n : Nat) : W × List Int := (List.range n).foldl (lstep m rows) (0#64, [])
def lineL (m : Nat) (rows : List W) : List Int := (lineF m rows m).2

theorem behindL_succ (rows : List W) (done : W) (n : Nat) : behindL rows done (n + 1) = if done.getLsbD n = true then behindL rows done n else behindL rows done n ||| rows.getD n default := by
  unfold behindL; rw [List.range_succ, List.foldl_append]; rfl
theorem lineF_succ (m : Nat) (rows : List W) (n : Nat) : lineF m rows (n + 1) = lstep m rows (lineF m rows n) n := by
  unfold lineF; rw [List.range_succ, List.foldl_append]; rfl
theorem lstep_length (m : Nat) (rows : List W) (s : W × List Int) (n : Nat) : (lstep m rows s n).2.length ≤ s.2.length + 1 := by
  unfold lstep; split <;> simp
theorem lineF_length (m : Nat) (rows : List W) (n : Nat) : (lineF m rows n).2.length ≤ n := by
  induction n with
  | zero => simp [lineF]
  | succ n ih => rw [lineF_succ]; have := lstep_length m rows (lineF m rows n) n; omega
theorem free_some (m : Nat) (x : W) (i : Nat) (hi : i < m) (h : x.getLsbD i = false) (hl : ∀ j, j < i → x.getLsbD j = true) : free? m x = some i := by
  unfold free?
  rw [List.find?_range_eq_some]
  refine ⟨by simp [h], by simpa using hi, fun j hj => by simp [hl j hj]⟩
theorem free_none (m : Nat) (x : W) (hl : ∀ j, j < m → x.getLsbD j = true) : free? m x = none := by
  unfold free?
  rw [List.find?_eq_none]
  intro j hj
  rw [List.mem_range] at hj
  simp [hl j hj]

theorem and0 (x : W) (s : Nat) : (x >>> s &&& 1#64 = 0#64) ↔ x.getLsbD s = false := by
  constructor
  · intro h
    have := congrArg (fun x => x.getLsbD 0) h
    simpa using this
  · intro h
    apply BitVec.eq_of_getLsbD_eq
    intro i hi
    simp only [BitVec.getLsbD_and, BitVec.getLsbD_ushiftRight, BitVec.getLsbD_one, BitVec.getLsbD_zero]
    by_cases h0 : i = 0
    · subst h0; simp [h]
    · simp [h0]

theorem nobit_eq (x : W) (j : Nat) (hj : j < 64) : decide (x >>> (BitVec.ofInt 64 (j : Int)).toNat &&& 1#64 = 0#64) = !x.getLsbD j := by
  rw [ofInt_toNat j hj]
  cases hb : x.getLsbD j with
  | true => exact decide_eq_false (fun h => by rw [(and0 x j).1 h] at hb; cases hb)
  | false => exact decide_eq_true ((and0 x j).2 hb)
end Go.Rl
end

section
/- Plain: relations by their bits. -/
namespace Go.Rl
open Go.Eng

def bt (rows : List W) (a b : Nat) : Bool := (rows.getD a default).getLsbD b

theorem bt_ext {xs ys : List W} (hl : xs.length = ys.length) (h : ∀ a b, a < xs.length → b < 64 → bt xs a b = bt ys a b) : xs = ys := by
  apply List.ext_getElem hl
  intro i h1 h2
  apply BitVec.eq_of_getLsbD_eq
  intro j hj
  have := h i j h1 hj
  unfold bt at this
  rwa [List.getD_eq_getElem?_getD, List.getD_eq_getElem?_getD, List.getElem?_eq_getElem h1, List.getElem?_eq_getElem h2] at this

theorem put_bit (rows : List W) (a b x y : Nat) (ha : a < rows.length) (hb : b < 64) : bt (put rows a b) x y = (bt rows x y || (decide (x = a) && decide (y = b))) := by
  unfold bt put
  rw [List.getD_eq_getElem?_getD, List.getElem?_set]
  by_cases hx : a = x
  · subst hx
    rw [if_pos rfl, if_pos ha, Option.getD_some, BitVec.getLsbD_or]
    congr 1
    rw [BitVec.getLsbD_shiftLeft, BitVec.getLsbD_one]
    by_cases hy : y = b
    · subst hy; simp [hb]
    · simp [hy]; omega
  · rw [if_neg hx, ← List.getD_eq_getElem?_getD]
    simp [show ¬ x = a from fun h => hx h.symm]

theorem bt_zero (m a b : Nat) : bt (List.replicate m 0#64) a b = false := by
  unfold bt
  rw [List.getD_eq_getElem?_getD, List.getElem?_replicate]
  split
  · simp
  · exact BitVec.getLsbD_zero

/-- a row of given bits -/
def rowOf (m : Nat) (p : Nat → Bool) : W := (List.range m).foldl (fun r b => if p b = true then r ||| 1#64 <<< b else r) 0#64

theorem rowOf_succ (m : Nat) (p : Nat → Bool) : rowOf (m + 1) p = if p m = true then rowOf m p ||| 1#64 <<< m else rowOf m p := by
  unfold rowOf; rw [List.range_succ, List.foldl_append]; rfl

theorem rowOf_bit (m : Nat) (p : Nat → Bool) (h : m ≤ 64) (b : Nat) : (rowOf m p).getLsbD b = (decide (b < m) && p b) := by
  induction m with
  | zero => simp [rowOf]
  | succ m ih =>
    rw [rowOf_succ]
    have ih := ih (by omega)
    have h1 : (1#64 <<< m).getLsbD b = decide (b = m) := by
      rw [BitVec.getLsbD_shiftLeft, BitVec.getLsbD_one]
      by_cases hb : b = m
      · subst hb; simp; omega
      · simp [hb]; omega
    by_cases hp : p m = true
    · rw [if_pos hp, BitVec.getLsbD_or, ih, h1]
      by_cases hb : b = m
      · subst hb; simp [hp]
      · simp only [hb, decide_false, Bool.or_false]
        rw [decide_eq_decide.2 (show b < m ↔ b < m + 1 from by omega)]
    · rw [if_neg hp, ih]
      by_cases hb : b = m
      · subst hb; simp [hp]
      · rw [decide_eq_decide.2 (show b < m ↔ b < m + 1 from by omega)]

/-- the relation of given pairs -/
def relOf (m : Nat) (p : Nat → Nat → Bool) : List W := (List.range m).map fun a => rowOf m (p a)

theorem relOf_bit (m : Nat) (p : Nat → Nat → Bool) (h : m ≤ 64) (a b : Nat) : bt (relOf m p) a b = (decide (a < m) && decide (b < m) && p a b) := by
  unfold bt relOf
  rw [List.getD_eq_getElem?_getD, List.getElem?_map]
  by_cases ha : a < m
  · rw [List.getElem?_range ha]; simp [rowOf_bit m _ h, ha]
  · rw [List.getElem?_eq_none (by simp; omega)]; simp [ha]
    exact BitVec.getLsbD_zero
end Go.Rl
end

section
/- Plain: builders of relations; what each function answers. -/
namespace Go.Rl
open Go.Eng

theorem relOf_ext {m : Nat} {p q : Nat → Nat → Bool} (h : ∀ a b, a < m → b < m → p a b = q a b) : relOf m p = relOf m q := by
  unfold relOf
  refine List.map_congr_left fun a ha => ?_
  rw [List.mem_range] at ha
  have key : ∀ n, n ≤ m → rowOf n (p a) = rowOf n (q a) := by
    intro n hn
    induction n with
    | zero => rfl
    | succ n ih => rw [rowOf_succ, rowOf_succ, ih (by omega), h a n ha (by omega)]
  exact key m (Nat.le_refl _)

theorem relOf_length (m : Nat) (p : Nat → Nat → Bool) : (relOf m p).length = m := by simp [relOf]

theorem put_relOf (m : Nat) (p : Nat → Nat → Bool) (h : m ≤ 64) (i j : Nat) (hi : i < m) (hj : j < m) : put (relOf m p) i j = relOf m fun a b => p a b || (decide (a = i) && decide (b = j)) := by
  refine bt_ext (by simp [put_length, relOf_length]) fun a b ha hb => ?_
  rw [put_length, relOf_length] at ha
  rw [put_bit _ _ _ _ _ (by rw [relOf_length]; exact hi) (by omega), relOf_bit _ _ h, relOf_bit _ _ h]
  by_cases hbm : b < m
  · simp [ha, hbm]
  · simp [hbm, show ¬ b = j from by omega]

theorem relOf_zero (m : Nat) : relOf m (fun _ _ => false) = List.replicate m 0#64 := by
  refine bt_ext (by simp [relOf_length]) fun a b ha hb => ?_
  rw [bt_zero]
  unfold bt relOf
  rw [List.getD_eq_getElem?_getD, List.getElem?_map]
  rw [relOf_length] at ha
  rw [List.getElem?_range ha]
  have key : ∀ n, rowOf n (fun _ => false) = 0#64 := by
    intro n
    induction n with
    | zero => rfl
    | succ n ih => rw [rowOf_succ, ih]; rfl
  simp [key]

def upTo (p : Nat → Nat → Bool) (i a b : Nat) : Bool := decide (a < i) && p a b
def upTo2 (p : Nat → Nat → Bool) (i j a b : Nat) : Bool := (decide (a < i) || (decide (a = i) && decide (b < j))) && p a b

theorem upTo_zero (m : Nat) (p : Nat → Nat → Bool) : List.replicate m 0#64 = relOf m (upTo p 0) := by
  rw [← relOf_zero]; exact relOf_ext fun a b _ _ => by simp [upTo]
theorem upTo2_zero (m : Nat) (p : Nat → Nat → Bool) (i : Nat) : relOf m (upTo p i) = relOf m (upTo2 p i 0) := relOf_ext fun a b _ _ => by simp [upTo, upTo2]
theorem upTo2_put (m : Nat) (p : Nat → Nat → Bool) (h : m ≤ 64) (i j : Nat) (hi : i < m) (hj : j < m) (hp : p i j = true) : put (relOf m (upTo2 p i j)) i j = relOf m (upTo2 p i (j + 1)) := by
  rw [put_relOf m _ h i j hi hj]
  refine relOf_ext fun a b _ _ => ?_
  unfold upTo2
  by_cases ha : a = i
  · subst ha
    by_cases hb : b = j
    · subst hb; simp [hp]
    · rw [show decide (b < j + 1) = decide (b < j) from decide_eq_decide.2 (by omega)]; simp [hb]
  · simp [ha]
theorem upTo2_skip (m : Nat) (p : Nat → Nat → Bool) (i j : Nat) (hp : p i j = false) : relOf m (upTo2 p i j) = relOf m (upTo2 p i (j + 1)) := by
  refine relOf_ext fun a b _ _ => ?_
  unfold upTo2
  by_cases ha : a = i
  · subst ha
    by_cases hb : b = j
    · subst hb; simp [hp]
    · rw [show decide (b < j + 1) = decide (b < j) from decide_eq_decide.2 (by omega)]
  · simp [ha]
theorem upTo2_all (m : Nat) (p : Nat → Nat → Bool) (i : Nat) : relOf m (upTo2 p i m) = relOf m (upTo p (i + 1)) := by
  refine relOf_ext fun a b _ hb => ?_
  unfold upTo2 upTo
  by_cases ha : a = i
  · subst ha; simp [hb]
  · rw [show decide (a < i + 1) = decide (a < i) from decide_eq_decide.2 (by omega)]; simp [ha]
theorem upTo_all (m : Nat) (p : Nat → Nat → Bool) : relOf m (upTo p m) = relOf m p := relOf_ext fun a b ha _ => by simp [upTo, ha]

theorem map_relOf (m : Nat) (f : Nat → W) (p : Nat → Nat → Bool) (h : m ≤ 64) (hf : ∀ i j, i < m → j < 64 → (f i).getLsbD j = (decide (j < m) && p i j)) : (List.range m).map f = relOf m p := by
  refine bt_ext (by simp [relOf_length]) fun a b ha hb => ?_
  simp only [List.length_map, List.length_range] at ha
  rw [relOf_bit _ _ h]
  unfold bt
  rw [List.getD_eq_getElem?_getD, List.getElem?_map, List.getElem?_range ha]
  simp [hf a b ha hb, ha]

theorem relOk_bt {m : Nat} {rows : List W} (h : relOk m rows = true) (a b : Nat) (hb : m ≤ b) : bt rows a b = false := relOk_high h a b hb
theorem bt_ge (rows : List W) (a b : Nat) (h : rows.length ≤ a) : bt rows a b = false := by
  unfold bt
  rw [List.getD_eq_getElem?_getD, List.getElem?_eq_none h]
  exact BitVec.getLsbD_zero
/-- a relation that may be is that of its bits -/
theorem relOf_self {m : Nat} {rows : List W} (h : relOk m rows = true) : relOf m (bt rows) = rows := by
  obtain ⟨m', hm, hok⟩ := (relOk_iff _ _).1 h
  have hm : m = m' := by omega
  subst hm
  refine bt_ext (by rw [relOf_length, hok.len]) fun a b ha hb => ?_
  rw [relOf_length] at ha
  rw [relOf_bit _ _ hok.le]
  by_cases hbm : b < m
  · simp [ha, hbm]
  · rw [relOk_bt h a b (by omega)]; simp
theorem relOk_relOf (m : Nat) (p : Nat → Nat → Bool) (h : m ≤ 64) : relOk m (relOf m p) = true := by
  rw [relOk_iff]
  refine ⟨m, rfl, h, relOf_length m p, fun r hr j hj => ?_⟩
  obtain ⟨a, ha⟩ := List.getElem?_of_mem hr
  have h1 := relOf_bit m p h a j
  unfold bt at h1
  rw [List.getD_eq_getElem?_getD, ha] at h1
  simp only [Option.getD_some] at h1
  rw [h1]; simp; omega

/-! answers -/
def erOf (b : Bool) : Int := if b = true then 0 else 10
def nOf (b : Bool) (n : Int) : Int := if b = true then n else 0
def erTwo (a : Int) (ra : List W) (b : Int) (rb : List W) : Int := if (relOk a ra && relOk b rb) = true then (if a = b then 0 else 11) else 10
def n2 (e : Int) (n : Int) : Int := if e = 0 then n else 0
def backS (n : Int) (rows : List W) : List W := if relOk n rows = true then relOf n.toNat fun a b => bt rows b a else []
def pickS (n : Int) (rows : List W) (f t : W) : List W := if relOk n rows = true then relOf n.toNat fun a b => bt rows a b && f.getLsbD a && t.getLsbD b else []
def mixS (op : Bool → Bool → Bool) (a : Int) (ra : List W) (b : Int) (rb : List W) : List W := if erTwo a ra b rb = 0 then relOf a.toNat fun i j => op (bt ra i j) (bt rb i j) else []
def thenP (m : Nat) (ra rb : List W) (i k : Nat) : Bool := (List.range m).any fun j => bt ra i j && bt rb j k
def thenS (a : Int) (ra : List W) (b : Int) (rb : List W) : List W := if erTwo a ra b rb = 0 then relOf a.toNat (thenP a.toNat ra rb) else []
def withinS (a : Int) (ra : List W) (b : Int) (rb : List W) : Bool := if erTwo a ra b rb = 0 then (List.range a.toNat).all fun i => decide (ra.getD i default &&& ~~~ rb.getD i default = 0#64) else false

theorem erTwo_zero {a b : Int} {ra rb : List W} (h : erTwo a ra b rb = 0) : relOk a ra = true ∧ relOk b rb = true ∧ a = b := by
  unfold erTwo at h
  by_cases h1 : (relOk a ra && relOk b rb) = true
  · rw [if_pos h1] at h
    by_cases h2 : a = b
    · simp only [Bool.and_eq_true] at h1; exact ⟨h1.1, h1.2, h2⟩
    · rw [if_neg h2] at h; omega
  · rw [if_neg h1] at h; omega
end Go.Rl
end
