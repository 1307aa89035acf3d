/- Plain: what relations are, in Lean: rows of 64 bits. No program in sight. -/
import Derived.Test.YtpncpbdfomgcgaaDoorEnc
import Derived.Lib.TrailingZeros
namespace Go.Rl
open Go.Eng

abbrev W := BitVec 64

/-- may a relation be? -/
def relOk (n : Int) (rows : List W) : Bool := decide (0 ≤ n) && decide (n ≤ 64) && decide ((rows.length : Int) = n) && (decide (n = 64) || rows.all fun r => r >>> n.toNat == 0#64)

structure Ok (m : Nat) (rows : List W) : Prop where
  le : m ≤ 64
  len : rows.length = m
  high : ∀ r, r ∈ rows → ∀ j, m ≤ j → r.getLsbD j = false

theorem shr_zero (r : W) (m : Nat) : r >>> m = 0#64 ↔ ∀ j, m ≤ j → r.getLsbD j = false := by
  constructor
  · intro h j hj
    have := congrArg (fun x => x.getLsbD (j - m)) h
    simp only [BitVec.getLsbD_ushiftRight, BitVec.getLsbD_zero] at this
    rwa [show m + (j - m) = j from by omega] at this
  · intro h
    apply BitVec.eq_of_getLsbD_eq
    intro i hi
    simp only [BitVec.getLsbD_ushiftRight, BitVec.getLsbD_zero]
    exact h _ (by omega)

theorem relOk_iff (n : Int) (rows : List W) : relOk n rows = true ↔ ∃ m : Nat, n = m ∧ Ok m rows := by
  unfold relOk
  simp only [Bool.and_eq_true, Bool.or_eq_true, decide_eq_true_eq, List.all_eq_true, beq_iff_eq]
  constructor
  · rintro ⟨⟨⟨h0, h1⟩, h2⟩, h3⟩
    refine ⟨n.toNat, by omega, by omega, by omega, fun r hr j hj => ?_⟩
    rcases h3 with h3 | h3
    · exact BitVec.getLsbD_of_ge _ _ (by omega)
    · exact (shr_zero r _).1 (h3 r hr) j hj
  · rintro ⟨m, rfl, h1, h2, h3⟩
    refine ⟨⟨⟨by omega, by omega⟩, by omega⟩, .inr fun r hr => ?_⟩
    exact (shr_zero r _).2 (fun j hj => h3 r hr j (by simpa using hj))

theorem and1 (x : W) (s : Nat) : (x >>> s &&& 1#64 = 1#64) ↔ x.getLsbD s = true := by
  constructor
  · intro h
    have := congrArg (fun x => x.getLsbD 0) h
    simpa using this
  · intro h
    apply BitVec.eq_of_getLsbD_eq
    intro i hi
    simp only [BitVec.getLsbD_and, BitVec.getLsbD_ushiftRight, BitVec.getLsbD_one]
    by_cases h0 : i = 0
    · subst h0; simp [h]
    · simp [h0]

theorem bit_eq (x : W) (j : Nat) (hj : j < 64) : decide (x >>> (BitVec.ofInt 64 (j : Int)).toNat &&& 1#64 = 1#64) = x.getLsbD j := by
  have h1 : (BitVec.ofInt 64 (j : Int)).toNat = j := by simp; omega
  rw [h1]
  cases hb : x.getLsbD j with
  | true => exact decide_eq_true ((and1 x j).2 hb)
  | false => exact decide_eq_false (fun h => by rw [(and1 x j).1 h] at hb; cases hb)

theorem ofInt_toNat (j : Nat) (hj : j < 64) : (BitVec.ofInt 64 (j : Int)).toNat = j := by simp; omega

/-- a pair more -/
def put (rows : List W) (a b : Nat) : List W := rows.set a (rows.getD a default ||| 1#64 <<< b)

/-- the relation of some pairs; none: one is out of range -/
def ofL (m : Nat) : List W → List Pair → Option (List W)
  | rows, [] => some rows
  | rows, p :: l => if 0 ≤ p.A ∧ p.A < m ∧ 0 ≤ p.B ∧ p.B < m then ofL m (put rows p.A.toNat p.B.toNat) l else none

def ofS (n : Int) (l : List Pair) : Option (List W) := if 0 ≤ n ∧ n ≤ 64 then ofL n.toNat (List.replicate n.toNat 0#64) l else none

theorem put_length (rows : List W) (a b : Nat) : (put rows a b).length = rows.length := by simp [put]

/-- the bits of a row, rising -/
def bitsOf (r : W) : List Nat := (List.range 64).filter fun j => r.getLsbD j

def has (n : Int) (rows : List W) (a b : Int) : Bool := relOk n rows && (decide (0 ≤ a) && decide (a < n) && decide (0 ≤ b) && decide (b < n) && (rows.getD a.toNat default).getLsbD b.toNat)

def pairsL (m : Nat) (rows : List W) : List Pair := (List.range m).flatMap fun (i : Nat) => (bitsOf (rows.getD i default)).map fun (j : Nat) => (⟨i, j⟩ : Pair)

/-- the lowest bit's place -/
def tz (r : W) : Nat := Lib.ctz 64 r.toNat

theorem tz_facts (r : W) (h : r ≠ 0#64) : tz r < 64 ∧ (r &&& -r).toNat = 2 ^ tz r := by
  have h0 : r.toNat ≠ 0 := fun e => h (BitVec.eq_of_toNat_eq (by simpa using e))
  obtain ⟨h1, h2⟩ := Lib.lowest_bit 64 r.toNat h0 r.isLt
  refine ⟨h2, ?_⟩
  rw [BitVec.toNat_and, BitVec.toNat_neg, Nat.mod_eq_of_lt (by have := r.isLt; omega)]
  exact h1

theorem tz_table (r : W) (h : r ≠ 0#64) : (((r &&& -r) * 285870213051353865#64) >>> 58).toNat < 64 ∧ Lib.deBruijn64tab.getD (((r &&& -r) * 285870213051353865#64) >>> 58).toNat 0 = tz r := by
  obtain ⟨h1, h2⟩ := tz_facts r h
  have e : (((r &&& -r) * 285870213051353865#64) >>> 58).toNat = 2 ^ tz r * 285870213051353865 % 18446744073709551616 / 288230376151711744 := by
    rw [BitVec.toNat_ushiftRight, BitVec.toNat_mul, h2, Nat.shiftRight_eq_div_pow]
    rfl
  rw [e]
  exact Lib.deBruijn64_at (tz r) h1

theorem ctz_form (r : W) (h : r ≠ 0#64) : ∃ m, r.toNat = 2 ^ tz r * (2 * m + 1) := by
  have h0 : r.toNat ≠ 0 := fun e => h (BitVec.eq_of_toNat_eq (by simpa using e))
  obtain ⟨m, hm, _⟩ := Lib.ctzFrom_spec 64 r.toNat (by omega) r.isLt
  exact ⟨m, by simpa [tz, Lib.ctz, h0] using hm⟩

theorem tz_bits (r : W) (h : r ≠ 0#64) (j : Nat) : (j < tz r → r.getLsbD j = false) ∧ r.getLsbD (tz r) = true ∧ (r &&& (r - 1#64)).getLsbD j = (r.getLsbD j && decide (j ≠ tz r)) := by
  obtain ⟨m, hm⟩ := ctz_form r h
  obtain ⟨hk, _⟩ := tz_facts r h
  generalize hkk : tz r = k at *
  have bit : ∀ j, r.getLsbD j = (decide (j ≥ k) && (2 * m + 1).testBit (j - k)) := fun j => by
    rw [← BitVec.testBit_toNat, hm, Nat.testBit_two_pow_mul]
  have hpos : 0 < 2 ^ k := Nat.two_pow_pos k
  have hsub : (r - 1#64).toNat = 2 ^ k * (2 * m) + (2 ^ k - 1) := by
    have h1 : 1 ≤ r.toNat := by rw [hm]; exact Nat.mul_pos hpos (by omega)
    have h2 : (r - 1#64).toNat = r.toNat - 1 := by
      rw [BitVec.toNat_sub]; have := r.isLt; simp; omega
    rw [h2, hm, Nat.mul_add]; omega
  have bit1 : ∀ j, (r - 1#64).getLsbD j = if j < k then true else (2 * m).testBit (j - k) := fun j => by
    rw [← BitVec.testBit_toNat, hsub, Nat.testBit_two_pow_mul_add _ (by omega)]
    split
    · rename_i hj; rw [Nat.testBit_two_pow_sub_one]; simp [hj]
    · rfl
  refine ⟨fun hj => by rw [bit]; simp; omega, by rw [bit]; simp, ?_⟩
  rw [BitVec.getLsbD_and, bit, bit1]
  by_cases hj : j < k
  · simp [show ¬ k ≤ j from by omega]
  · simp only [hj, if_false]
    by_cases hjk : j = k
    · subst hjk; simp
    · obtain ⟨i, hi⟩ : ∃ i, j - k = i + 1 := ⟨j - k - 1, by omega⟩
      rw [hi, Nat.testBit_succ, Nat.testBit_succ, show (2 * m + 1) / 2 = m from by omega, show 2 * m / 2 = m from by omega]
      cases m.testBit i <;> simp [hjk, show k ≤ j from by omega]

theorem bits_zero : bitsOf 0#64 = [] := by
  unfold bitsOf
  rw [List.filter_eq_nil_iff]
  intro j _
  simp

theorem bits_step (r : W) (h : r ≠ 0#64) : bitsOf r = tz r :: bitsOf (r &&& (r - 1#64)) := by
  obtain ⟨hk, _⟩ := tz_facts r h
  have hb := tz_bits r h
  generalize tz r = k at *
  unfold bitsOf
  have hr : List.range 64 = List.range k ++ k :: List.range' (k + 1) (63 - k) := by
    rw [List.range_eq_range', List.range_eq_range', show (64 : Nat) = k + ((63 - k) + 1) from by omega, ← List.range'_append_1, Nat.zero_add, List.range'_succ]
  have hlow : ∀ (p : Nat → Bool), (∀ j, j < k → p j = false) → (List.range k).filter p = [] := fun p hp => by
    rw [List.filter_eq_nil_iff]
    intro j hj
    rw [hp j (List.mem_range.1 hj)]
    simp
  rw [hr, List.filter_append, List.filter_append, hlow _ (fun j hj => (hb j).1 hj), hlow _ (fun j hj => by rw [(hb j).2.2, (hb j).1 hj]; rfl), List.nil_append, List.nil_append,
    List.filter_cons_of_pos (hb k).2.1, List.filter_cons_of_neg (by rw [(hb k).2.2]; simp)]
  congr 1
  refine List.filter_congr fun j hj => ?_
  rw [List.mem_range'_1] at hj
  rw [(hb j).2.2]
  simp [show j ≠ k from by omega]

theorem mem_bits (r : W) (j : Nat) : j ∈ bitsOf r ↔ r.getLsbD j = true := by
  unfold bitsOf
  rw [List.mem_filter, List.mem_range]
  constructor
  · exact fun h => h.2
  · intro h
    refine ⟨?_, h⟩
    rcases Nat.lt_or_ge j 64 with h' | h'
    · exact h'
    · rw [BitVec.getLsbD_of_ge _ _ h'] at h; cases h

/-- the rows that are left to go over: by steps -/
theorem bits_pre (r : W) (js : List Nat) (s : W) (h : bitsOf r = js ++ bitsOf s) (hs : s ≠ 0#64) : bitsOf r = (js ++ [tz s]) ++ bitsOf (s &&& (s - 1#64)) := by
  rw [h, bits_step s hs, List.append_assoc]; rfl

theorem bitsOf_length (r : W) : (bitsOf r).length ≤ 64 := by
  unfold bitsOf
  have := List.length_filter_le (fun j => r.getLsbD j) (List.range 64)
  simpa using this

def pairsAt (i : Int) (js : List Nat) : List Pair := js.map fun (j : Nat) => (⟨i, j⟩ : Pair)

theorem pairsL_succ (k : Nat) (rows : List W) : pairsL (k + 1) rows = pairsL k rows ++ pairsAt k (bitsOf (rows.getD k default)) := by
  unfold pairsL pairsAt
  rw [List.range_succ, List.flatMap_append]
  simp

theorem pairsL_length (k : Nat) (rows : List W) : (pairsL k rows).length ≤ k * 64 := by
  induction k with
  | zero => simp [pairsL]
  | succ k ih =>
    rw [pairsL_succ, List.length_append]
    have := bitsOf_length (rows.getD k default)
    simp only [pairsAt, List.length_map]
    omega

theorem relOk_nat {n : Int} {rows : List W} (h : relOk n rows = true) : ∃ m : Nat, n = m ∧ m ≤ 64 ∧ rows.length = m := by
  obtain ⟨m, hm, ho⟩ := (relOk_iff n rows).1 h
  exact ⟨m, hm, ho.le, ho.len⟩

/-- the bits under one -/
def bitsTo (r : W) (j : Nat) : List Nat := (List.range j).filter fun q => r.getLsbD q

theorem bitsTo_succ (r : W) (j : Nat) : bitsTo r (j + 1) = bitsTo r j ++ if r.getLsbD j = true then [j] else [] := by
  unfold bitsTo
  rw [List.range_succ, List.filter_append]
  congr 1
  by_cases h : r.getLsbD j = true <;> simp [h]

theorem bitsTo_all (r : W) (m : Nat) (h64 : m ≤ 64) (h : ∀ j, m ≤ j → r.getLsbD j = false) : bitsTo r m = bitsOf r := by
  unfold bitsTo bitsOf
  have hd : List.range 64 = List.range' 0 m ++ List.range' (0 + m) (64 - m) := by
    rw [List.range'_append_1, List.range_eq_range', show m + (64 - m) = 64 from by omega]
  have h0 : (List.range' (0 + m) (64 - m)).filter (fun j => r.getLsbD j) = [] := by
    rw [List.filter_eq_nil_iff]
    intro j hj
    rw [List.mem_range'_1] at hj
    rw [h j (by omega)]; simp
  rw [hd, List.range_eq_range', List.filter_append, h0, List.append_nil]

theorem bitsTo_length (r : W) (j : Nat) : (bitsTo r j).length ≤ j := by
  unfold bitsTo
  have := List.length_filter_le (fun q => r.getLsbD q) (List.range j)
  simpa using this

theorem relOk_high {m : Nat} {rows : List W} (h : relOk m rows = true) (k : Nat) : ∀ j, m ≤ j → (rows.getD k default).getLsbD j = false := by
  obtain ⟨m', hm', hok⟩ := (relOk_iff _ _).1 h
  intro j hj
  by_cases hk : k < rows.length
  · exact hok.high _ (List.mem_of_getElem? (getD_some hk)) j (by omega)
  · rw [List.getD_eq_getElem?_getD, List.getElem?_eq_none (by omega)]
    exact BitVec.getLsbD_zero

/-! what one comes to by one step or more -/
def cstep (k : Nat) (rows : List W) (i : Nat) : List W := if (rows.getD i default).getLsbD k = true then rows.set i (rows.getD i default ||| rows.getD k default) else rows
def crow (m : Nat) (rows : List W) (k : Nat) : List W := (List.range m).foldl (cstep k) rows
def closedL (m : Nat) (rows : List W) : List W := (List.range m).foldl (crow m) rows

theorem foldl_succ {α : Type} (f : α → Nat → α) (a : α) (k : Nat) : (List.range (k + 1)).foldl f a = f ((List.range k).foldl f a) k := by
  rw [List.range_succ, List.foldl_append]; rfl

theorem cstep_length (k : Nat) (rows : List W) (i : Nat) : (cstep k rows i).length = rows.length := by
  unfold cstep; split <;> simp
theorem foldl_length (f : List W → Nat → List W) (h : ∀ r i, (f r i).length = r.length) (l : List Nat) (rows : List W) : (l.foldl f rows).length = rows.length := by
  induction l generalizing rows with
  | nil => rfl
  | cons x l ih => rw [List.foldl_cons, ih, h]
theorem crow_length (m k : Nat) (rows : List W) : (crow m rows k).length = rows.length := foldl_length _ (cstep_length k) _ _
theorem closedL_length (m : Nat) (rows : List W) : (closedL m rows).length = rows.length := foldl_length _ (fun r k => crow_length m k r) _ _

/-- is there a round? -/
def turnsL (m : Nat) (rows : List W) : Bool := (List.range m).any fun i => ((closedL m rows).getD i default).getLsbD i

theorem map_getD (m : Nat) (rows : List W) (h : rows.length = m) : (List.range m).map (fun i => rows.getD i default) = rows := by
  apply List.ext_getElem (by simp [h])
  intro i h1 h2
  rw [List.getElem_map, List.getElem_range, List.getD_eq_getElem?_getD, List.getElem?_eq_getElem h2]; rfl

/-! the least line -/
def behindL (rows : List W) (done : W) (n : Nat) : W := (List.range n).foldl (fun b i => if done.getLsbD i = true then b else b ||| rows.getD i default) 0#64
def free? (m : Nat) (x : W) : Option Nat := (List.range m).find? fun i => !x.getLsbD i
def lstep (m : Nat) (rows : List W) (s : W × List Int) (_ : Nat) : W × List Int :=
  match free? m (s.1 ||| behindL rows s.1 m) with
  | some i => (s.1 ||| 1#64 <<< i, s.2 ++ [(i : Int)])
  | none => s
def lineF (m : Nat) (rows : List W) (n : Nat) : W × List Int := (List.range n).foldl (lstep m rows) (0#64, [])
def lineL (m : Nat) (rows : List W) : List Int := (lineF m rows m).2

theorem behindL_succ (rows : List W) (done : W) (n : Nat) : behindL rows done (n + 1) = if done.getLsbD n = true then behindL rows done n else behindL rows done n ||| rows.getD n default := by
  unfold behindL; rw [List.range_succ, List.foldl_append]; rfl
theorem lineF_succ (m : Nat) (rows : List W) (n : Nat) : lineF m rows (n + 1) = lstep m rows (lineF m rows n) n := by
  unfold lineF; rw [List.range_succ, List.foldl_append]; rfl
theorem lstep_length (m : Nat) (rows : List W) (s : W × List Int) (n : Nat) : (lstep m rows s n).2.length ≤ s.2.length + 1 := by
  unfold lstep; split <;> simp
theorem lineF_length (m : Nat) (rows : List W) (n : Nat) : (lineF m rows n).2.length ≤ n := by
  induction n with
  | zero => simp [lineF]
  | succ n ih => rw [lineF_succ]; have := lstep_length m rows (lineF m rows n) n; omega
theorem free_some (m : Nat) (x : W) (i : Nat) (hi : i < m) (h : x.getLsbD i = false) (hl : ∀ j, j < i → x.getLsbD j = true) : free? m x = some i := by
  unfold free?
  rw [List.find?_range_eq_some]
  refine ⟨by simp [h], by simpa using hi, fun j hj => by simp [hl j hj]⟩
theorem free_none (m : Nat) (x : W) (hl : ∀ j, j < m → x.getLsbD j = true) : free? m x = none := by
  unfold free?
  rw [List.find?_eq_none]
  intro j hj
  rw [List.mem_range] at hj
  simp [hl j hj]

theorem and0 (x : W) (s : Nat) : (x >>> s &&& 1#64 = 0#64) ↔ x.getLsbD s = false := by
  constructor
  · intro h
    have := congrArg (fun x => x.getLsbD 0) h
    simpa using this
  · intro h
    apply BitVec.eq_of_getLsbD_eq
    intro i hi
    simp only [BitVec.getLsbD_and, BitVec.getLsbD_ushiftRight, BitVec.getLsbD_one, BitVec.getLsbD_zero]
    by_cases h0 : i = 0
    · subst h0; simp [h]
    · simp [h0]

theorem nobit_eq (x : W) (j : Nat) (hj : j < 64) : decide (x >>> (BitVec.ofInt 64 (j : Int)).toNat &&& 1#64 = 0#64) = !x.getLsbD j := by
  rw [ofInt_toNat j hj]
  cases hb : x.getLsbD j with
  | true => exact decide_eq_false (fun h => by rw [(and0 x j).1 h] at hb; cases hb)
  | false => exact decide_eq_true ((and0 x j).2 hb)
end Go.Rl
