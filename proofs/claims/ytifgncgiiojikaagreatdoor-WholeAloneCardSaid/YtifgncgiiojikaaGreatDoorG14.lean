import Derived.Test.YtifgncgiiojikaaGreatDoorG13
import Derived.Test.YtifgncgiiojikaaGreatDoorG10
import Derived.Test.YtifgncgiiojikaaGreatDoorG12
import Derived.Test.YtifgncgiiojikaaGreatDoorG02
set_option linter.unusedSimpArgs false
set_option linter.unusedVariables false
section
/- The walks of the reference: mixed, Union, Both, Less, Then, Within (both). -/
namespace Go.Proofs.YtifgncgiiojikaaGreatDoor
open Go Go.Eng Go.Rl
attribute [local irreducible] wpList Code.wp bodyPost Exit.then Exit.inBlock Calls

theorem how1 : howB 1 = (· || ·) := by funext x y; simp [howB]
theorem how2 : howB 2 = (· && ·) := by funext x y; simp [howB]
theorem how3 : howB 3 = (fun x y => x && !y) := by funext x y; simp [howB]

end Go.Proofs.YtifgncgiiojikaaGreatDoor
end

section
/- The walks of the reference: Then; Acyclic (both). -/
namespace Go.Rl
open Go.Eng
def thB (m : Nat) (ra rb : List W) (i j k a b : Nat) : Bool := (decide (a < i) && thenP m ra rb a b) || (decide (a = i) && (thenP j ra rb a b || (decide (b < k) && bt ra a j && bt rb j b)))
theorem thenP_zero (ra rb : List W) (a b : Nat) : thenP 0 ra rb a b = false := by simp [thenP]
theorem thenP_succ (j : Nat) (ra rb : List W) (a b : Nat) : thenP (j + 1) ra rb a b = (thenP j ra rb a b || (bt ra a j && bt rb j b)) := by
  unfold thenP; rw [List.range_succ, List.any_append]; simp
theorem thB_zero (m : Nat) (ra rb : List W) (i : Nat) : relOf m (upTo (thenP m ra rb) i) = relOf m (thB m ra rb i 0 0) := relOf_ext fun a b _ _ => by simp [upTo, thB, thenP_zero]
theorem thB_put (m : Nat) (ra rb : List W) (h : m ≤ 64) (i j k : Nat) (hi : i < m) (hk : k < m) (h1 : bt ra i j = true) (h2 : bt rb j k = true) : put (relOf m (thB m ra rb i j k)) i k = relOf m (thB m ra rb i j (k + 1)) := by
  rw [put_relOf m _ h i k hi hk]
  refine relOf_ext fun a b _ _ => ?_
  unfold thB
  by_cases ha : a = i
  · subst ha
    by_cases hb : b = k
    · subst hb; simp [h1, h2]
    · rw [show decide (b < k + 1) = decide (b < k) from decide_eq_decide.2 (by omega)]; simp [hb]
  · simp [ha]
theorem thB_skip (m : Nat) (ra rb : List W) (i j k : Nat) (h2 : bt rb j k = false) : relOf m (thB m ra rb i j k) = relOf m (thB m ra rb i j (k + 1)) := by
  refine relOf_ext fun a b _ _ => ?_
  unfold thB
  by_cases hb : b = k
  · subst hb; simp [h2]
  · rw [show decide (b < k + 1) = decide (b < k) from decide_eq_decide.2 (by omega)]
theorem thB_next (m : Nat) (ra rb : List W) (i j k : Nat) (h : (decide (k < m) && bt ra i j) = false) : relOf m (thB m ra rb i j k) = relOf m (thB m ra rb i (j + 1) 0) := by
  refine relOf_ext fun a b _ hb => ?_
  unfold thB
  rw [thenP_succ]
  by_cases ha : a = i
  · subst ha
    by_cases h1 : bt ra a j = true
    · rw [h1] at h ⊢; simp at h; simp [show b < k from by omega]
    · simp [h1]
  · simp [ha]
theorem thB_all (m : Nat) (ra rb : List W) (i : Nat) : relOf m (thB m ra rb i m 0) = relOf m (upTo (thenP m ra rb) (i + 1)) := by
  refine relOf_ext fun a b _ _ => ?_
  unfold thB upTo
  by_cases ha : a = i
  · subst ha; simp
  · rw [show decide (a < i + 1) = decide (a < i) from decide_eq_decide.2 (by omega)]; simp [ha]
end Go.Rl
namespace Go.Proofs.YtifgncgiiojikaaGreatDoor
open Go Go.Eng Go.Rl
attribute [local irreducible] wpList Code.wp bodyPost Exit.then Exit.inBlock Calls

end Go.Proofs.YtifgncgiiojikaaGreatDoor
end

section
/- Plain: the closure is what one comes to by one step or more. -/
namespace Go.Rl
open Go.Eng

theorem bt_set (rows : List W) (i : Nat) (r : W) (a b : Nat) (hi : i < rows.length) : bt (rows.set i r) a b = if a = i then r.getLsbD b else bt rows a b := by
  unfold bt
  rw [List.getD_eq_getElem?_getD, List.getElem?_set]
  by_cases h : i = a
  · subst h; simp [hi]
  · rw [if_neg h, if_neg (fun e => h e.symm), ← List.getD_eq_getElem?_getD]

theorem cstep_bit (k : Nat) (rows : List W) (i a b : Nat) (hi : i < rows.length) : bt (cstep k rows i) a b = (bt rows a b || (decide (a = i) && bt rows i k && bt rows k b)) := by
  unfold cstep
  by_cases h : (rows.getD i default).getLsbD k = true
  · rw [if_pos h, bt_set _ _ _ _ _ hi, BitVec.getLsbD_or]
    have h' : bt rows i k = true := h
    by_cases ha : a = i
    · subst ha; simp [h']; rfl
    · simp [ha]
  · rw [if_neg h]
    have h' : bt rows i k = false := by simpa [bt] using h
    simp [h']

theorem crow_part (k : Nat) (rows : List W) (n : Nat) (hn : n ≤ rows.length) : ((List.range n).foldl (cstep k) rows).length = rows.length ∧ ∀ a b, bt ((List.range n).foldl (cstep k) rows) a b = (bt rows a b || (decide (a < n) && bt rows a k && bt rows k b)) := by
  induction n with
  | zero => simp
  | succ n ih =>
    obtain ⟨hl, ih⟩ := ih (by omega)
    rw [foldl_succ]
    refine ⟨by rw [cstep_length, hl], fun a b => ?_⟩
    rw [cstep_bit _ _ _ _ _ (by omega), ih, ih, ih]
    by_cases ha : a = n
    · subst ha
      simp only [Nat.lt_irrefl, decide_false, Bool.false_and, Bool.or_false, decide_true, Bool.true_and, Nat.lt_succ_self]
      cases bt rows a b <;> cases bt rows a k <;> cases bt rows k b <;> cases bt rows k k <;> simp
    · rw [show decide (a < n + 1) = decide (a < n) from decide_eq_decide.2 (by omega)]; simp [ha]

theorem crow_bit (m k : Nat) (rows : List W) (hm : rows.length = m) (a b : Nat) : bt (crow m rows k) a b = (bt rows a b || (bt rows a k && bt rows k b)) := by
  unfold crow
  rw [(crow_part k rows m (by omega)).2]
  by_cases ha : a < m
  · simp [ha]
  · rw [bt_ge rows a k (by omega)]; simp

/-- what is come to by one step or more -/
inductive Rch (p : Nat → Nat → Bool) : Nat → Nat → Prop where
  | one {a b : Nat} : p a b = true → Rch p a b
  | more {a b c : Nat} : Rch p a b → p b c = true → Rch p a c

theorem Rch.trans {p : Nat → Nat → Bool} {a b c : Nat} (h : Rch p a b) (h2 : Rch p b c) : Rch p a c := by
  induction h2 with
  | one h3 => exact .more h h3
  | more _ h3 ih => exact .more ih h3

theorem Rch.mono {p q : Nat → Nat → Bool} (hpq : ∀ a b, p a b = true → q a b = true) {a b : Nat} (h : Rch p a b) : Rch q a b := by
  induction h with
  | one h3 => exact .one (hpq _ _ h3)
  | more _ h3 ih => exact .more ih (hpq _ _ h3)

theorem Rch.within {p q : Nat → Nat → Bool} (hpq : ∀ a b, p a b = true → q a b = true) (ht : ∀ a b c, q a b = true → q b c = true → q a c = true) {a b : Nat} (h : Rch p a b) : q a b = true := by
  induction h with
  | one h3 => exact hpq _ _ h3
  | more _ h3 ih => exact ht _ _ _ ih (hpq _ _ h3)

def wN (m : Nat) (rows : List W) (n : Nat) : List W := (List.range n).foldl (crow m) rows
theorem wN_length (m : Nat) (rows : List W) (n : Nat) : (wN m rows n).length = rows.length := foldl_length _ (fun r k => crow_length m k r) _ _
theorem wN_succ (m : Nat) (rows : List W) (n : Nat) (hm : rows.length = m) (a b : Nat) : bt (wN m rows (n + 1)) a b = (bt (wN m rows n) a b || (bt (wN m rows n) a n && bt (wN m rows n) n b)) := by
  show bt ((List.range (n + 1)).foldl (crow m) rows) a b = _
  rw [foldl_succ]; rw [show (List.range n).foldl (crow m) rows = wN m rows n from rfl, crow_bit m n _ ((wN_length m rows n).trans hm)]

theorem wN_sound (m : Nat) (rows : List W) (hm : rows.length = m) (n a b : Nat) (h : bt (wN m rows n) a b = true) : Rch (bt rows) a b := by
  induction n generalizing a b with
  | zero => exact .one h
  | succ n ih =>
    rw [wN_succ m rows n hm, Bool.or_eq_true, Bool.and_eq_true] at h
    rcases h with h | ⟨h1, h2⟩
    · exact ih a b h
    · exact (ih _ _ h1).trans (ih _ _ h2)

theorem wN_base (m : Nat) (rows : List W) (hm : rows.length = m) (n a b : Nat) (h : bt rows a b = true) : bt (wN m rows n) a b = true := by
  induction n with
  | zero => exact h
  | succ n ih => rw [wN_succ m rows n hm, ih]; rfl

theorem wN_trans (m : Nat) (rows : List W) (hm : rows.length = m) (n k : Nat) (hk : k < n) (a b : Nat) (h1 : bt (wN m rows n) a k = true) (h2 : bt (wN m rows n) k b = true) : bt (wN m rows n) a b = true := by
  induction n generalizing k a b with
  | zero => omega
  | succ n ih =>
    rw [wN_succ m rows n hm, Bool.or_eq_true, Bool.and_eq_true] at h1 h2 ⊢
    by_cases hkn : k = n
    · subst hkn
      have e1 : bt (wN m rows k) a k = true := by rcases h1 with h | ⟨h, _⟩ <;> exact h
      have e2 : bt (wN m rows k) k b = true := by rcases h2 with h | ⟨_, h⟩ <;> exact h
      exact .inr ⟨e1, e2⟩
    · have hk' : k < n := by omega
      rcases h1 with h1 | ⟨h1, h1'⟩
      · rcases h2 with h2 | ⟨h2, h2'⟩
        · exact .inl (ih k hk' a b h1 h2)
        · exact .inr ⟨ih k hk' a n h1 h2, h2'⟩
      · rcases h2 with h2 | ⟨h2, h2'⟩
        · exact .inr ⟨h1, ih k hk' n b h1' h2⟩
        · exact .inr ⟨h1, h2'⟩

/-- the closure, bit by bit -/
theorem closedL_bt {m : Nat} {rows : List W} (h : relOk m rows = true) (a b : Nat) : bt (closedL m rows) a b = true ↔ Rch (bt rows) a b := by
  obtain ⟨m', hm', hok⟩ := (relOk_iff _ _).1 h
  obtain rfl : m = m' := by omega
  have hm := hok.len
  refine ⟨wN_sound m rows hm m a b, fun hr => ?_⟩
  refine Rch.within (q := bt (wN m rows m)) (fun a b h => wN_base m rows hm m a b h) (fun a k b h1 h2 => ?_) hr
  by_cases hk : k < m
  · exact wN_trans m rows hm m k hk a b h1 h2
  · rw [bt_ge _ k b (by rw [wN_length]; omega)] at h2; cases h2

theorem closedL_ok {m : Nat} {rows : List W} (h : relOk m rows = true) : closedL m rows = relOf m (bt (closedL m rows)) := by
  obtain ⟨m', hm', hok⟩ := (relOk_iff _ _).1 h
  obtain rfl : m = m' := by omega
  refine bt_ext (by rw [closedL_length, hok.len, relOf_length]) fun a b ha _ => ?_
  rw [closedL_length, hok.len] at ha
  rw [relOf_bit _ _ hok.le]
  by_cases hb : b < m
  · simp [ha, hb]
  · simp only [hb, decide_false, Bool.and_false, Bool.false_and]
    rw [Bool.eq_false_iff]
    intro hc
    rw [closedL_bt h] at hc
    cases hc with
    | one h1 => rw [relOk_bt h _ _ (by omega)] at h1; cases h1
    | more _ h1 => rw [relOk_bt h _ _ (by omega)] at h1; cases h1

/-! the search -/
def srch (m i : Nat) (cl : Nat → Nat → Bool) (V : Nat → Bool) (a b : Nat) : Bool := if a < i then cl a b else decide (a = i) && V b
def left (m : Nat) (V : Nat → Bool) : Nat := (List.range m).countP fun b => !V b
theorem left_le (m : Nat) (V : Nat → Bool) : left m V ≤ m := by
  unfold left; have := List.countP_le_length (p := fun b => !V b) (l := List.range m); simpa using this
theorem left_add (m : Nat) (V : Nat → Bool) (j : Nat) (hj : j < m) (h : V j = false) : left m V = left m (fun b => V b || decide (b = j)) + 1 := by
  induction m with
  | zero => omega
  | succ m ih =>
    unfold left at ih ⊢
    rw [List.range_succ, List.countP_append, List.countP_append]
    by_cases hjm : j = m
    · subst hjm
      have : (List.range j).countP (fun b => !V b) = (List.range j).countP (fun b => !(V b || decide (b = j))) := by
        refine List.countP_congr fun b hb => ?_
        rw [List.mem_range] at hb
        simp [show ¬ b = j from by omega]
      rw [this]; simp [h]
    · rw [ih (by omega)]
      have : decide (m = j) = false := decide_eq_false (by omega)
      simp [List.countP_cons, this]; omega
theorem srch_put (m i : Nat) (cl : Nat → Nat → Bool) (V : Nat → Bool) (h : m ≤ 64) (j : Nat) (hi : i < m) (hj : j < m) : put (relOf m (srch m i cl V)) i j = relOf m (srch m i cl (fun b => V b || decide (b = j))) := by
  rw [put_relOf m _ h i j hi hj]
  refine relOf_ext fun a b _ _ => ?_
  unfold srch
  by_cases ha : a < i
  · simp [ha, show ¬ a = i from by omega]
  · by_cases ha2 : a = i
    · subst ha2; simp
    · simp [ha, ha2]
/-- where the search stands: what is there is come to; who is not to be gone on from has been gone on from -/
structure Sr (p : Nat → Nat → Bool) (m i : Nat) (ts : List Nat) (V : Nat → Bool) : Prop where
  todo : ∀ t, t ∈ ts → t < m ∧ (t = i ∨ V t = true)
  sound : ∀ b, V b = true → b < m ∧ Rch p i b
  full : ∀ x, (x = i ∨ V x = true) → x ∈ ts ∨ ∀ b, b < m → p x b = true → V b = true
/-- x was taken; its steps under j were gone -/
structure Sr2 (p : Nat → Nat → Bool) (m i x j : Nat) (ts : List Nat) (V : Nat → Bool) : Prop where
  todo : ∀ t, t ∈ ts → t < m ∧ (t = i ∨ V t = true)
  sound : ∀ b, V b = true → b < m ∧ Rch p i b
  at' : x < m ∧ (x = i ∨ V x = true)
  full : ∀ y, (y = i ∨ V y = true) → y ∈ ts ∨ (∀ b, b < m → p y b = true → V b = true) ∨ y = x
  part : ∀ b, b < j → p x b = true → V b = true
theorem Sr.start (p : Nat → Nat → Bool) (m i : Nat) (hi : i < m) : Sr p m i [i] (fun _ => false) :=
  ⟨fun t ht => by rw [List.mem_singleton] at ht; subst ht; exact ⟨hi, .inl rfl⟩, fun b h => (by cases h), fun x hx => (by
    rcases hx with rfl | h
    · exact .inl (by simp)
    · cases h)⟩
theorem Sr.pop {p : Nat → Nat → Bool} {m i x : Nat} {ts : List Nat} {V : Nat → Bool} (h : Sr p m i (ts ++ [x]) V) : Sr2 p m i x 0 ts V :=
  ⟨fun t ht => h.todo t (by simp [ht]), h.sound, h.todo x (by simp), fun y hy => by
    rcases h.full y hy with h1 | h1
    · rw [List.mem_append, List.mem_singleton] at h1
      rcases h1 with h1 | h1
      · exact .inl h1
      · exact .inr (.inr h1)
    · exact .inr (.inl h1), fun b hb => by omega⟩
theorem Sr2.push {p : Nat → Nat → Bool} {m i x j : Nat} {ts : List Nat} {V : Nat → Bool} (h : Sr2 p m i x j ts V) (hj : j < m) (hp : p x j = true) : Sr2 p m i x (j + 1) (ts ++ [j]) (fun b => V b || decide (b = j)) := by
  refine ⟨fun t ht => ?_, fun b hb => ?_, ⟨h.at'.1, ?_⟩, fun y hy => ?_, fun b hb hpb => ?_⟩
  · rw [List.mem_append, List.mem_singleton] at ht
    rcases ht with ht | rfl
    · have := h.todo t ht; refine ⟨this.1, ?_⟩; rcases this.2 with h | h; exact .inl h; exact .inr (by simp [h])
    · exact ⟨hj, .inr (by simp)⟩
  · simp only [Bool.or_eq_true, decide_eq_true_eq] at hb
    rcases hb with hb | rfl
    · exact h.sound b hb
    · refine ⟨hj, ?_⟩
      rcases h.at'.2 with rfl | hx
      · exact .one hp
      · exact .more (h.sound x hx).2 hp
  · rcases h.at'.2 with hx | hx; exact .inl hx; exact .inr (by simp [hx])
  · simp only [Bool.or_eq_true, decide_eq_true_eq] at hy
    have key : (y = i ∨ V y = true) → y ∈ ts ++ [j] ∨ (∀ b, b < m → p y b = true → (V b || decide (b = j)) = true) ∨ y = x := fun hy => by
      rcases h.full y hy with h1 | h1 | h1
      · exact .inl (by simp [h1])
      · exact .inr (.inl fun b hb hpb => by simp [h1 b hb hpb])
      · exact .inr (.inr h1)
    rcases hy with hy | hy | rfl
    · exact key (.inl hy)
    · exact key (.inr hy)
    · exact .inl (by simp)
  · by_cases hbj : b < j
    · simp [h.part b hbj hpb]
    · simp [show b = j from by omega]
theorem Sr2.skip {p : Nat → Nat → Bool} {m i x j : Nat} {ts : List Nat} {V : Nat → Bool} (h : Sr2 p m i x j ts V) (hp : (p x j && !V j) = false) : Sr2 p m i x (j + 1) ts V :=
  ⟨h.todo, h.sound, h.at', h.full, fun b hb hpb => by
    by_cases hbj : b < j
    · exact h.part b hbj hpb
    · obtain rfl : b = j := by omega
      rw [hpb] at hp; simpa using hp⟩
theorem Sr2.done {p : Nat → Nat → Bool} {m i x : Nat} {ts : List Nat} {V : Nat → Bool} (h : Sr2 p m i x m ts V) : Sr p m i ts V :=
  ⟨h.todo, h.sound, fun y hy => by
    rcases h.full y hy with h1 | h1 | rfl
    · exact .inl h1
    · exact .inr h1
    · exact .inr fun b hb hpb => h.part b hb hpb⟩
theorem Sr.all {p : Nat → Nat → Bool} {m i : Nat} {V : Nat → Bool} (h : Sr p m i [] V) (hp : ∀ a b, p a b = true → b < m) (b : Nat) : V b = true ↔ Rch p i b := by
  refine ⟨fun hb => (h.sound b hb).2, fun hr => ?_⟩
  have cl : ∀ x, (x = i ∨ V x = true) → ∀ b, p x b = true → V b = true := fun x hx b hb => by
    rcases h.full x hx with h1 | h1
    · cases h1
    · exact h1 b (hp _ _ hb) hb
  induction hr with
  | one h1 => exact cl i (.inl rfl) _ h1
  | more _ h1 ih => exact cl _ (.inr ih) _ h1
end Go.Rl
end

section
/- The walk of the reference's Plus (by search). -/
namespace Go.Eng
open Go Go.RowKit
/-- the first so many of what is ours, and no more of it -/
theorem Mem.cutOwn {τ : Type} {enc : τ → List Value} {sz tt : Nat} {v : Value} {xs : List τ} {bs : List Base} {H : List Ent} {w : World} [he : Enc enc sz] (hw : Mem bs H w) (k : Nat) (hk : H[k]? = some (.own v tt sz enc xs)) (n : Nat) (hn : n ≤ xs.length) :
    Mem bs (H.set k (.own (cutV n v) tt sz enc (xs.take n))) w := by
  have ho : (Ent.own v tt sz enc xs).ok w := hw.own _ (List.mem_of_getElem? hk)
  have hfp : (Ent.own (cutV n v) tt sz enc (xs.take n)).fp = (Ent.own v tt sz enc xs).fp := by
    cases v with
    | slice a _ _ => cases a <;> rfl
    | _ => rfl
  refine hw.upd hk rfl rfl rfl (Nat.le_refl _) (fun _ _ _ => rfl) ?_ (fun q hq => ?_) (fun q hq => .inl (by rw [← hfp]; exact hq))
  · obtain ⟨h1, h2⟩ := ho
    have hlen : (xs.take n).length = n := by rw [List.length_take]; omega
    refine ⟨by rw [flatMap_length], ?_⟩
    rcases h2 with ⟨hv, h0⟩ | ⟨g, cap, cur, hv, hg, hh, h3, h4, h5, h6⟩
    · subst hv
      rw [hlen]
      obtain rfl : n = 0 := by omega
      exact .inl ⟨rfl, rfl⟩
    · subst hv
      rw [hlen]
      refine .inr ⟨g, cap, cur, rfl, hg, hh, by omega, h4, h5, ?_⟩
      rw [← flatMap_take xs n hn, ← h6, List.take_take, Nat.min_eq_left (Nat.mul_le_mul_right _ hn)]
  · rw [hfp] at hq; exact hw.inb _ (List.mem_of_getElem? hk) q hq
end Go.Eng
namespace Go.Proofs.YtifgncgiiojikaaGreatDoor
open Go Go.Eng Go.Rl
attribute [local irreducible] wpList Code.wp bodyPost Exit.then Exit.inBlock Calls

def ints (ts : List Nat) : List Int := ts.map fun (t : Nat) => (t : Int)

theorem ints_snoc (us : List Nat) (j : Nat) : ints (us ++ [j]) = ints us ++ [(j : Int)] := by simp [ints]

end Go.Proofs.YtifgncgiiojikaaGreatDoor
end

section
/- THE WALK of RelAsks. -/
namespace Go.Proofs.YtifgncgiiojikaaGreatDoor
open Go Go.Eng Go.Rl
attribute [local irreducible] wpList Code.wp bodyPost Exit.then Exit.inBlock Calls

theorem lendC {bs : List Base} {H : List Ent} {w : World} {cv : Value} {rows : List W} (hw : Mem bs H w) (hm : ownW cv (rows ++ marks) ∈ H) : Sl All w encW 1 (cutV rows.length cv) rows := by
  have := hw.lendCut hm rows.length (by simp)
  simpa using this

end Go.Proofs.YtifgncgiiojikaaGreatDoor
end

section
/- Plain: the algebra of relations that may be; the contracts for these. -/
namespace Go.Rl
open Go.Eng
def uni (m : Nat) (a b : List W) : List W := relOf m fun i j => bt a i j || bt b i j
def bth (m : Nat) (a b : List W) : List W := relOf m fun i j => bt a i j && bt b i j
def les (m : Nat) (a b : List W) : List W := relOf m fun i j => bt a i j && !bt b i j
def thn (m : Nat) (a b : List W) : List W := relOf m (thenP m a b)
def bck (m : Nat) (a : List W) : List W := relOf m fun i j => bt a j i

theorem erTwo_ok {m : Nat} {a b : List W} (oa : relOk m a = true) (ob : relOk m b = true) : erTwo m a m b = 0 := by unfold erTwo; simp [oa, ob]
theorem relOk_le {m : Nat} {a : List W} (oa : relOk m a = true) : m ≤ 64 := by obtain ⟨m', h, h64, _⟩ := relOk_nat oa; omega
theorem relOk_len {m : Nat} {a : List W} (oa : relOk m a = true) : a.length = m := by obtain ⟨m', h, _, h2⟩ := relOk_nat oa; omega

theorem relOf_bt (m : Nat) (p : Nat → Nat → Bool) (h : m ≤ 64) (i j : Nat) (hi : i < m) (hj : j < m) : bt (relOf m p) i j = p i j := by rw [relOf_bit m p h]; simp [hi, hj]
theorem thenP_iff (m : Nat) (a b : List W) (i k : Nat) : thenP m a b i k = true ↔ ∃ j, j < m ∧ bt a i j = true ∧ bt b j k = true := by
  unfold thenP
  rw [List.any_eq_true]
  constructor
  · rintro ⟨j, hj, h⟩; rw [Bool.and_eq_true] at h; exact ⟨j, List.mem_range.1 hj, h⟩
  · rintro ⟨j, hj, h⟩; exact ⟨j, List.mem_range.2 hj, by rw [h.1, h.2]; rfl⟩

theorem uni_comm (m : Nat) (a b : List W) : uni m a b = uni m b a := relOf_ext fun i j _ _ => Bool.or_comm _ _
theorem bth_comm (m : Nat) (a b : List W) : bth m a b = bth m b a := relOf_ext fun i j _ _ => Bool.and_comm _ _
theorem uni_assoc (m : Nat) (a b c : List W) (h : m ≤ 64) : uni m (uni m a b) c = uni m a (uni m b c) := relOf_ext fun i j hi hj => by
  unfold uni; rw [relOf_bt m _ h i j hi hj, relOf_bt m _ h i j hi hj, Bool.or_assoc]
theorem thn_assoc (m : Nat) (a b c : List W) (h : m ≤ 64) : thn m (thn m a b) c = thn m a (thn m b c) := relOf_ext fun i k hi hk => by
  rw [Bool.eq_iff_iff, thenP_iff, thenP_iff]
  unfold thn
  constructor
  · rintro ⟨j, hj, h1, h2⟩
    rw [relOf_bt m _ h i j hi hj, thenP_iff] at h1
    obtain ⟨q, hq, h3, h4⟩ := h1
    exact ⟨q, hq, h3, by rw [relOf_bt m _ h q k hq hk, thenP_iff]; exact ⟨j, hj, h4, h2⟩⟩
  · rintro ⟨j, hj, h1, h2⟩
    rw [relOf_bt m _ h j k hj hk, thenP_iff] at h2
    obtain ⟨q, hq, h3, h4⟩ := h2
    exact ⟨q, hq, by rw [relOf_bt m _ h i q hi hq, thenP_iff]; exact ⟨j, hj, h1, h3⟩, h4⟩
theorem thn_uni (m : Nat) (a b c : List W) (h : m ≤ 64) : thn m a (uni m b c) = uni m (thn m a b) (thn m a c) := by
  unfold thn
  refine relOf_ext fun i k hi hk => ?_
  rw [relOf_bt m _ h i k hi hk, relOf_bt m _ h i k hi hk, Bool.eq_iff_iff, Bool.or_eq_true, thenP_iff, thenP_iff, thenP_iff]
  unfold uni
  constructor
  · rintro ⟨j, hj, h1, h2⟩
    rw [relOf_bt m _ h j k hj hk, Bool.or_eq_true] at h2
    rcases h2 with h2 | h2
    · exact .inl ⟨j, hj, h1, h2⟩
    · exact .inr ⟨j, hj, h1, h2⟩
  · rintro (⟨j, hj, h1, h2⟩ | ⟨j, hj, h1, h2⟩)
    · exact ⟨j, hj, h1, by rw [relOf_bt m _ h j k hj hk, h2]; rfl⟩
    · exact ⟨j, hj, h1, by rw [relOf_bt m _ h j k hj hk, h2, Bool.or_true]⟩
theorem bck_thn (m : Nat) (a b : List W) (h : m ≤ 64) : bck m (thn m a b) = thn m (bck m b) (bck m a) := by
  unfold bck
  refine relOf_ext fun i k hi hk => ?_
  unfold thn
  rw [relOf_bt m _ h k i hk hi, Bool.eq_iff_iff, thenP_iff, thenP_iff]
  constructor
  · rintro ⟨j, hj, h1, h2⟩
    exact ⟨j, hj, by rw [relOf_bt m _ h i j hi hj]; exact h2, by rw [relOf_bt m _ h j k hj hk]; exact h1⟩
  · rintro ⟨j, hj, h1, h2⟩
    rw [relOf_bt m _ h i j hi hj] at h1
    rw [relOf_bt m _ h j k hj hk] at h2
    exact ⟨j, hj, h2, h1⟩
end Go.Rl
namespace Go.Proofs.YtifgncgiiojikaaGreatDoor
open Go Go.Eng Go.Rl

section
variable {m : Nat} {sa sb : Value} {a b : List W} {w : World} (oa : relOk m a = true) (ob : relOk m b = true) (ha : Sl All w encW 1 sa a) (hb : Sl All w encW 1 sb b)
include oa ob ha hb
theorem union_ok : Mk Tryz.prog 42 [.agg #[.int .i64 m, sa], .agg #[.int .i64 m, sb]] w (RelΨ m (uni m a b) 0) := by
  have := union_all m sa a m sb b w ha hb
  unfold mixS at this; rw [erTwo_ok oa ob] at this; exact this
end
section
variable {m : Nat} {sa : Value} {a : List W} {w : World} (oa : relOk m a = true) (ha : Sl All w encW 1 sa a)
include oa ha
end
end Go.Proofs.YtifgncgiiojikaaGreatDoor
end
