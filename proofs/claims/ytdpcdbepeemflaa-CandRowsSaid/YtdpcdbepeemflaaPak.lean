/- Engine: entries together as one; any order of entries; an append whose old slice stays in use. -/
import Derived.Test.YtdpcdbepeemflaaG06
set_option linter.unusedSimpArgs false
set_option linter.unusedVariables false
namespace Go.Eng
open Go Go.RowKit
/-- entries together as one -/
def packL (L : List Ent) : Ent := .gen (L.flatMap Ent.fp) (Mem [] L)
theorem packL_ok {L : List Ent} {w : World} (h : Mem [] L w) : (packL L).ok w := fun w' hs => by
  refine ⟨fun B hB => ?_, fun e he => Ent.ok_same (h.own e he) fun k hk => hs k (List.mem_flatMap.2 ⟨e, he, hk⟩), fun e he k hk => ?_, fun B hB => ?_, h.disj⟩
  · cases hB
  · have h1 := hs k (List.mem_flatMap.2 ⟨e, he, hk⟩)
    have h2 := h.inb e he k hk
    rcases Nat.lt_or_ge k w'.heap.size with h3 | h3
    · exact h3
    · rw [Array.getElem?_eq_none h3, Array.getElem?_eq_getElem h2] at h1; cases h1
  · cases hB
theorem Mem.pack {bs : List Base} {L H : List Ent} {w : World} (h : Mem bs (L ++ H) w) : Mem bs (packL L :: H) w := by
  have hL : Mem [] L w := h.app_l.nob
  have fp : ∀ k, k ∈ (packL L).fp → ∃ (a : Nat) (e : Ent), L[a]? = some e ∧ k ∈ e.fp := fun k hk => by
    obtain ⟨e, he, hk⟩ := List.mem_flatMap.1 (show k ∈ L.flatMap Ent.fp from hk)
    obtain ⟨a, ha⟩ := List.getElem?_of_mem he
    exact ⟨a, e, ha, hk⟩
  have inL : ∀ {a : Nat} {e : Ent}, L[a]? = some e → (L ++ H)[a]? = some e ∧ a < L.length := fun {a e} ha => by
    have hlt := (List.getElem?_eq_some_iff.1 ha).1
    exact ⟨by rw [List.getElem?_append_left hlt]; exact ha, hlt⟩
  have inH : ∀ {j : Nat} {e : Ent}, H[j]? = some e → (L ++ H)[L.length + j]? = some e := fun {j e} hj => by rw [get_right]; exact hj
  refine ⟨h.base, fun e he => ?_, fun e he k hk => ?_, fun B hB e he k hk hS => ?_, fun i j ei ej hij hi hj k hk hk' => ?_⟩
  · rcases List.mem_cons.1 he with rfl | he
    · exact packL_ok hL
    · exact h.own e (List.mem_append_right _ he)
  · rcases List.mem_cons.1 he with rfl | he
    · obtain ⟨a, e, ha, hk⟩ := fp k hk
      exact h.inb e (List.mem_append_left _ (List.mem_of_getElem? ha)) k hk
    · exact h.inb e (List.mem_append_right _ he) k hk
  · rcases List.mem_cons.1 he with rfl | he
    · obtain ⟨a, e, ha, hk⟩ := fp k hk
      exact h.apart B hB e (List.mem_append_left _ (List.mem_of_getElem? ha)) k hk hS
    · exact h.apart B hB e (List.mem_append_right _ he) k hk hS
  · cases i with
    | zero =>
      cases j with
      | zero => exact hij rfl
      | succ j =>
        simp only [List.getElem?_cons_zero, Option.some.injEq] at hi
        subst hi
        rw [List.getElem?_cons_succ] at hj
        obtain ⟨a, e, ha, hk⟩ := fp k hk
        exact h.disj a (L.length + j) e ej (by have := (inL ha).2; omega) (inL ha).1 (inH hj) k hk hk'
    | succ i =>
      rw [List.getElem?_cons_succ] at hi
      cases j with
      | zero =>
        simp only [List.getElem?_cons_zero, Option.some.injEq] at hj
        subst hj
        obtain ⟨a, e, ha, hk'⟩ := fp k hk'
        exact h.disj (L.length + i) a ei e (by have := (inL ha).2; omega) (inH hi) (inL ha).1 k hk hk'
      | succ j =>
        rw [List.getElem?_cons_succ] at hj
        exact h.disj (L.length + i) (L.length + j) ei ej (by omega) (inH hi) (inH hj) k hk hk'
theorem Mem.unpack {bs : List Base} {L H : List Ent} {w : World} (h : Mem bs (packL L :: H) w) : Mem bs (L ++ H) w := by
  have h0 : Mem [] L w := h.own _ (.head _) w fun _ _ => rfl
  have fp : ∀ {e : Ent} {k : Nat}, e ∈ L → k ∈ e.fp → k ∈ (packL L).fp := fun {e k} he hk => List.mem_flatMap.2 ⟨e, he, hk⟩
  have cut : ∀ {i : Nat} {e : Ent}, (L ++ H)[i]? = some e → (i < L.length ∧ L[i]? = some e) ∨ (L.length ≤ i ∧ H[i - L.length]? = some e) := fun {i e} hi => by
    by_cases q : i < L.length
    · rw [List.getElem?_append_left q] at hi; exact .inl ⟨q, hi⟩
    · rw [List.getElem?_append_right (by omega)] at hi; exact .inr ⟨by omega, hi⟩
  refine ⟨h.base, fun e he => ?_, fun e he k hk => ?_, fun B hB e he k hk hS => ?_, fun i j ei ej hij hi hj k hk hk' => ?_⟩
  · rcases List.mem_append.1 he with he | he
    · exact h0.own e he
    · exact h.own e (.tail _ he)
  · rcases List.mem_append.1 he with he | he
    · exact h0.inb e he k hk
    · exact h.inb e (.tail _ he) k hk
  · rcases List.mem_append.1 he with he | he
    · exact h.apart B hB _ (.head _) k (fp he hk) hS
    · exact h.apart B hB e (.tail _ he) k hk hS
  · rcases cut hi with ⟨q1, hi⟩ | ⟨q1, hi⟩ <;> rcases cut hj with ⟨q2, hj⟩ | ⟨q2, hj⟩
    · exact h0.disj i j ei ej hij hi hj k hk hk'
    · exact h.disj 0 (j - L.length + 1) (packL L) ej (by omega) rfl (by rw [List.getElem?_cons_succ]; exact hj) k (fp (List.mem_of_getElem? hi) hk) hk'
    · exact h.disj 0 (i - L.length + 1) (packL L) ei (by omega) rfl (by rw [List.getElem?_cons_succ]; exact hi) k (fp (List.mem_of_getElem? hj) hk') hk
    · exact h.disj (i - L.length + 1) (j - L.length + 1) ei ej (by omega) (by rw [List.getElem?_cons_succ]; exact hi) (by rw [List.getElem?_cons_succ]; exact hj) k hk hk'
theorem Mem.cutMine {τ : Type} {enc : τ → List Value} {sz tt : Nat} {v : Value} {xs : List τ} {bs : List Base} {H : List Ent} {w : World} [he : Enc enc sz] (hw : Mem bs H w) (k : Nat) (hk : H[k]? = some (.own v tt sz enc xs)) (n : Nat) (hn : n ≤ xs.length) :
    Mem bs (H.set k (.own (cutV n v) tt sz enc (xs.take n))) w := by
  have ho : (Ent.own v tt sz enc xs).ok w := hw.own _ (List.mem_of_getElem? hk)
  have hfp : (Ent.own (cutV n v) tt sz enc (xs.take n)).fp = (Ent.own v tt sz enc xs).fp := by
    cases v with
    | slice a _ _ => cases a <;> rfl
    | _ => rfl
  refine hw.upd hk rfl rfl rfl (Nat.le_refl _) (fun _ _ _ => rfl) ?_ (fun q hq => ?_) (fun q hq => .inl (by rw [← hfp]; exact hq))
  · obtain ⟨h1, h2⟩ := ho
    have hlen : (xs.take n).length = n := by rw [List.length_take]; omega
    refine ⟨by rw [flatMap_length], ?_⟩
    rcases h2 with ⟨hv, h0⟩ | ⟨g, cap, cur, hv, hg, hh, h3, h4, h5, h6⟩
    · subst hv
      rw [hlen]
      obtain rfl : n = 0 := by omega
      exact .inl ⟨rfl, rfl⟩
    · subst hv
      rw [hlen]
      refine .inr ⟨g, cap, cur, rfl, hg, hh, by omega, h4, h5, ?_⟩
      rw [← flatMap_take xs n hn, ← h6, List.take_take, Nat.min_eq_left (Nat.mul_le_mul_right _ hn)]
  · rw [hfp] at hq; exact hw.inb _ (List.mem_of_getElem? hk) q hq
/-- what a callee made is handed on -/
theorem Mem.pass {τ : Type} {enc : τ → List Value} {sz n m : Nat} {v : Value} {xs : List τ} {B w' : World} {bs : List Base} {H : List Ent} [he : Enc enc sz] (hw : Mem bs H w') (h : Sl (Fr n) B enc sz v xs) (hB : (B, Fr n) ∈ bs) (hm : m ≤ n) : Sl (Fr m) w' enc sz v xs :=
  h.mono (hw.base _ hB) (fun k _ hk => Nat.le_trans hm hk) (fun x _ => he.ne x)
theorem Mem.pass2 {n m : Nat} {v : Value} {xss : List (List Int)} {B w' : World} {bs : List Base} {H : List Ent} (hw : Mem bs H w') (h : Sl2 (Fr n) B v xss) (hB : (B, Fr n) ∈ bs) (hm : m ≤ n) : Sl2 (Fr m) w' v xss := by
  obtain ⟨vs, h1, h2, h3⟩ := h
  exact ⟨vs, hw.pass h1 hB hm, h2, fun i hi => hw.pass (h3 i hi) hB hm⟩
theorem Pur.size {P : Program} {k : FuncId} {args : List Value} {w : World} {Φ : Nat → Value → World → Prop} {m : Nat} (h : Pur P k args w Φ) (hm : m ≤ w.heap.size) : Pur P k args w fun n v w' => Φ n v w' ∧ m ≤ n := by
  unfold Pur at *
  refine Calls.mono h fun x w' h' => ?_
  unfold PurR at *
  obtain ⟨v, h1, h2, h3⟩ := h'
  exact ⟨v, h1, h2, h3, hm⟩
theorem Mem.dropB1 {A B : Base} {bs : List Base} {H : List Ent} {w : World} (h : Mem (A :: B :: bs) H w) : Mem (A :: bs) H w :=
  ⟨fun C hC => h.base C (by rcases List.mem_cons.1 hC with rfl | hC; exact .head _; exact .tail _ (.tail _ hC)), h.own, h.inb, fun C hC => h.apart C (by rcases List.mem_cons.1 hC with rfl | hC; exact .head _; exact .tail _ (.tail _ hC)), h.disj⟩
theorem Mem.sz {S : Nat → Prop} {B w : World} {bs : List Base} {H : List Ent} (hw : Mem bs H w) (hB : (B, S) ∈ bs) : B.heap.size ≤ w.heap.size := (hw.base _ hB).size
theorem svN : SV (.slice none 0 0) := ⟨_, _, _, rfl⟩
/-- entries in any other order -/
theorem Mem.perm {bs : List Base} {H H' : List Ent} {w : World} (h : Mem bs H w) (hp : H.Perm H') : Mem bs H' w := by
  have key : ∀ l : List Ent, (∀ (i j : Nat) (ei ej : Ent), i ≠ j → l[i]? = some ei → l[j]? = some ej → ∀ k, k ∈ ei.fp → k ∈ ej.fp → False) ↔ l.Pairwise fun a b => ∀ k, k ∈ a.fp → k ∈ b.fp → False := fun l => by
    rw [List.pairwise_iff_getElem]
    constructor
    · intro h i j hi hj hij k
      exact h i j _ _ (by omega) (List.getElem?_eq_getElem hi) (List.getElem?_eq_getElem hj) k
    · intro h i j ei ej hij hi hj k hk hk'
      obtain ⟨qi, rfl⟩ := List.getElem?_eq_some_iff.1 hi
      obtain ⟨qj, rfl⟩ := List.getElem?_eq_some_iff.1 hj
      rcases Nat.lt_or_ge i j with q | q
      · exact h i j qi qj q k hk hk'
      · exact h j i qj qi (by omega) k hk' hk
  refine ⟨h.base, fun e he => h.own e (hp.mem_iff.2 he), fun e he => h.inb e (hp.mem_iff.2 he), fun B hB e he => h.apart B hB e (hp.mem_iff.2 he), ?_⟩
  rw [key]
  exact (hp.pairwise_iff (fun {a b} h k hk hk' => h k hk' hk)).1 ((key H).1 h.disj)
/-- one entry to the front -/
theorem Mem.front {bs : List Base} {H : List Ent} {w : World} (h : Mem bs H w) (k : Nat) {e : Ent} (hk : H[k]? = some e) : Mem bs (e :: H.eraseIdx k) w := by
  obtain ⟨q, rfl⟩ := List.getElem?_eq_some_iff.1 hk
  refine h.perm ?_
  rw [List.eraseIdx_eq_take_drop_succ]
  have e : H = H.take k ++ H[k] :: H.drop (k + 1) := by rw [← List.drop_eq_getElem_cons q, List.take_append_drop]
  exact (List.Perm.of_eq e).trans List.perm_middle
/-- and back to its place -/
theorem Mem.home {bs : List Base} {H : List Ent} {w : World} {e : Ent} (k : Nat) (hk : k < H.length) (h : Mem bs (e :: H.eraseIdx k) w) : Mem bs (H.set k e) w := by
  refine h.perm ?_
  rw [List.eraseIdx_eq_take_drop_succ, List.set_eq_take_append_cons_drop, if_pos hk]
  exact List.perm_middle.symm
/-- a nested slice that is owned -/
def pack2 (t t' : TypeId) (v : Value) (vs : List Value) (xss : List (List Int)) : Ent := packL (.own v t' 1 encV vs :: inner t vs xss)
theorem Mem.lend2 {bs : List Base} {H : List Ent} {w' : World} {t t' : TypeId} {v : Value} {vs : List Value} {xss : List (List Int)} (hw : Mem bs H w') (ho : pack2 t t' v vs xss ∈ H) (hl : vs.length = xss.length) : Sl2 All w' v xss := by
  have h0 : Mem [] (.own v t' 1 encV vs :: inner t vs xss) w' := hw.own _ ho w' fun _ _ => rfl
  exact ⟨vs, h0.lend (.head _), hl, fun i hi => h0.lend (.tail _ (inner_mem t hl (by omega)))⟩

section
variable {P : Program} {N : Nat} {tm : Tm} {bs : List Base} {H : List Ent} {Q : Exit → Act → World → Prop} {K : Act → World → Prop}
theorem grown_new (w : World) (o : Obj) : w.grownBy (w.drew.alloc o) none := by
  refine ⟨rfl, rfl, rfl, ?_, fun k hk _ => ?_⟩
  · exact (((Below.refl w.heap.size w).drew).alloc (Nat.le_refl _) o).size
  · exact (((Below.refl w.heap.size w).drew).alloc (Nat.le_refl _) o).block k hk
/-- an append: in place, or into new memory -/
theorem append_keep {t ty e sz b : Nat} {z : Value} (w : World) [ht : TSl P t e] [hE : TE P e sz b z] (hzs : z.cells.size = sz) (hsz : 0 < sz)
    {v : Value} {n : Nat} {xs : List Value} (hown : w.ownsRow 0 e sz v n xs) {A : Addr} {m c : Nat} {news : List Value} (hm : 0 < m) (hl : news.length = m * sz)
    (hnews : ∀ j u, news[j]? = some u → w.cell? (A.add j) = some u) (h1 : ∀ u, u ∈ news → u.oneCell' = true)
    (h63 : n + m ≤ maxLen) (hbytes : (n + m) * b ≤ 140737488355328) :
    ∃ v' w', (Builtin.append_ #[t, t] ty #[v, .slice (some A) m c]).run P w = .ok v' w' ∧ w'.ownsRow 0 e sz v' (n + m) (xs ++ news) ∧
      (cutV n v' = v ∧ v'.ownBlock = v.ownBlock ∧ w.grownBy w' v.ownBlock ∨ v'.ownBlock = some w.heap.size ∧ w.grownBy w' none) ∧ (∀ k, k ∈ v'.ownBlock.toList → k < w'.heap.size) := by
  obtain ⟨v', w', hr, ho, hg, hf, hi', _⟩ := append_own (P := P) (t := t) (ty := ty) (a := some A) (c := c) w hzs hsz hown hl (fun A' e => by injection e with e; subst e; exact hnews) (fun h => by cases h) h1 h63 hbytes
  refine ⟨v', w', hr, ho, ?_, hi'⟩
  obtain ⟨i, hi, his, hib, hiz⟩ := hE.h
  subst his
  have hsmall : n + m ≤ 9223372036854775807 := by simp only [maxLen] at h63; omega
  rcases hown.2 with ⟨rfl, rfl⟩ | ⟨g, cap, cur, rfl, hbg, hg2, hnc, hcm, hcs, htake⟩
  · have hr2 := run_append_nil (P := P) w t ty e i z ht.h hi hiz A m c news hl hnews hm (by omega) (by have hb := hbytes; simp only [Nat.zero_add] at hb; rw [hib]; omega)
    rw [hr2] at hr
    injection hr with hr hw'
    subst hr; subst hw'
    exact .inr ⟨rfl, grown_new _ _⟩
  · by_cases hroom : n + m ≤ cap
    · have hfit : n * i.size + news.length ≤ cur.size := by rw [hl, hcs, ← Nat.add_mul]; exact Nat.mul_le_mul_right _ hroom
      have hr2 := run_append_room (P := P) w t ty e i ht.h hi g n cap cur hg2 A m c news hl hnews h1 hroom hfit
      rw [hr2] at hr
      injection hr with hr _
      subst hr
      exact .inl ⟨rfl, rfl, hg⟩
    · have holds : ∀ j u, xs[j]? = some u → w.cell? ((⟨g, 0, none⟩ : Addr).add j) = some u := hown.cells (g := g) rfl
      have hr2 := run_append_grow (P := P) w t ty e i z ht.h hi hiz ⟨g, 0, none⟩ n cap xs hown.1 holds A m c news hl hnews (by omega) (by omega) (by rw [hib]; exact growslice_fits (by omega) hbytes)
      rw [hr2] at hr
      injection hr with hr hw'
      subst hr; subst hw'
      exact .inr ⟨rfl, grown_new _ _⟩
/-- an append to what is ours, whose old slice stays in use: in place, or into new memory -/
theorem fx_append_keep {τ : Type} {enc : τ → List Value} {dec : List Value → τ} {ok : τ → Prop} {d t e sz b k tt : Nat} {z v u : Value} {x y : Operand} {xs ys : List τ} [ht : TSl P t e] [hE : TE P e sz b z] [EncOf P e enc dec] [he : Enc enc sz] [h1 : EncOne enc ok]
    (hx : EV tm true x v := by exact ⟨_, rfl, fun _ => rfl⟩) (hy : EV tm true y u := by exact ⟨_, rfl, fun _ => rfl⟩) (hk : H[k]? = some (.own v e sz enc xs)) (hm : Ent.own u tt sz enc ys ∈ H) (h0 : 0 < ys.length) (hz : Nat.beq z.cells.size sz = true := by rfl)
    (hok : ∀ y, y ∈ ys → ok y := by (intros; trivial))
    (hlen : (xs.length + ys.length) * b ≤ 140737488355328 ∧ xs.length + ys.length ≤ 9223372036854775807 := by omega) (hd : Nat.blt d N = true := by rfl)
    (next1 : ∀ v', SV v' → cutV xs.length v' = v → KP N K ((d, true, v') :: tm) (Mem bs (H.set k (.own v' e sz enc (xs ++ ys)))))
    (next2 : ∀ v', SV v' → KP N K ((d, true, v') :: tm) (Mem bs (.own v' e sz enc (xs ++ ys) :: H))) : FX P N (.call { callee := .builtin .append, args := #[x, y], argTypes := #[t, t] }) (some d) Q tm (Mem bs H) K := by
  unfold FX
  unfold KP at next1 next2
  intro a w ty pos aft g hs hw
  unfold Oper.wp
  have ho2 := hw.own _ hm
  obtain ⟨a', c', rfl, hso, _⟩ := own_is ho2
  obtain ⟨A, rfl⟩ := Option.isSome_iff_exists.1 (hso h0)
  have hown := hw.own _ (List.mem_of_getElem? hk)
  obtain ⟨v', w', hr, ho, hg, hi⟩ := append_keep (P := P) (t := t) (ty := ty) (A := A) (c := c') w (Nat.eq_of_beq_eq_true hz) he.pos hown (m := ys.length) (news := ys.flatMap enc) h0 (flatMap_length ys) (own_flat ho2 A rfl)
    (fun q hq => by obtain ⟨y, hy, hq⟩ := List.mem_flatMap.1 hq; exact h1.one y (hok y hy) q hq) (by unfold maxLen; omega) hlen.1
  have hr' : (execOp a.eval ⟨some d, .call { callee := .builtin .append, args := #[x, y], argTypes := #[t, t] }, ty, pos, aft, g⟩).run P w = .ok (.value v') w' := by
    simp [execOp, resolve, invoke, builtin, hx.get hs rfl, hy.get hs rfl, hr]
  rw [hr']
  have hsv : SV v' := by
    rcases ho.2 with ⟨rfl, _⟩ | ⟨g, cap, cur, rfl, _⟩
    · exact ⟨_, _, _, rfl⟩
    · exact ⟨_, _, _, rfl⟩
  have hok' : (Ent.own v' e sz enc (xs ++ ys)).ok w' := by
    show w'.ownsRow 0 e sz v' (xs ++ ys).length ((xs ++ ys).flatMap enc)
    rw [List.length_append, List.flatMap_append]
    exact ho
  rcases hg with ⟨hc, hb, hg⟩ | ⟨hb, hg⟩
  · refine next1 v' hsv hc _ _ (by simpa using hs.put (Nat.ble_eq.mp hd) true _) ?_
    refine hw.upd hk hg.os hg.tape hg.output hg.size (fun q hq hn => hg.block q hq (fun e => hn ?_)) hok' hi (fun k hk => .inl ?_)
    · simp only [Ent.fp, Option.mem_toList]; exact e.symm
    · have hk' : k ∈ v'.ownBlock.toList := hk
      rw [hb] at hk'; exact hk'
  · refine next2 v' hsv _ _ (by simpa using hs.put (Nat.ble_eq.mp hd) true _) ?_
    refine hw.new hg.os hg.tape hg.output hg.size (fun q hq => hg.block q hq (by simp)) hok' hi (fun k hk => ?_)
    have hk' : k ∈ v'.ownBlock.toList := hk
    rw [hb] at hk'
    simp at hk'
    omega
/-- an append of what is read or lent, to what is ours -/
theorem fx_append_src {τ : Type} {enc : τ → List Value} {dec : List Value → τ} {ok : τ → Prop} {d t e sz b k : Nat} {z v u : Value} {x y : Operand} {xs ys : List τ} [ht : TSl P t e] [hE : TE P e sz b z] [EncOf P e enc dec] [he : Enc enc sz] [h1 : EncOne enc ok]
    (hx : EV tm true x v := by exact ⟨_, rfl, fun _ => rfl⟩) (hy : EV tm true y u := by exact ⟨_, rfl, fun _ => rfl⟩) (hk : H[k]? = some (.own v e sz enc xs)) (h : ∀ w, Mem bs H w → Sl All w enc sz u ys) (hz : Nat.beq z.cells.size sz = true := by rfl)
    (hok : ∀ y, y ∈ ys → ok y := by (intros; trivial))
    (hlen : (xs.length + ys.length) * b ≤ 140737488355328 ∧ xs.length + ys.length ≤ 9223372036854775807 := by omega) (hd : Nat.blt d N = true := by rfl)
    (next : ∀ v', SV v' → KP N K ((d, true, v') :: tm) (Mem bs (H.set k (.own v' e sz enc (xs ++ ys))))) : FX P N (.call { callee := .builtin .append, args := #[x, y], argTypes := #[t, t] }) (some d) Q tm (Mem bs H) K :=
  fx_append_any (dec := dec) (ok := ok) hx hy hk hz (fun w hw => by
    have hs := h w hw
    obtain ⟨a, n, cap, hu, hn, _, _, hso⟩ := hs.is
    subst hn; subst hu
    exact ⟨a, cap, rfl, zero_of_none hso, hs.flat⟩) hok hlen hd next
end
end Go.Eng
