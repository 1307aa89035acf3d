import Derived.Test.YtifgncgiiojikaaGreatDoorG09
import Derived.Test.YtifgncgiiojikaaGreatDoorG10
import Derived.Test.YtifgncgiiojikaaGreatDoorG12
import Derived.Test.YtifgncgiiojikaaGreatDoorG13
set_option linter.unusedSimpArgs false
set_option linter.unusedVariables false
set_option linter.unusedSectionVars false
section
/- Plain: what follows from a candidate; relations by lists of pairs. -/
namespace Go.Vw
open Go Go.Eng Go.Tc Go.Rl
def memb (l : List Pair) (i j : Nat) : Bool := decide ((⟨(i : Int), (j : Int)⟩ : Pair) ∈ l)
def InR (m : Nat) (l : List Pair) : Prop := ∀ x, x ∈ l → 0 ≤ x.A ∧ x.A < m ∧ 0 ≤ x.B ∧ x.B < m
theorem ofL_memb {m : Nat} (hm : m ≤ 64) : ∀ (l : List Pair) (p : Nat → Nat → Bool), InR m l → ofL m (relOf m p) l = some (relOf m fun i j => p i j || memb l i j)
  | [], p, _ => by
    unfold ofL
    rw [show relOf m p = relOf m fun i j => p i j || memb [] i j from relOf_ext fun a b _ _ => by simp [memb]]
  | x :: l, p, h => by
    obtain ⟨h1, h2, h3, h4⟩ := h x (.head _)
    unfold ofL
    rw [if_pos ⟨h1, h2, h3, h4⟩, put_relOf m p hm _ _ (by omega) (by omega), ofL_memb hm l _ (fun y hy => h y (.tail _ hy))]
    refine congrArg some (relOf_ext fun a b _ _ => ?_)
    rw [Bool.or_assoc]
    refine congrArg (p a b || ·) ?_
    rw [Bool.eq_iff_iff]
    simp only [memb, Bool.or_eq_true, Bool.and_eq_true, decide_eq_true_eq, List.mem_cons]
    obtain ⟨xa, xb⟩ := x
    simp only [Pair.mk.injEq] at *
    constructor
    · rintro (⟨e1, e2⟩ | e)
      · exact .inl ⟨by omega, by omega⟩
      · exact .inr e
    · rintro (⟨e1, e2⟩ | e)
      · exact .inl ⟨by omega, by omega⟩
      · exact .inr e
theorem ofS_memb {n : Nat} (hn : n ≤ 64) (l : List Pair) (h : InR n l) : ofS (n : Int) l = some (relOf n (memb l)) := by
  unfold ofS
  rw [if_pos (by omega), Int.toNat_natCast, ← relOf_zero, ofL_memb hn l _ h]
  exact congrArg some (relOf_ext fun a b _ _ => Bool.false_or _)

/-! the pairs of which something holds, by rows -/
def rowTo (q : Nat → Nat → Bool) (i n : Nat) : List Pair := (List.range n).flatMap fun (j : Nat) => if q i j = true then [(⟨(i : Int), (j : Int)⟩ : Pair)] else []
def lisTo (q : Nat → Nat → Bool) (n i : Nat) : List Pair := (List.range i).flatMap fun i => rowTo q i n
theorem rowTo_succ (q : Nat → Nat → Bool) (i n : Nat) : rowTo q i (n + 1) = rowTo q i n ++ if q i n = true then [(⟨(i : Int), (n : Int)⟩ : Pair)] else [] := by
  unfold rowTo; rw [List.range_succ, List.flatMap_append]; simp
theorem lisTo_succ (q : Nat → Nat → Bool) (n i : Nat) : lisTo q n (i + 1) = lisTo q n i ++ rowTo q i n := by
  unfold lisTo; rw [List.range_succ, List.flatMap_append]; simp
theorem rowTo_len (q : Nat → Nat → Bool) (i : Nat) : ∀ n, (rowTo q i n).length ≤ n
  | 0 => by simp [rowTo]
  | n + 1 => by
    rw [rowTo_succ, List.length_append]
    have := rowTo_len q i n
    split <;> simp <;> omega
theorem lisTo_len (q : Nat → Nat → Bool) (n : Nat) : ∀ i, (lisTo q n i).length ≤ i * n
  | 0 => by simp [lisTo]
  | i + 1 => by
    rw [lisTo_succ, List.length_append, Nat.add_mul]
    have := lisTo_len q n i
    have := rowTo_len q i n
    omega
theorem mem_rowTo {q : Nat → Nat → Bool} {i n : Nat} {x : Pair} : x ∈ rowTo q i n ↔ ∃ j, j < n ∧ q i j = true ∧ x = ⟨(i : Int), (j : Int)⟩ := by
  unfold rowTo
  simp only [List.mem_flatMap, List.mem_range]
  constructor
  · rintro ⟨j, hj, hx⟩
    split at hx
    · rename_i hq; exact ⟨j, hj, hq, by simpa using hx⟩
    · cases hx
  · rintro ⟨j, hj, hq, rfl⟩
    exact ⟨j, hj, by rw [if_pos hq]; exact .head _⟩
theorem mem_lisTo {q : Nat → Nat → Bool} {n i : Nat} {x : Pair} : x ∈ lisTo q n i ↔ ∃ a j, a < i ∧ j < n ∧ q a j = true ∧ x = ⟨(a : Int), (j : Int)⟩ := by
  unfold lisTo
  simp only [List.mem_flatMap, List.mem_range, mem_rowTo]
  constructor
  · rintro ⟨a, ha, j, hj, hq, rfl⟩; exact ⟨a, j, ha, hj, hq, rfl⟩
  · rintro ⟨a, j, ha, hj, hq, rfl⟩; exact ⟨a, ha, j, hj, hq, rfl⟩
theorem lisTo_inR (q : Nat → Nat → Bool) (n : Nat) : InR n (lisTo q n n) := fun x hx => by
  obtain ⟨a, j, ha, hj, _, rfl⟩ := mem_lisTo.1 hx
  dsimp only
  exact ⟨by omega, by omega, by omega, by omega⟩
theorem memb_lisTo (q : Nat → Nat → Bool) (n i j : Nat) (hi : i < n) (hj : j < n) : memb (lisTo q n n) i j = q i j := by
  rw [Bool.eq_iff_iff]
  simp only [memb, decide_eq_true_eq, mem_lisTo, Pair.mk.injEq]
  constructor
  · rintro ⟨a, b, _, _, hq, e1, e2⟩
    rw [show i = a by omega, show j = b by omega]; exact hq
  · intro hq; exact ⟨i, j, hi, hj, hq, rfl, rfl⟩

/-! traces -/
abbrev evi (t : Tr) (i : Nat) : Ev := t.evs.getD i default
def thB (t : Tr) (i j : Nat) : Bool := decide ((evi t i).thread = (evi t j).thread)
def lcB (t : Tr) (i j : Nat) : Bool := decide ((evi t i).loc = (evi t j).loc)
def poP (t : Tr) (i j : Nat) : Bool := thB t i j && decide ((evi t i).place < (evi t j).place)
/-- a relation that a trace gives, and none for one that may not be -/
def trN (t : Tr) : Int := if trOk t = true then (t.evs.length : Int) else 0
def trR (t : Tr) (p : Nat → Nat → Bool) : List W := if trOk t = true then relOf t.evs.length p else []
theorem aheadP_trans {a p b q c r : Int} (h1 : aheadP a p b q = true) (h2 : aheadP b q c r = true) : aheadP a p c r = true := by
  simp only [aheadP, Bool.or_eq_true, Bool.and_eq_true, decide_eq_true_eq] at *; omega
theorem trOk_ev {t : Tr} (h : trOk t = true) {i : Nat} (hi : i < t.evs.length) : evAt t i = true := by
  simp only [trOk, Bool.and_eq_true, eventedB, all_range] at h
  exact h.1.1.1.1.1.2.2 i hi
theorem ev_ahead {t : Tr} (h : trOk t = true) {i : Nat} : ∀ {j : Nat}, i < j → j < t.evs.length → aheadP (evi t i).thread (evi t i).place (evi t j).thread (evi t j).place = true
  | j + 1, hij, hj => by
    have h1 := trOk_ev h hj
    simp only [evAt, Bool.and_eq_true, Bool.or_eq_true, decide_eq_true_eq] at h1
    have h2 := h1.2.resolve_left (by omega)
    rw [Nat.add_sub_cancel] at h2
    by_cases hji : i = j
    · subst hji; exact h2
    · exact aheadP_trans (ev_ahead h (show i < j by omega) (by omega)) h2
/-- in one thread what stands ahead has the lesser number -/
theorem po_lt {t : Tr} (h : trOk t = true) {i j : Nat} (hi : i < t.evs.length) (hj : j < t.evs.length) : poP t i j = (decide (i < j) && thB t i j) := by
  rw [Bool.eq_iff_iff]
  simp only [poP, thB, Bool.and_eq_true, decide_eq_true_eq]
  constructor
  · rintro ⟨h1, h2⟩
    refine ⟨?_, h1⟩
    rcases Nat.lt_trichotomy i j with h3 | h3 | h3
    · exact h3
    · subst h3; omega
    · have := ev_ahead h h3 hi
      simp only [aheadP, Bool.or_eq_true, Bool.and_eq_true, decide_eq_true_eq] at this; omega
  · rintro ⟨h1, h2⟩
    have := ev_ahead h h1 hj
    simp only [aheadP, Bool.or_eq_true, Bool.and_eq_true, decide_eq_true_eq] at this
    exact ⟨h2, by omega⟩
theorem trOk_dir {t : Tr} (h : trOk t = true) {i : Nat} (hi : i < t.evs.length) : (evi t i).dir = 1 ∨ (evi t i).dir = 2 := by
  have h1 := trOk_ev h hi
  simp only [evAt, evOne, dirB, Bool.and_eq_true, Bool.or_eq_true, decide_eq_true_eq] at h1
  have := h1.1.2
  unfold evi
  omega
end Go.Vw
end

section
/- The walks: trace.between, Po; alembicref15.Po; view.apart; alembicref17.outer. -/
namespace Go.Proofs.YtifgncgiiojikaaGreatDoor
open Go Go.Eng Go.Tc Go.Rl Go.Vw
attribute [local irreducible] wpList Code.wp bodyPost Exit.then Exit.inBlock Calls

theorem of_ok {n : Nat} (hn : n ≤ 64) (lv : Value) (l : List Pair) (w : World) (h : Sl All w encPair 2 lv l) (hr : InR n l) : Mk Tryz.prog 63 [.int .i64 n, lv] w (RelΨ n (relOf n (memb l)) 0) :=
  (of_all n lv l w h).mono fun _ v es _ hΨ => by
    obtain ⟨sv, hsv, rfl, rfl⟩ := hΨ
    unfold ofN ofR erOf
    rw [ofS_memb hn l hr]
    exact ⟨sv, hsv, rfl, rfl⟩

set_option maxHeartbeats 3200000 in
theorem between_spec {lv iv ev bv av dv cv tv nv : Value} {t : Tr} (kf : Nat) [FN Tryz.prog kf] (cap : List Value) (f : Ev → Ev → Bool) (w : World) (h : TrIn All w lv iv ev bv av dv cv tv nv t)
    (hk : ∀ a b w', Mem [(w, All)] [] w' → Pur Tryz.prog kf ([.agg (encEv a).toArray, .agg (encEv b).toArray] ++ cap) w' fun _ v _ => v = .bool (f a b)) :
    Mk Tryz.prog 69 [.agg #[lv, iv, ev, bv, av, dv, cv, tv, nv], .func (.func kf) #[] cap.toArray] w (RelΨ (trN t) (trR t fun i j => poP t i j && f (evi t i) (evi t j)) (trE t)) := by
  have hE := h.evs; have hEl := hE.le
  generalize hq : (fun i j => poP t i j && f (evi t i) (evi t j)) = q
  refine enter_mk Tryz.func69 Tryz.ntmps69 rfl rfl ?_
  refine gO_ ?_
  refine wl_fx (fx_box (next := ?_)); intro bt
  refine gO_ ?_
  refine wl_fx (fx_alloc (next := ?_)); intro br
  refine gO_ ?_
  refine wl_fx (fx_call (spec := fun w' hw => tcheck_spec w' (h.now hw (.head _))) (next := ?_))
  rintro v n1 w1 rfl hn1
  refine gO_ ?_
  refine wc_cond rfl (fun h1 => ?_) (fun h1 => ?_)
  · rw [trE_dc, Bool.not_eq_true'] at h1
    refine gO_ ?_
    refine wl_fx (fx_store_box (i := 0) (hi := rfl) (next := ?_))
    refine gO_ ?_
    refine kp_nil 113 1 encW ?_
    refine mk_ret Tryz.results69 (.cellN inferInstance rfl (.tail _ (.head _)) rfl (.tmp rfl .nil)) (.tail _ (.head _)) [_] [0] rfl (by decide) fun w' hw => ?_
    unfold trN trR; rw [h1]
    exact ⟨_, sv_nil, rfl, rfl⟩
  · rw [trE_dc, Bool.not_eq_false'] at h1
    obtain ⟨hb, hlb⟩ := trOk_lens h1
    refine gO_ ?_
    refine kp_nil 83 2 encPair ?_
    refine wc_loop (fun s : Nat × Value × List Pair => s.1 ≤ t.evs.length ∧ SV s.2.1 ∧ s.2.2 = lisTo q t.evs.length s.1) (fun s => [(21, true, .int .i64 s.1), (20, true, .int .i64 t.evs.length), (19, true, ev), (7, true, s.2.1), (4, true, .pointer (some ⟨br, 0, none⟩)), (2, true, .pointer (some ⟨bt, 0, none⟩)), (1, true, .func (.func kf) #[] cap.toArray)])
      (fun s => Mem [(w, All)] [.own s.2.1 83 2 encPair s.2.2, .box br [.int .i64 0, .slice none 0 0] 60, .box bt [lv, iv, ev, bv, av, dv, cv, tv, nv] 30]) (fun s => t.evs.length - s.1) (0, .slice none 0 0, []) ⟨Nat.zero_le _, sv_nil, rfl⟩ ⟨rfl, rfl, rfl, rfl, rfl, rfl, rfl, trivial⟩ (fun _ h => h.last rfl) ?_
    rintro ⟨i, v1, xs⟩ ⟨hi, hv1, hxs⟩
    dsimp only at hi hv1 hxs ⊢
    refine gO_ ?_
    refine wc_cond rfl (fun h2 => ?_) (fun h2 => ?_)
    · have h2' : i < t.evs.length := by rw [dc_true] at h2; omega
      refine gO_ ?_
      refine wl_fx (fx_alloc (next := ?_)); intro ba
      refine gO_ ?_
      refine wl_fx (fx_store_box (i := 0) (hi := rfl) (next := ?_))
      refine gO_ ?_
      refine wc_loop (fun s : Nat × Value × List Pair => s.1 ≤ t.evs.length ∧ SV s.2.1 ∧ s.2.2 = lisTo q t.evs.length i ++ rowTo q i s.1) (fun s => [(29, true, .int .i64 s.1), (28, true, .int .i64 t.evs.length), (27, true, ev), (21, true, .int .i64 i), (20, true, .int .i64 t.evs.length), (19, true, ev), (9, true, .pointer (some ⟨ba, 0, none⟩)), (8, true, .int .i64 i), (7, true, s.2.1), (4, true, .pointer (some ⟨br, 0, none⟩)), (2, true, .pointer (some ⟨bt, 0, none⟩)), (1, true, .func (.func kf) #[] cap.toArray)])
        (fun s => Mem [(w, All)] [.box ba (encEv (evi t i)) 36, .own s.2.1 83 2 encPair s.2.2, .box br [.int .i64 0, .slice none 0 0] 60, .box bt [lv, iv, ev, bv, av, dv, cv, tv, nv] 30]) (fun s => t.evs.length - s.1) (0, v1, xs) ⟨Nat.zero_le _, hv1, by dsimp only; rw [hxs]; simp [rowTo]⟩ ⟨rfl, rfl, rfl, rfl, rfl, rfl, rfl, rfl, rfl, rfl, rfl, rfl, trivial⟩ (fun _ h => h) ?_
      rintro ⟨j, v2, ys⟩ ⟨hj, hv2, hys⟩
      dsimp only at hj hv2 hys ⊢
      have hyl : ys.length ≤ 8192 := by
        rw [hys, List.length_append]
        have g1 := lisTo_len q t.evs.length i
        have g2 := rowTo_len q i j
        have g3 : i * t.evs.length ≤ 64 * 64 := Nat.mul_le_mul (by omega) hb
        omega
      refine gO_ ?_
      refine wc_cond rfl (fun h3 => ?_) (fun h3 => ?_)
      · have h3' : j < t.evs.length := by rw [dc_true] at h3; omega
        have hqij : ((dc ((evi t i).thread = (evi t j).thread) && dc ((evi t i).place < (evi t j).place)) && f (evi t i) (evi t j)) = q i j := by rw [← hq, dc_eq, dc_eq]; rfl
        refine gO_ ?_
        refine wl_fx (fx_alloc (next := ?_)); intro bb
        refine gO_ ?_
        refine wl_fx (fx_store_box (i := 0) (hi := rfl) (next := ?_))
        refine gO_ ?_
        refine wl_gx (h := gx_call (spec := fun _ w' hw => hk (evi t i) (evi t j) w' (hw.sel [] rfl (by decide)))) (next := ?_)
        refine gO_ ?_
        refine wc_cond rfl (fun h4 => ?_) (fun h4 => ?_)
        · rw [hqij] at h4
          refine gO_ ?_
          refine wl_fx (fx_lit (next := ?_))
          intro v5 hv5
          refine gO_ ?_
          refine wl_fx (fx_append_own (k := 3) (hk := rfl) (hlen := by simp; omega) (next := ?_))
          intro v6 hv6
          refine gO_ ?_
          exact po_loop (j + 1, v6, ys ++ [⟨(i : Int), (j : Int)⟩]) ⟨by dsimp only; omega, hv6, by dsimp only; rw [hys, rowTo_succ, if_pos h4, List.append_assoc]⟩ (by dsimp only; omega) ⟨rfl, rfl, rfl, rfl, rfl, rfl, rfl, rfl, rfl, rfl, rfl, rfl, trivial⟩ (fun _ h => h.sel [2, 3, 4, 5] rfl (by decide))
        · rw [hqij] at h4
          refine gO_ ?_
          exact po_loop (j + 1, v2, ys) ⟨by dsimp only; omega, hv2, by dsimp only; rw [hys, rowTo_succ, if_neg (by rw [h4]; simp), List.append_nil]⟩ (by dsimp only; omega) ⟨rfl, rfl, rfl, rfl, rfl, rfl, rfl, rfl, rfl, rfl, rfl, rfl, trivial⟩ (fun _ h => h.sel [1, 2, 3, 4] rfl (by decide))
      · have hjn : j = t.evs.length := by rw [dc_false] at h3; omega
        refine gO_ ?_
        exact po_loop (i + 1, v2, ys) ⟨by dsimp only; omega, hv2, by dsimp only; rw [hys, lisTo_succ, hjn]⟩ (by dsimp only; omega) ⟨rfl, rfl, rfl, rfl, rfl, rfl, rfl, trivial⟩ (fun _ h => h.sel [1, 2, 3] rfl (by decide))
    · have hin : i = t.evs.length := by rw [dc_false] at h2; omega
      refine gO_ ?_
      refine wl_fx (fx_call_mk (spec := fun w' hw => of_ok hb v1 xs w' (hw.lend (.head _)) (by rw [hxs, hin]; exact lisTo_inR q _)) (next := ?_))
      rintro v n3 es w3 ⟨sv, hsv, rfl, rfl⟩
      refine gO_ ?_
      refine wl_fx (fx_store_box (i := 2) (hi := rfl) (next := ?_))
      refine gO_ ?_
      refine mk_ret Tryz.results69 (.cellN inferInstance rfl (.tail _ (.tail _ (.head _))) rfl (.tmp rfl .nil)) (.tail _ (.head _)) [_] [0] rfl (by decide) fun w' hw => ?_
      refine ⟨sv, hsv, ?_, ?_⟩
      · unfold trN trE; rw [h1]; rfl
      · unfold trR; rw [h1, if_pos rfl, relOf_ext (q := q) fun a b ha hb => by rw [hxs, hin]; exact memb_lisTo q _ a b ha hb]

set_option maxHeartbeats 800000 in
theorem po1_spec (a b : Ev) (w : World) : Pur Tryz.prog 80 [.agg (encEv a).toArray, .agg (encEv b).toArray] w fun _ v _ => v = .bool true := by
  refine enter_pur Tryz.func80 Tryz.ntmps80 rfl rfl ?_
  refine gO_ ?_
  refine wl_fx (fx_box (next := ?_)); intro ba
  refine gO_ ?_
  refine wl_fx (fx_box (next := ?_)); intro bb
  refine gO_ ?_
  refine pur_ret Tryz.results80 (.tmp rfl .nil) (.head _) fun w' hw => ?_
  rfl

set_option maxHeartbeats 800000 in
theorem tpo_spec {lv iv ev bv av dv cv tv nv : Value} {t : Tr} (w : World) (h : TrIn All w lv iv ev bv av dv cv tv nv t) :
    Mk Tryz.prog 60 [.agg #[lv, iv, ev, bv, av, dv, cv, tv, nv]] w (RelΨ (trN t) (trR t (poP t)) (trE t)) := by
  refine enter_mk Tryz.func60 Tryz.ntmps60 rfl rfl ?_
  refine gO_ ?_
  refine wl_fx (fx_box (next := ?_)); intro bt
  refine gO_ ?_
  refine wl_fx (fx_alloc (next := ?_)); intro br
  refine gO_ ?_
  refine wl_fx (fx_call_mk (spec := fun w' hw => between_spec (t := t) 80 [] (fun _ _ => true) w' (h.now hw (.head _)) fun a b w2 hw2 => po1_spec a b w2) (next := ?_))
  rintro v n1 es w1 ⟨sv, hsv, rfl, rfl⟩
  refine gO_ ?_
  refine wl_fx (fx_store_box (i := 1) (hi := rfl) (next := ?_))
  refine gO_ ?_
  refine mk_ret Tryz.results60 (.cellN inferInstance rfl (.tail _ (.head _)) rfl (.tmp rfl .nil)) (.tail _ (.head _)) [_] [0] rfl (by decide) fun w' hw => ?_
  rw [show (fun i j => poP t i j && true) = poP t from funext fun i => funext fun j => Bool.and_true _]
  exact ⟨sv, hsv, rfl, rfl⟩

theorem _root_.Go.Rl.upTo2_from (m : Nat) (p : Nat → Nat → Bool) (i k : Nat) (h : ∀ b, b < k → p i b = false) : relOf m (upTo p i) = relOf m (upTo2 p i k) := by
  refine relOf_ext fun a b _ _ => ?_
  unfold upTo upTo2
  by_cases ha : a = i
  · subst ha
    by_cases hb : b < k
    · rw [h b hb]; simp
    · simp [hb]
  · simp [ha]

end Go.Proofs.YtifgncgiiojikaaGreatDoor
end

section
/- The walks: alembicref17.before, outer; view.apart. -/
namespace Go.Vw
open Go Go.Eng Go.Tc Go.Rl
/-- where a number stands last; -1: nowhere -/
def lastTo (l : List Int) (v : Int) : Nat → Int
  | 0 => -1
  | i + 1 => if l.getD i default = v then (i : Int) else lastTo l v i
def lastI (l : List Int) (v : Int) : Int := lastTo l v l.length
def bfB (l : List Int) (v u : Int) : Bool := decide (0 ≤ lastI l v) && decide (lastI l v < lastI l u)
theorem lastTo_lt (l : List Int) (v : Int) : ∀ i, lastTo l v i < i ∧ -1 ≤ lastTo l v i
  | 0 => by simp [lastTo]
  | i + 1 => by
    have := lastTo_lt l v i
    unfold lastTo
    split <;> omega
theorem lastTo_none (l : List Int) (v : Int) : ∀ i, (∀ j, j < i → l.getD j default ≠ v) → lastTo l v i = -1
  | 0, _ => rfl
  | i + 1, h => by unfold lastTo; rw [if_neg (h i (by omega)), lastTo_none l v i fun j hj => h j (by omega)]
theorem lastTo_at (l : List Int) (v : Int) (k : Nat) (hk : l.getD k default = v) : ∀ i, k < i → (∀ j, k < j → j < i → l.getD j default ≠ v) → lastTo l v i = k
  | i + 1, hki, h => by
    unfold lastTo
    by_cases hik : k = i
    · subst hik; rw [if_pos hk]
    · rw [if_neg (h i (by omega) (by omega)), lastTo_at l v k hk i (by omega) fun j h1 h2 => h j h1 (by omega)]
/-- in a list without doubles it is where it stands first -/
theorem lastI_nodup {l : List Int} (h : l.Nodup) (v : Int) : lastI l v = ixI l v := by
  unfold lastI ixI
  by_cases hm : v ∈ l
  · rw [if_pos hm]
    have hlt := List.idxOf_lt_length_of_mem hm
    refine lastTo_at l v _ ?_ _ hlt fun j h1 h2 he => ?_
    · rw [List.getD_eq_getElem?_getD, List.getElem?_eq_getElem hlt]; simp
    · rw [List.getD_eq_getElem?_getD, List.getElem?_eq_getElem h2] at he
      have h3 : l[j] = l[l.idxOf v] := by rw [List.getElem_idxOf]; exact he
      exact (List.pairwise_iff_getElem.1 h _ _ hlt h2 h1) h3.symm
  · rw [if_neg hm]
    exact lastTo_none l v _ fun j hj he => hm (mem_getD.2 ⟨j, hj, he⟩)
theorem has_bt {n : Nat} {rows : List W} (h : relOk n rows = true) {i j : Nat} (hi : i < n) (hj : j < n) : has n rows i j = bt rows i j := by
  unfold has
  rw [h]
  simp only [Int.toNat_natCast, Bool.true_and]
  rw [decide_eq_true (show (0 : Int) ≤ i by omega), decide_eq_true (show (i : Int) < n by omega), decide_eq_true (show (0 : Int) ≤ j by omega), decide_eq_true (show (j : Int) < n by omega)]
  rfl
theorem mem_pairsL {m : Nat} {rows : List W} {x : Pair} : x ∈ pairsL m rows ↔ ∃ i j : Nat, i < m ∧ bt rows i j = true ∧ x = ⟨(i : Int), (j : Int)⟩ := by
  unfold pairsL
  simp only [List.mem_flatMap, List.mem_range, List.mem_map, mem_bits]
  constructor
  · rintro ⟨i, hi, j, hj, rfl⟩; exact ⟨i, j, hi, hj, rfl⟩
  · rintro ⟨i, j, hi, hj, rfl⟩; exact ⟨i, hi, j, hj, rfl⟩
/-- the pairs of a relation whose events are such -/
def ptB (t : Tr) (f : Ev → Ev → Bool) (x : Pair) : Bool := f (Tc.ev t x.A) (Tc.ev t x.B)
def sifL (t : Tr) (f : Ev → Ev → Bool) (m : Nat) (rows : List W) : List Pair := (pairsL m rows).filter (ptB t f)
theorem pairs_inR {m : Nat} {rows : List W} (h : relOk m rows = true) : InR m (pairsL m rows) := fun x hx => by
  obtain ⟨i, j, hi, hj, rfl⟩ := mem_pairsL.1 hx
  have : j < m := by
    rcases Nat.lt_or_ge j m with h' | h'
    · exact h'
    · rw [relOk_bt h i j h'] at hj; cases hj
  dsimp only
  exact ⟨by omega, by omega, by omega, by omega⟩
theorem sif_inR {t : Tr} {f : Ev → Ev → Bool} {m : Nat} {rows : List W} (h : relOk m rows = true) : InR m (sifL t f m rows) := fun x hx => pairs_inR h x (List.mem_filter.1 hx).1
theorem memb_sif {t : Tr} {f : Ev → Ev → Bool} {m : Nat} {rows : List W} {i j : Nat} (hi : i < m) : memb (sifL t f m rows) i j = (bt rows i j && f (evi t i) (evi t j)) := by
  rw [Bool.eq_iff_iff]
  unfold memb sifL
  rw [decide_eq_true_eq, List.mem_filter, mem_pairsL, Bool.and_eq_true]
  simp only [Pair.mk.injEq, ptB, Tc.ev, Int.toNat_natCast]
  constructor
  · rintro ⟨⟨a, b, _, hb, e1, e2⟩, h2⟩
    obtain rfl : i = a := by omega
    obtain rfl : j = b := by omega
    exact ⟨hb, h2⟩
  · rintro ⟨h1, h2⟩; exact ⟨⟨i, j, hi, h1, rfl, rfl⟩, h2⟩
end Go.Vw
namespace Go.Proofs.YtifgncgiiojikaaGreatDoor
open Go Go.Eng Go.Tc Go.Rl Go.Vw
attribute [local irreducible] wpList Code.wp bodyPost Exit.then Exit.inBlock Calls

def Rel1Ψ (n : Int) (rows : List W) : Nat → Value → List Ent → World → Prop := fun _ v es _ => ∃ sv, SV sv ∧ v = .agg #[.int .i64 n, sv] ∧ es = [ownW sv rows]

set_option maxHeartbeats 1600000 in
theorem apart_spec {lv iv ev bv av dv cv tv nv : Value} {t : Tr} (sv : Value) (rows : List W) (w : World) (h : TrIn All w lv iv ev bv av dv cv tv nv t) (hs : Sl All w encW 1 sv rows) (ho : relOk t.evs.length rows = true) (hT : Tab w) :
    Mk Tryz.prog 64 [.agg #[lv, iv, ev, bv, av, dv, cv, tv, nv], .agg #[.int .i64 t.evs.length, sv]] w (Rel1Ψ t.evs.length (relOf t.evs.length fun i j => bt rows i j && !thB t i j)) := by
  have hE := h.evs; have hEl := hE.le
  have hsv := hs.sv
  obtain ⟨_, e0, hb, _⟩ := relOk_nat ho
  have hb : t.evs.length ≤ 64 := by omega
  have hP : pairsS t.evs.length rows = pairsL t.evs.length rows := by unfold pairsS; rw [if_pos ho]; rfl
  have hPl : (pairsL t.evs.length rows).length ≤ 4096 := Nat.le_trans (pairsL_length _ _) (Nat.mul_le_mul_right 64 hb)
  generalize hl : pairsL t.evs.length rows = l at *
  refine enter_mk Tryz.func64 Tryz.ntmps64 rfl rfl ?_
  refine gO_ ?_
  refine wl_fx (fx_box (next := ?_)); intro bT
  refine gO_ ?_
  refine wl_fx (fx_box (next := ?_)); intro br
  refine gO_ ?_
  refine wl_fx (fx_alloc (next := ?_)); intro br4
  refine gO_ ?_
  refine wl_fx (fx_call_mk (spec := fun w' hw => pairs_all t.evs.length sv rows w' (hw.now hs (.head _)) (hT.now hw (.head _))) (next := ?_))
  rintro v n1 es w1 ⟨pv, hpv, rfl, rfl⟩
  rw [hP]
  refine gO_ ?_
  refine kp_nil 83 2 encPair ?_
  refine wc_loop (fun s : Nat × Value × List Pair => s.1 ≤ l.length ∧ SV s.2.1 ∧ s.2.2 = (l.take s.1).filter (ptB t fun a b => !decide (a.thread = b.thread))) (fun s => [(19, true, .int .i64 s.1), (18, true, .int .i64 l.length), (17, true, pv), (7, true, s.2.1), (4, true, .pointer (some ⟨br4, 0, none⟩)), (3, true, .pointer (some ⟨br, 0, none⟩)), (2, true, .pointer (some ⟨bT, 0, none⟩))])
    (fun s => Mem [(w, All)] [ownP s.2.1 s.2.2, ownP pv l, .box br4 [.int .i64 0, .slice none 0 0] 60, .box br [.int .i64 t.evs.length, sv] 60, .box bT [lv, iv, ev, bv, av, dv, cv, tv, nv] 30]) (fun s => l.length - s.1) (0, .slice none 0 0, []) ⟨Nat.zero_le _, sv_nil, by simp⟩ ⟨rfl, rfl, rfl, rfl, rfl, rfl, rfl, trivial⟩ (fun _ h => h.last rfl) ?_
  rintro ⟨i, v1, xs⟩ ⟨hi, hv1, hxs⟩
  dsimp only at hi hv1 hxs ⊢
  have hxl : xs.length ≤ 4096 := by rw [hxs]; exact Nat.le_trans (List.length_filter_le _ _) (by simp; omega)
  refine gO_ ?_
  refine wc_cond rfl (fun h1 => ?_) (fun h1 => ?_)
  · have h1' : i < l.length := by rw [dc_true] at h1; omega
    have hx : l.getD i default ∈ pairsL t.evs.length rows := by rw [hl, List.getD_eq_getElem?_getD, List.getElem?_eq_getElem h1']; exact List.getElem_mem h1'
    obtain ⟨g1, g2, g3, g4⟩ := pairs_inR ho _ hx
    have htk : l.take (i + 1) = l.take i ++ [l.getD i default] := by
      rw [List.take_add_one, List.getD_eq_getElem?_getD, List.getElem?_eq_getElem h1']; rfl
    have hqi : (!dc ((evi t (l.getD i default).A.toNat).thread = (evi t (l.getD i default).B.toNat).thread)) = ptB t (fun a b => !decide (a.thread = b.thread)) (l.getD i default) := by rw [dc_eq]; rfl
    refine gO_ ?_
    refine wl_fx (fx_alloc (next := ?_)); intro bp
    refine gO_ ?_
    refine wl_fx (fx_store_box (i := 0) (hi := rfl) (next := ?_))
    refine gO_ ?_
    refine wc_draw [0, 1, 2, 3, 4, 5, 6, 7, 8, 9, 10, 11, 12, 13, 14] mixed ?_
    refine kG_ ?_
    refine gO_ ?_
    refine wc_cond rfl (fun h2 => ?_) (fun h2 => ?_)
    · rw [hqi] at h2
      refine gO_ ?_
      refine wl_fx (fx_lit (next := ?_))
      intro v5 hv5
      refine gO_ ?_
      refine wl_fx (fx_append_own (k := 2) (hk := rfl) (hlen := by simp; omega) (next := ?_))
      intro v6 hv6
      refine gO_ ?_
      exact po_loop (i + 1, v6, xs ++ [l.getD i default]) ⟨by dsimp only; omega, hv6, by dsimp only; rw [hxs, htk, List.filter_append, List.filter_cons_of_pos h2]; rfl⟩ (by dsimp only; omega) ⟨rfl, rfl, rfl, rfl, rfl, rfl, rfl, trivial⟩ (fun _ h => (h.last rfl).sel [2, 3, 4, 5, 6] rfl (by decide))
    · rw [hqi] at h2
      refine gO_ ?_
      exact po_loop (i + 1, v1, xs) ⟨by dsimp only; omega, hv1, by dsimp only; rw [hxs, htk, List.filter_append, List.filter_cons_of_neg (by rw [h2]; simp)]; simp⟩ (by dsimp only; omega) ⟨rfl, rfl, rfl, rfl, rfl, rfl, rfl, trivial⟩ (fun _ h => (h.last rfl).sel [1, 2, 3, 4, 5] rfl (by decide))
  · have hin : i = l.length := by rw [dc_false] at h1; omega
    have hxf : xs = sifL t (fun a b => !decide (a.thread = b.thread)) t.evs.length rows := by rw [hxs, hin, List.take_length]; unfold sifL; rw [hl]
    refine gO_ ?_
    refine wl_fx (fx_call_mk (spec := fun w' hw => of_ok hb v1 xs w' (hw.lend (.head _)) (by rw [hxf]; exact sif_inR ho)) (next := ?_))
    rintro v n3 es w3 ⟨s3, hs3, rfl, rfl⟩
    refine gO_ ?_
    refine wl_fx (fx_alloc (next := ?_)); intro bs
    refine gO_ ?_
    refine wl_fx (fx_store_box (i := 0) (hi := rfl) (next := ?_))
    refine gO_ ?_
    refine wl_fx (fx_store_box (i := 4) (hi := rfl) (next := ?_))
    refine gO_ ?_
    refine mk_ret Tryz.results64 (.cellN inferInstance rfl (.tail _ (.tail _ (.tail _ (.tail _ (.head _))))) rfl .nil) (.tail _ (.head _)) [_] [1] rfl (by decide) fun w' hw => ?_
    refine ⟨s3, hs3, rfl, ?_⟩
    rw [hxf, relOf_ext fun a b ha hb => memb_sif ha]
    rfl
end Go.Proofs.YtifgncgiiojikaaGreatDoor
end

section
/- Plain: the relations that follow from a candidate. -/
namespace Go.Vw
open Go Go.Eng Go.Tc Go.Rl
def prsIn (l : List Int) (i : Nat) : List Pair := (l.drop (i + 1)).map fun b => ⟨l.getD i default, b⟩
def prsTo (l : List Int) (i : Nat) : List Pair := (List.range i).flatMap (prsIn l)
def coTo (c : Cd) (k : Nat) : List Pair := (List.range k).flatMap fun k => prsTo (c.co.getD k default) (c.co.getD k default).length
def rf1 (t : Tr) (c : Cd) (r : Nat) : List Pair := if (evi t r).dir = 1 ∧ 0 ≤ c.rf.getD r default then [⟨c.rf.getD r default, (r : Int)⟩] else []
def rfTo (t : Tr) (c : Cd) (n : Nat) : List Pair := (List.range n).flatMap (rf1 t c)
def col (t : Tr) (c : Cd) (r : Nat) : List Int := c.co.getD (evi t r).loc.toNat default
def frs (t : Tr) (c : Cd) (r : Nat) : List Int := (col t c r).drop (ixI (col t c r) (c.rf.getD r default) + 1).toNat
def fr1 (t : Tr) (c : Cd) (r : Nat) : List Pair := if (evi t r).dir = 1 then (frs t c r).map fun w => ⟨(r : Int), w⟩ else []
def frTo (t : Tr) (c : Cd) (n : Nat) : List Pair := (List.range n).flatMap (fr1 t c)
theorem prsTo_succ (l : List Int) (i : Nat) : prsTo l (i + 1) = prsTo l i ++ prsIn l i := by unfold prsTo; rw [List.range_succ, List.flatMap_append]; simp
theorem coTo_succ (c : Cd) (k : Nat) : coTo c (k + 1) = coTo c k ++ prsTo (c.co.getD k default) (c.co.getD k default).length := by unfold coTo; rw [List.range_succ, List.flatMap_append]; simp
theorem rfTo_succ (t : Tr) (c : Cd) (n : Nat) : rfTo t c (n + 1) = rfTo t c n ++ rf1 t c n := by unfold rfTo; rw [List.range_succ, List.flatMap_append]; simp
theorem frTo_succ (t : Tr) (c : Cd) (n : Nat) : frTo t c (n + 1) = frTo t c n ++ fr1 t c n := by unfold frTo; rw [List.range_succ, List.flatMap_append]; simp
def ahP (l : List Int) (a b : Int) : Bool := decide (0 ≤ ixI l a) && decide (ixI l a < ixI l b)
def coP (t : Tr) (c : Cd) (i j : Nat) : Bool := ahP (col t c i) i j
def rfP (_t : Tr) (c : Cd) (i j : Nat) : Bool := decide ((evi _t j).dir = 1) && decide (c.rf.getD j default = (i : Int))
def frP (t : Tr) (c : Cd) (i j : Nat) : Bool := decide ((evi t i).dir = 1) && decide (ixI (col t c i) (c.rf.getD i default) < ixI (col t c i) j)
def plP (t : Tr) (i j : Nat) : Bool := poP t i j && lcB t i j
def exP (t : Tr) (p : Nat → Nat → Bool) (i j : Nat) : Bool := p i j && !thB t i j
def cmP (t : Tr) (c : Cd) (i j : Nat) : Bool := (rfP t c i j || coP t c i j) || frP t c i j

/-! lists without doubles -/
theorem ixI_ge (l : List Int) (x : Int) : -1 ≤ ixI l x := by unfold ixI; split <;> omega
theorem ixI_lt {l : List Int} {x : Int} (h : x ∈ l) : ixI l x < l.length := by
  unfold ixI; rw [if_pos h]
  have := List.idxOf_lt_length_of_mem h; omega
theorem ixI_get {l : List Int} {x : Int} (h : 0 ≤ ixI l x) : l.getD (ixI l x).toNat default = x := by
  have hm := (ixI_nonneg l x).1 h
  unfold ixI; rw [if_pos hm, Int.toNat_natCast]
  have hlt := List.idxOf_lt_length_of_mem hm
  rw [List.getD_eq_getElem?_getD, List.getElem?_eq_getElem hlt]; simp
theorem ixI_at {l : List Int} (h : l.Nodup) {p : Nat} (hp : p < l.length) : ixI l (l.getD p default) = p := by
  have hm : l.getD p default ∈ l := by rw [List.getD_eq_getElem?_getD, List.getElem?_eq_getElem hp]; exact List.getElem_mem hp
  unfold ixI; rw [if_pos hm]
  rw [idxOf_at hp rfl fun j hj he => ?_]
  rw [List.getD_eq_getElem?_getD, List.getD_eq_getElem?_getD, List.getElem?_eq_getElem hp, List.getElem?_eq_getElem (show j < l.length by omega)] at he
  exact List.pairwise_iff_getElem.1 h j p (by omega) hp hj he
theorem mem_drop_ix {l : List Int} (h : l.Nodup) (m : Nat) (x : Int) : x ∈ l.drop m ↔ (m : Int) ≤ ixI l x := by
  constructor
  · intro hx
    obtain ⟨q, hq, rfl⟩ := mem_getD.1 hx
    rw [List.length_drop] at hq
    have e : (l.drop m).getD q default = l.getD (m + q) default := by
      rw [List.getD_eq_getElem?_getD, List.getD_eq_getElem?_getD, List.getElem?_drop]
    rw [e, ixI_at h (by omega)]; omega
  · intro hx
    have h0 : 0 ≤ ixI l x := by omega
    have hlt := ixI_lt ((ixI_nonneg l x).1 h0)
    refine mem_getD.2 ⟨(ixI l x).toNat - m, by rw [List.length_drop]; omega, ?_⟩
    rw [List.getD_eq_getElem?_getD, List.getElem?_drop, show m + ((ixI l x).toNat - m) = (ixI l x).toNat by omega, ← List.getD_eq_getElem?_getD]
    exact ixI_get h0
theorem mem_prs {l : List Int} (h : l.Nodup) (a b : Int) : (⟨a, b⟩ : Pair) ∈ prsTo l l.length ↔ ahP l a b = true := by
  unfold prsTo prsIn ahP
  simp only [List.mem_flatMap, List.mem_range, List.mem_map, Pair.mk.injEq, Bool.and_eq_true, decide_eq_true_eq]
  constructor
  · rintro ⟨p, hp, x, hx, rfl, rfl⟩
    rw [mem_drop_ix h] at hx
    rw [ixI_at h hp]; omega
  · rintro ⟨h1, h2⟩
    have hlt := ixI_lt ((ixI_nonneg l a).1 h1)
    refine ⟨(ixI l a).toNat, by omega, b, (mem_drop_ix h _ _).2 (by omega), ixI_get h1, rfl⟩

/-! what a candidate's lists hold -/
theorem mem_wr {t : Tr} {loc x : Int} : x ∈ wr t loc ↔ ∃ i : Nat, i < t.evs.length ∧ x = i ∧ (evi t i).dir = 2 ∧ (evi t i).loc = loc := by
  unfold wr wrTo
  simp only [List.mem_map, List.mem_filter, List.mem_range, wrAt, Bool.and_eq_true, decide_eq_true_eq]
  constructor
  · rintro ⟨i, ⟨h1, h2, h3⟩, rfl⟩; exact ⟨i, h1, rfl, h2, h3⟩
  · rintro ⟨i, h1, rfl, h2, h3⟩; exact ⟨i, ⟨h1, h2, h3⟩, rfl⟩
theorem co_perm {t : Tr} {c : Cd} (hc : candB t c = true) {k : Nat} (hk : k < t.locs.length) : (c.co.getD k default).Perm (wr t (k : Int)) := by
  have := ((candB_iff t c).1 hc).2.2.2 k hk
  rw [wrb_eq, decide_eq_true_eq] at this
  exact this ▸ (sortI_perm _).symm
theorem co_nodup {t : Tr} {c : Cd} (hc : candB t c = true) {k : Nat} (hk : k < t.locs.length) : (c.co.getD k default).Nodup :=
  (co_perm hc hk).nodup_iff.2 (wrTo_rising t _ _).nodup
theorem co_mem {t : Tr} {c : Cd} (hc : candB t c = true) {k : Nat} (hk : k < t.locs.length) {x : Int} : x ∈ c.co.getD k default ↔ ∃ i : Nat, i < t.evs.length ∧ x = i ∧ (evi t i).dir = 2 ∧ (evi t i).loc = k :=
  (co_perm hc hk).mem_iff.trans mem_wr
theorem co_len {t : Tr} {c : Cd} (hc : candB t c = true) {k : Nat} (hk : k < t.locs.length) : (c.co.getD k default).length ≤ t.evs.length := by
  rw [(co_perm hc hk).length_eq]; exact wrTo_le _ _ _
theorem loc_nat {t : Tr} (ht : trOk t = true) {i : Nat} (hi : i < t.evs.length) : ∃ k : Nat, (evi t i).loc = k ∧ k < t.locs.length := by
  have h := trOk_loc ht hi
  refine ⟨(evi t i).loc.toNat, ?_, ?_⟩ <;> unfold evi <;> omega
theorem col_eq {t : Tr} {c : Cd} {i k : Nat} (h : (evi t i).loc = k) : col t c i = c.co.getD k default := by unfold col; rw [h]; rfl
theorem rf_fact {t : Tr} {c : Cd} (hc : candB t c = true) {i : Nat} (hi : i < t.evs.length) : c.rf.getD i default = -1 ∨ ((evi t i).dir = 1 ∧ c.rf.getD i default ∈ wr t (evi t i).loc) := by
  have := ((candB_iff t c).1 hc).2.2.1 i hi
  simp only [rdb, Bool.or_eq_true, Bool.and_eq_true, decide_eq_true_eq] at this
  exact this

section
variable {t : Tr} {c : Cd} (ht : trOk t = true) (hc : candB t c = true)
include ht hc
theorem mem_coTo (a b : Int) : (⟨a, b⟩ : Pair) ∈ coTo c c.co.length ↔ ∃ k, k < t.locs.length ∧ ahP (c.co.getD k default) a b = true := by
  have hl := ((candB_iff t c).1 hc).2.1
  unfold coTo
  simp only [List.mem_flatMap, List.mem_range]
  constructor
  · rintro ⟨k, hk, h⟩; exact ⟨k, by omega, (mem_prs (co_nodup hc (by omega)) a b).1 h⟩
  · rintro ⟨k, hk, h⟩; exact ⟨k, by omega, (mem_prs (co_nodup hc (by omega)) a b).2 h⟩
theorem ah_in {k : Nat} (hk : k < t.locs.length) {a b : Int} (h : ahP (c.co.getD k default) a b = true) : a ∈ c.co.getD k default ∧ b ∈ c.co.getD k default := by
  simp only [ahP, Bool.and_eq_true, decide_eq_true_eq] at h
  exact ⟨(ixI_nonneg _ _).1 h.1, (ixI_nonneg _ _).1 (by omega)⟩
theorem coTo_inR : InR t.evs.length (coTo c c.co.length) := fun x hx => by
  obtain ⟨a, b⟩ := x
  obtain ⟨k, hk, h⟩ := (mem_coTo ht hc a b).1 hx
  obtain ⟨h1, h2⟩ := ah_in ht hc hk h
  obtain ⟨i, hi, rfl, _⟩ := (co_mem hc hk).1 h1
  obtain ⟨j, hj, rfl, _⟩ := (co_mem hc hk).1 h2
  dsimp only
  omega
theorem memb_co {i j : Nat} (hi : i < t.evs.length) : memb (coTo c c.co.length) i j = coP t c i j := by
  rw [Bool.eq_iff_iff]
  unfold memb
  rw [decide_eq_true_eq, mem_coTo ht hc]
  unfold coP
  obtain ⟨q, hq, hql⟩ := loc_nat ht hi
  rw [col_eq hq]
  constructor
  · rintro ⟨k, hk, h⟩
    obtain ⟨h1, _⟩ := ah_in ht hc hk h
    obtain ⟨i', _, e, _, hl⟩ := (co_mem hc hk).1 h1
    obtain rfl : i = i' := by omega
    obtain rfl : q = k := by omega
    exact h
  · intro h; exact ⟨q, hql, h⟩
theorem mem_rfTo (a b : Int) : (⟨a, b⟩ : Pair) ∈ rfTo t c t.evs.length ↔ ∃ r : Nat, r < t.evs.length ∧ b = r ∧ (evi t r).dir = 1 ∧ 0 ≤ a ∧ c.rf.getD r default = a := by
  unfold rfTo rf1
  simp only [List.mem_flatMap, List.mem_range]
  constructor
  · rintro ⟨r, hr, h⟩
    split at h
    · rename_i hh
      simp only [List.mem_singleton, Pair.mk.injEq] at h
      exact ⟨r, hr, h.2, hh.1, h.1 ▸ hh.2, h.1.symm⟩
    · cases h
  · rintro ⟨r, hr, rfl, h1, h2, h3⟩
    exact ⟨r, hr, by rw [if_pos ⟨h1, by omega⟩, h3]; exact .head _⟩
theorem rfTo_inR : InR t.evs.length (rfTo t c t.evs.length) := fun x hx => by
  obtain ⟨a, b⟩ := x
  obtain ⟨r, hr, rfl, h1, h2, h3⟩ := (mem_rfTo ht hc a b).1 hx
  rcases rf_fact hc hr with h | ⟨_, h⟩
  · omega
  · obtain ⟨i, hi, e, _⟩ := mem_wr.1 h
    dsimp only
    omega
theorem memb_rf {i j : Nat} (hj : j < t.evs.length) : memb (rfTo t c t.evs.length) i j = rfP t c i j := by
  rw [Bool.eq_iff_iff]
  unfold memb rfP
  rw [decide_eq_true_eq, mem_rfTo ht hc, Bool.and_eq_true, decide_eq_true_eq, decide_eq_true_eq]
  constructor
  · rintro ⟨r, hr, e, h1, h2, h3⟩
    obtain rfl : j = r := by omega
    exact ⟨h1, h3⟩
  · rintro ⟨h1, h2⟩; exact ⟨j, hj, rfl, h1, by omega, h2⟩
theorem mem_frs {r : Nat} (hr : r < t.evs.length) (x : Int) : x ∈ frs t c r ↔ ixI (col t c r) (c.rf.getD r default) < ixI (col t c r) x := by
  obtain ⟨q, hq, hql⟩ := loc_nat ht hr
  unfold frs
  rw [col_eq hq, mem_drop_ix (co_nodup hc hql)]
  have := ixI_ge (c.co.getD q default) (c.rf.getD r default)
  omega
theorem mem_frTo (a b : Int) : (⟨a, b⟩ : Pair) ∈ frTo t c t.evs.length ↔ ∃ r : Nat, r < t.evs.length ∧ a = r ∧ (evi t r).dir = 1 ∧ ixI (col t c r) (c.rf.getD r default) < ixI (col t c r) b := by
  unfold frTo fr1
  simp only [List.mem_flatMap, List.mem_range]
  constructor
  · rintro ⟨r, hr, h⟩
    split at h
    · rename_i hh
      obtain ⟨x, hx, e⟩ := List.mem_map.1 h
      injection e with e1 e2
      subst e2
      exact ⟨r, hr, e1.symm, hh, (mem_frs ht hc hr _).1 hx⟩
    · cases h
  · rintro ⟨r, hr, rfl, h1, h2⟩
    exact ⟨r, hr, by rw [if_pos h1]; exact List.mem_map.2 ⟨b, (mem_frs ht hc hr _).2 h2, rfl⟩⟩
theorem fr_in {r : Nat} (hr : r < t.evs.length) {b : Int} (h : ixI (col t c r) (c.rf.getD r default) < ixI (col t c r) b) : ∃ j : Nat, j < t.evs.length ∧ b = j ∧ (evi t j).dir = 2 ∧ (evi t j).loc = (evi t r).loc := by
  obtain ⟨q, hq, hql⟩ := loc_nat ht hr
  have h0 : 0 ≤ ixI (col t c r) b := by have := ixI_ge (col t c r) (c.rf.getD r default); omega
  rw [col_eq hq] at h0
  obtain ⟨j, hj, e, h1, h2⟩ := (co_mem hc hql).1 ((ixI_nonneg _ _).1 h0)
  exact ⟨j, hj, e, h1, by omega⟩
theorem frTo_inR : InR t.evs.length (frTo t c t.evs.length) := fun x hx => by
  obtain ⟨a, b⟩ := x
  obtain ⟨r, hr, rfl, h1, h2⟩ := (mem_frTo ht hc a b).1 hx
  obtain ⟨j, hj, rfl, _⟩ := fr_in ht hc hr h2
  dsimp only
  omega
theorem memb_fr {i j : Nat} (hi : i < t.evs.length) : memb (frTo t c t.evs.length) i j = frP t c i j := by
  rw [Bool.eq_iff_iff]
  unfold memb frP
  rw [decide_eq_true_eq, mem_frTo ht hc, Bool.and_eq_true, decide_eq_true_eq, decide_eq_true_eq]
  constructor
  · rintro ⟨r, hr, e, h1, h2⟩
    obtain rfl : i = r := by omega
    exact ⟨h1, h2⟩
  · rintro ⟨h1, h2⟩; exact ⟨i, hi, rfl, h1, h2⟩
end
end Go.Vw
end
