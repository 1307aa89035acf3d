/- Plain: a trace with fewer fences and pairs (chapter 20). -/
import Derived.Test.YtgidhhpjabdnkaaGreatDoorRvA
set_option linter.unusedSimpArgs false
set_option linter.unusedVariables false
set_option linter.unusedSectionVars false
namespace Go.Vw
open Go Go.Eng Go.Tc Go.Rl
def cutT (t : Tr) (B : List Bar) (A D C : List Pair) : Tr := { t with bars := B, addr := A, data := D, ctrl := C }
/-- whether bit number j of a mask is not set -/
def bitZ (mask : BitVec 64) (j : Nat) : Bool := decide (mask >>> j &&& 1#64 = 0#64)
/-- those of the first so many that a mask leaves -/
def fewTo {α : Type} [Inhabited α] (m : Nat) (l : List α) (mask : BitVec 64) (k : Nat) : List α := ((List.range k).filter fun i => bitZ mask (i % m)).map fun i => l.getD i default
def few {α : Type} [Inhabited α] (m : Nat) (l : List α) (mask : BitVec 64) : List α := fewTo m l mask l.length
theorem fewTo_zero {α : Type} [Inhabited α] (m : Nat) (l : List α) (mask : BitVec 64) : fewTo m l mask 0 = [] := rfl
theorem fewTo_yes {α : Type} [Inhabited α] {m : Nat} {l : List α} {mask : BitVec 64} {k : Nat} (h : bitZ mask (k % m) = true) : fewTo m l mask (k + 1) = fewTo m l mask k ++ [l.getD k default] := by
  unfold fewTo
  rw [List.range_succ, List.filter_append, List.map_append]
  simp [h]
theorem fewTo_no {α : Type} [Inhabited α] {m : Nat} {l : List α} {mask : BitVec 64} {k : Nat} (h : bitZ mask (k % m) = false) : fewTo m l mask (k + 1) = fewTo m l mask k := by
  unfold fewTo
  rw [List.range_succ, List.filter_append, List.map_append]
  simp [h]
theorem fewTo_len {α : Type} [Inhabited α] (m : Nat) (l : List α) (mask : BitVec 64) (k : Nat) : (fewTo m l mask k).length ≤ k := by
  unfold fewTo
  rw [List.length_map]
  exact Nat.le_trans (List.length_filter_le _ _) (by rw [List.length_range]; exact Nat.le_refl _)
theorem few_sub {α : Type} [Inhabited α] (m : Nat) (l : List α) (mask : BitVec 64) : (few m l mask).Sublist l := by
  have e : (List.range l.length).map (fun i => l.getD i default) = l := by
    refine List.ext_getElem (by simp) fun i h1 h2 => ?_
    rw [List.getElem_map, List.getElem_range, List.getD_eq_getElem?_getD, List.getElem?_eq_getElem h2]; rfl
  have h := (List.filter_sublist (p := fun i => bitZ mask (i % m)) (l := List.range l.length)).map fun i => l.getD i default
  rw [e] at h
  exact h
theorem few_none {α : Type} [Inhabited α] (m : Nat) (l : List α) (mask : BitVec 64) (hm : 0 < m) (h : ∀ j, j < m → bitZ mask j = false) : few m l mask = [] := by
  unfold few fewTo
  rw [List.filter_eq_nil_iff.2 fun i _ => by rw [h _ (Nat.mod_lt _ hm)]; simp]; rfl
def fewT (t : Tr) (mask : BitVec 64) : Tr := cutT t (few 16 t.bars mask) (few 8 t.addr (mask >>> 16)) (few 8 t.data (mask >>> 24)) (few 8 t.ctrl (mask >>> 32))
theorem fewT_none (t : Tr) : fewT t 9223372036854775807#64 = cutT t [] [] [] [] := by
  unfold fewT
  rw [few_none 16 t.bars _ (by omega) (by decide), few_none 8 t.addr _ (by omega) (by decide), few_none 8 t.data _ (by omega) (by decide), few_none 8 t.ctrl _ (by omega) (by decide)]
/-! lists that go up -/
theorem up_pair {α : Type} [Inhabited α] {R : α → α → Bool} (ht : ∀ a b c, R a b = true → R b c = true → R a c = true) : ∀ {l : List α}, (∀ i, i + 1 < l.length → R (l.getD i default) (l.getD (i + 1) default) = true) → l.Pairwise fun a b => R a b = true
  | [], _ => .nil
  | a :: l, h => by
    have hl : l.Pairwise fun a b => R a b = true := up_pair ht fun i hi => h (i + 1) (by simpa using hi)
    refine List.pairwise_cons.2 ⟨fun b hb => ?_, hl⟩
    cases l with
    | nil => cases hb
    | cons x l =>
      have h0 : R a x = true := h 0 (by simp)
      rcases List.mem_cons.1 hb with rfl | hb
      · exact h0
      · exact ht _ _ _ h0 ((List.pairwise_cons.1 hl).1 b hb)
theorem pair_up {α : Type} [Inhabited α] {R : α → α → Bool} {l : List α} (h : l.Pairwise fun a b => R a b = true) (i : Nat) (hi : i + 1 < l.length) : R (l.getD i default) (l.getD (i + 1) default) = true := by
  have := List.pairwise_iff_getElem.1 h i (i + 1) (by omega) hi (by omega)
  rw [List.getD_eq_getElem?_getD, List.getElem?_eq_getElem (by omega), List.getD_eq_getElem?_getD, List.getElem?_eq_getElem hi]
  exact this
/-- each is fine, and each is behind the one ahead -/
def allUp {α : Type} [Inhabited α] (P : α → Bool) (R : α → α → Bool) (l : List α) : Bool := (List.range l.length).all fun i => P (l.getD i default) && (decide (i = 0) || R (l.getD (i - 1) default) (l.getD i default))
theorem allUp_iff {α : Type} [Inhabited α] {P : α → Bool} {R : α → α → Bool} (ht : ∀ a b c, R a b = true → R b c = true → R a c = true) {l : List α} : allUp P R l = true ↔ (∀ x, x ∈ l → P x = true) ∧ l.Pairwise fun a b => R a b = true := by
  unfold allUp
  rw [List.all_eq_true]
  constructor
  · intro h
    refine ⟨fun x hx => ?_, up_pair ht fun i hi => ?_⟩
    · obtain ⟨i, hi, rfl⟩ := List.mem_iff_getElem.1 hx
      have := h i (List.mem_range.2 hi)
      rw [Bool.and_eq_true, List.getD_eq_getElem?_getD, List.getElem?_eq_getElem hi] at this
      exact this.1
    · have := h (i + 1) (List.mem_range.2 hi)
      rw [Bool.and_eq_true, Bool.or_eq_true, decide_eq_true_eq] at this
      rcases this.2 with q | q
      · omega
      · simpa using q
  · rintro ⟨h1, h2⟩ i hi
    rw [List.mem_range] at hi
    rw [Bool.and_eq_true, Bool.or_eq_true, decide_eq_true_eq]
    refine ⟨h1 _ ?_, ?_⟩
    · rw [List.getD_eq_getElem?_getD, List.getElem?_eq_getElem hi]; exact List.getElem_mem hi
    · by_cases q : i = 0
      · exact .inl q
      · right
        have := pair_up h2 (i - 1) (by omega)
        rwa [show i - 1 + 1 = i by omega] at this
theorem allUp_sub {α : Type} [Inhabited α] {P : α → Bool} {R : α → α → Bool} (ht : ∀ a b c, R a b = true → R b c = true → R a c = true) {l l' : List α} (hs : l'.Sublist l) (h : allUp P R l = true) : allUp P R l' = true := by
  rw [allUp_iff ht] at h ⊢
  exact ⟨fun x hx => h.1 x (hs.subset hx), h.2.sublist hs⟩
theorem ahead_trans (a b c : Int × Int) (h1 : aheadP a.1 a.2 b.1 b.2 = true) (h2 : aheadP b.1 b.2 c.1 c.2 = true) : aheadP a.1 a.2 c.1 c.2 = true := by
  unfold aheadP at *
  simp only [Bool.or_eq_true, Bool.and_eq_true, decide_eq_true_eq] at *
  omega
theorem pairs_sub {t t' : Tr} (hT : ∀ w p, pairOne t' w p = pairOne t w p) {l l' : List Pair} {w : Bool} (hs : l'.Sublist l) (h : pairedB t l w = true) : pairedB t' l' w = true := by
  have h' : allUp (pairOne t w) (fun a b => aheadP a.A a.B b.A b.B) l = true := h
  have := allUp_sub (fun a b c => ahead_trans (a.A, a.B) (b.A, b.B) (c.A, c.B)) hs h'
  have e : pairOne t' w = pairOne t w := funext (hT w)
  rw [← e] at this
  exact this
theorem bars_sub {t : Tr} {B : List Bar} {A D C : List Pair} (hs : B.Sublist t.bars) (h : barsOkB t = true) : barsOkB (cutT t B A D C) = true := by
  unfold barsOkB at h ⊢
  rw [Bool.and_eq_true, decide_eq_true_eq] at h ⊢
  refine ⟨Nat.le_trans hs.length_le h.1, ?_⟩
  have h' : allUp (fun b : Bar => placedB b.thread b.place && decide (1 ≤ b.fence) && decide (b.fence ≤ 11) && barOff t b) (fun a b : Bar => aheadP a.thread a.place b.thread b.place) t.bars = true := by
    unfold allUp
    rw [List.all_eq_true] at h ⊢
    intro i hi
    have := h.2 i hi
    unfold barAt at this
    simp only [Bool.and_eq_true] at this ⊢
    exact ⟨⟨this.1.1, this.2⟩, this.1.2⟩
  have := allUp_sub (fun a b c => ahead_trans (a.thread, a.place) (b.thread, b.place) (c.thread, c.place)) hs h'
  unfold allUp at this
  rw [List.all_eq_true] at this ⊢
  intro i hi
  have := this i hi
  show barAt (cutT t B A D C) i = true
  unfold barAt
  simp only [Bool.and_eq_true] at this ⊢
  exact ⟨⟨this.1.1, this.2⟩, this.1.2⟩
theorem cut_ok {t : Tr} {B : List Bar} {A D C : List Pair} (hB : B.Sublist t.bars) (hA : A.Sublist t.addr) (hD : D.Sublist t.data) (hC : C.Sublist t.ctrl) (h : trOk t = true) : trOk (cutT t B A D C) = true := by
  unfold trOk at h ⊢
  simp only [Bool.and_eq_true] at h ⊢
  obtain ⟨⟨⟨⟨⟨⟨h1, h2⟩, h3⟩, h4⟩, h5⟩, h6⟩, h7⟩ := h
  exact ⟨⟨⟨⟨⟨⟨h1, h2⟩, bars_sub hB h3⟩, pairs_sub (fun _ _ => rfl) hA h4⟩, pairs_sub (fun _ _ => rfl) hD h5⟩, pairs_sub (fun _ _ => rfl) hC h6⟩, h7⟩
end Go.Vw
namespace Go.Proofs.YtgidhhpjabdnkaaGreatDoor
open Go Go.Eng Go.Tc Go.Rl Go.Vw
section
variable {t : Tr} {B : List Bar} {A D C : List Pair} (hB : B.Sublist t.bars) (hA : A.Sublist t.addr) (hD : D.Sublist t.data) (hC : C.Sublist t.ctrl)
include hB hA hD hC
theorem cut_z {c : Cd} (h : cdE t c = 0) : cdE (cutT t B A D C) c = 0 := by
  obtain ⟨h1, h2⟩ := cdE_ok h
  unfold cdE
  rw [if_pos (cut_ok hB hA hD hC h1)]
  exact if_pos h2
theorem memb_sub {l l' : List Pair} (hs : l'.Sublist l) {a b : Nat} (h : memb l' a b = true) : memb l a b = true := by
  unfold memb at *
  rw [decide_eq_true_eq] at *
  exact hs.subset h
theorem cut_rule {c : Cd} {k : Int} {a b : Nat} (h : ruleP (cutT t B A D C) c k a b = true) : ruleP t c k a b = true := by
  unfold ruleP at h ⊢
  rw [Bool.and_eq_true] at h ⊢
  refine ⟨h.1, ?_⟩
  have h := h.2
  unfold ruleB at h ⊢
  by_cases k1 : k = 1
  · rw [if_pos k1] at h ⊢; exact h
  rw [if_neg k1] at h ⊢
  by_cases k2 : k = 2
  · rw [if_pos k2] at h ⊢; exact h
  rw [if_neg k2] at h ⊢
  by_cases k4 : k = 4
  · rw [if_pos k4] at h ⊢
    unfold fnB at h ⊢
    rw [List.any_eq_true] at h ⊢
    obtain ⟨x, hx, h⟩ := h
    exact ⟨x, hB.subset hx, h⟩
  rw [if_neg k4] at h ⊢
  by_cases k9 : k = 9
  · rw [if_pos k9] at h ⊢; exact memb_sub hB hA hD hC hA h
  rw [if_neg k9] at h ⊢
  by_cases k10 : k = 10
  · rw [if_pos k10] at h ⊢; exact memb_sub hB hA hD hC hD h
  rw [if_neg k10] at h ⊢
  by_cases k11 : k = 11
  · rw [if_pos k11] at h ⊢
    rw [Bool.and_eq_true] at h ⊢
    exact ⟨h.1, memb_sub hB hA hD hC hC h.2⟩
  rw [if_neg k11] at h ⊢
  by_cases k12 : k = 12
  · rw [if_pos k12] at h ⊢
    unfold pasB at h ⊢
    rw [Bool.and_eq_true, Bool.or_eq_true] at h ⊢
    exact ⟨h.1, h.2.imp (memb_sub hB hA hD hC hA) (memb_sub hB hA hD hC hD)⟩
  rw [if_neg k12] at h ⊢
  by_cases k13 : k = 13
  · rw [if_pos k13] at h ⊢
    unfold behB at h ⊢
    rw [Bool.and_eq_true, List.any_eq_true] at h ⊢
    obtain ⟨h0, m, hm, h⟩ := h
    refine ⟨h0, m, hm, ?_⟩
    rw [Bool.and_eq_true] at h ⊢
    exact ⟨h.1, memb_sub hB hA hD hC hA h.2⟩
  · rw [if_neg k13] at h; cases h
theorem cut_rv {c : Cd} {a b : Nat} (h : rvP (cutT t B A D C) c a b = true) : rvP t c a b = true := by
  unfold rvP rulesTo at h ⊢
  rw [List.any_eq_true] at h ⊢
  obtain ⟨i, hi, h⟩ := h
  exact ⟨i, hi, cut_rule hB hA hD hC h⟩
theorem cut_coh {c : Cd} (hz : cdE t c = 0) : cohB (cutT t B A D C) c = cohB t c := by
  unfold cohB
  rw [if_pos hz, if_pos (cut_z hB hA hD hC hz)]
  rfl
/-- what may be may be with fewer of them -/
theorem cut_may {c : Cd} (hz : cdE t c = 0) (h : rvB t c = true) : rvB (cutT t B A D C) c = true := by
  have hb := (trOk_lens (cdE_ok hz).1).1
  unfold rvB at h ⊢
  rw [Bool.and_eq_true] at h ⊢
  refine ⟨by rw [cut_coh hB hA hD hC hz]; exact h.1, ?_⟩
  refine acyP_mono (t := cutT t B A D C) hb (q := rhP t c) (fun a b _ _ hq => ?_) h.2
  unfold rhP at hq ⊢
  simp only [Bool.or_eq_true] at hq ⊢
  rcases hq with ((hq | hq) | hq) | hq
  · exact .inl (.inl (.inl (cut_rv hB hA hD hC hq)))
  · exact .inl (.inl (.inr hq))
  · exact .inl (.inr hq)
  · exact .inr hq
end
/-- with none of them: the rules 1 and 2 -/
theorem bare_rv (t : Tr) (c : Cd) (a b : Nat) : rvP (cutT t [] [] [] []) c a b = (ruleP (cutT t [] [] [] []) c 1 a b || ruleP (cutT t [] [] [] []) c 2 a b) := by
  rw [Bool.eq_iff_iff, Bool.or_eq_true]
  constructor
  · intro h
    obtain ⟨k, h⟩ := rv_rule h
    by_cases k1 : k = 1
    · subst k1; exact .inl h
    by_cases k2 : k = 2
    · subst k2; exact .inr h
    exfalso
    unfold ruleP ruleB at h
    rw [Bool.and_eq_true, if_neg k1, if_neg k2] at h
    obtain ⟨_, h⟩ := h
    have mn : ∀ a b, memb [] a b = false := fun a b => by unfold memb; simp
    by_cases k4 : k = 4
    · rw [if_pos k4] at h; cases h
    rw [if_neg k4] at h
    by_cases k9 : k = 9
    · rw [if_pos k9] at h
      have : memb [] a b = true := h
      rw [mn] at this; cases this
    rw [if_neg k9] at h
    by_cases k10 : k = 10
    · rw [if_pos k10] at h
      have : memb [] a b = true := h
      rw [mn] at this; cases this
    rw [if_neg k10] at h
    by_cases k11 : k = 11
    · rw [if_pos k11, Bool.and_eq_true] at h
      have : memb [] a b = true := h.2
      rw [mn] at this; cases this
    rw [if_neg k11] at h
    by_cases k12 : k = 12
    · rw [if_pos k12] at h
      unfold pasB at h
      rw [Bool.and_eq_true] at h
      have : (memb [] a (c.rf.getD b default).toNat || memb [] a (c.rf.getD b default).toNat) = true := h.2
      rw [mn] at this; cases this
    rw [if_neg k12] at h
    by_cases k13 : k = 13
    · rw [if_pos k13] at h
      unfold behB at h
      rw [Bool.and_eq_true, List.any_eq_true] at h
      obtain ⟨_, m, _, h⟩ := h
      rw [Bool.and_eq_true] at h
      have : memb [] a m = true := h.2
      rw [mn] at this; cases this
    · rw [if_neg k13] at h; cases h
  · rintro (h | h)
    · exact rule_rv (k := 1) (by omega) (by omega) h
    · exact rule_rv (k := 2) (by omega) (by omega) h
end Go.Proofs.YtgidhhpjabdnkaaGreatDoor
