/- Plain: orders that are woven of threads. -/
import Derived.Test.YtnplmhfjoemgdaaGreatDoorScA
set_option linter.unusedSimpArgs false
set_option linter.unusedVariables false
namespace Go.Proofs.YtnplmhfjoemgdaaGreatDoor
open Go Go.Eng Go.Tc Go.Rl Go.Vw
def inTh (t : Tr) (h : Nat) (x : Nat) : Bool := decide ((evi t x).thread = (h : Int))
/-- how many of a thread are in a list; how many of a thread stand ahead of a number -/
def cntO (t : Tr) (o : List Nat) (h : Nat) : Nat := (o.filter (inTh t h)).length
def cntB (t : Tr) (h x : Nat) : Nat := ((List.range x).filter (inTh t h)).length
theorem cntB_succ (t : Tr) (h x : Nat) : cntB t h (x + 1) = cntB t h x + if inTh t h x = true then 1 else 0 := by
  unfold cntB
  rw [List.range_succ, List.filter_append, List.length_append]
  by_cases hx : inTh t h x = true
  · rw [if_pos hx, List.filter_cons_of_pos hx]; rfl
  · rw [if_neg hx, List.filter_cons_of_neg hx]; rfl
theorem cntB_le (t : Tr) (h x : Nat) : cntB t h x ≤ x := by
  unfold cntB
  have := List.length_filter_le (inTh t h) (List.range x)
  rwa [List.length_range] at this
def selB (t : Tr) (o : List Nat) (h x : Nat) : Bool := inTh t h x && decide (cntB t h x = cntO t o h)
def selTo (t : Tr) (o : List Nat) (h i : Nat) : List Nat := (List.range i).filter (selB t o h)
def nxT (t : Tr) (o : List Nat) (k : Nat) : List Nat := (List.range k).flatMap fun h => selTo t o h t.evs.length
theorem selTo_succ (t : Tr) (o : List Nat) (h i : Nat) : selTo t o h (i + 1) = selTo t o h i ++ if selB t o h i = true then [i] else [] := by
  unfold selTo
  rw [List.range_succ, List.filter_append]
  refine congrArg (fun l : List Nat => (List.range i).filter (selB t o h) ++ l) ?_
  by_cases hx : selB t o h i = true
  · rw [if_pos hx, List.filter_cons_of_pos hx]; rfl
  · rw [if_neg hx, List.filter_cons_of_neg hx]; rfl
theorem nxT_succ (t : Tr) (o : List Nat) (k : Nat) : nxT t o (k + 1) = nxT t o k ++ selTo t o k t.evs.length := by unfold nxT; rw [List.range_succ, List.flatMap_append]; simp
theorem selTo_len (t : Tr) (o : List Nat) (h i : Nat) : (selTo t o h i).length ≤ i := by
  unfold selTo
  have := List.length_filter_le (selB t o h) (List.range i)
  rwa [List.length_range] at this
theorem nxT_len (t : Tr) (o : List Nat) : ∀ k, (nxT t o k).length ≤ k * t.evs.length
  | 0 => by simp [nxT]
  | k + 1 => by
    rw [nxT_succ, List.length_append, Nat.add_mul]
    have := nxT_len t o k
    have := selTo_len t o k t.evs.length
    omega
theorem mem_nxT {t : Tr} {o : List Nat} {k x : Nat} : x ∈ nxT t o k ↔ ∃ h, h < k ∧ x < t.evs.length ∧ inTh t h x = true ∧ cntB t h x = cntO t o h := by
  unfold nxT selTo selB
  simp only [List.mem_flatMap, List.mem_range, List.mem_filter, Bool.and_eq_true, decide_eq_true_eq]
def dnL (t : Tr) (o : List Nat) : List Int := (List.range 16).map fun h => (cntO t o h : Int)
theorem dnL_len (t : Tr) (o : List Nat) : (dnL t o).length = 16 := by unfold dnL; rw [List.length_map, List.length_range]
theorem dnL_get (t : Tr) (o : List Nat) {h : Nat} (hh : h < 16) : (dnL t o).getD h default = (cntO t o h : Int) := by
  unfold dnL; rw [List.getD_eq_getElem?_getD, List.getElem?_map, List.getElem?_range hh]; rfl
theorem cntO_snoc (t : Tr) (o : List Nat) (x h : Nat) : cntO t (o ++ [x]) h = cntO t o h + if inTh t h x = true then 1 else 0 := by
  unfold cntO
  rw [List.filter_append, List.length_append]
  by_cases hx : inTh t h x = true
  · rw [if_pos hx, List.filter_cons_of_pos hx]; rfl
  · rw [if_neg hx, List.filter_cons_of_neg hx]; rfl
theorem dnL_set {t : Tr} {o : List Nat} {x h : Nat} (hx : (evi t x).thread = (h : Int)) : (dnL t o).set h ((cntO t o h : Int) + 1) = dnL t (o ++ [x]) := by
  apply List.ext_getElem (by rw [List.length_set, dnL_len, dnL_len])
  intro i g1 g2
  rw [List.getElem_set]
  simp only [dnL, List.getElem_map, List.getElem_range, cntO_snoc]
  by_cases e : h = i
  · subst e
    rw [if_pos rfl, if_pos (show inTh t h x = true from decide_eq_true hx)]; rfl
  · rw [if_neg e, if_neg (by
      unfold inTh
      rw [decide_eq_true_eq]
      omega)]; rfl
theorem nodF {l : List Nat} (p : Nat → Bool) (h : l.Nodup) : (l.filter p).Nodup := List.Pairwise.filter _ h
theorem lenSub : ∀ {l m : List Nat}, l.Nodup → (∀ x, x ∈ l → x ∈ m) → l.length ≤ m.length
  | [], _, _, _ => Nat.zero_le _
  | b :: l, m, hn, hs => by
    have hb : b ∈ m := hs b (.head _)
    have h1 := List.length_erase_of_mem hb
    have h2 := List.length_pos_of_mem hb
    have := lenSub (l := l) (m := m.erase b) (List.nodup_cons.1 hn).2 fun y hy => by
      have hyb : y ≠ b := fun e => (List.nodup_cons.1 hn).1 (e ▸ hy)
      exact (List.mem_erase_of_ne hyb).2 (hs y (.tail _ hy))
    simp; omega
theorem subN : ∀ {l m : List Nat}, l.Nodup → (∀ x, x ∈ l → x ∈ m) → m.length ≤ l.length → ∀ x, x ∈ m → x ∈ l
  | [], m, _, _, hl, x, hx => by
    have : m = [] := List.eq_nil_of_length_eq_zero (by simpa using hl)
    rw [this] at hx; cases hx
  | b :: l, m, hn, hs, hl, x, hx => by
    have hb : b ∈ m := hs b (.head _)
    by_cases e : x = b
    · exact e ▸ .head _
    · refine .tail _ (subN (m := m.erase b) (List.nodup_cons.1 hn).2 (fun y hy => ?_) ?_ x ((List.mem_erase_of_ne e).2 hx))
      · have hyb : y ≠ b := fun e => (List.nodup_cons.1 hn).1 (e ▸ hy)
        exact (List.mem_erase_of_ne hyb).2 (hs y (.tail _ hy))
      · have := List.length_erase_of_mem hb
        simp at hl; omega
/-- what is woven so far -/
structure Wv (t : Tr) (o : List Nat) : Prop where
  nodup : o.Nodup
  lt : ∀ x, x ∈ o → x < t.evs.length
  shut : ∀ b, b ∈ o → ∀ a, a < b → Vw.thB t a b = true → a ∈ o ∧ posN o a < posN o b
theorem Wv.nil (t : Tr) : Wv t [] := ⟨List.nodup_nil, fun _ h => (by cases h), fun _ h => (by cases h)⟩
theorem Wv.le {t : Tr} {o : List Nat} (h : Wv t o) : o.length ≤ t.evs.length := bound _ _ h.nodup h.lt
theorem inTh_th {t : Tr} {h a b : Nat} (ha : inTh t h a = true) (hb : inTh t h b = true) : Vw.thB t a b = true := by
  unfold inTh at ha hb
  rw [decide_eq_true_eq] at ha hb
  unfold Vw.thB
  rw [decide_eq_true_eq]; omega
theorem th_inTh {t : Tr} {h a b : Nat} (hb : inTh t h b = true) (hab : Vw.thB t a b = true) : inTh t h a = true := by
  unfold inTh at hb ⊢
  unfold Vw.thB at hab
  rw [decide_eq_true_eq] at *; omega
/-- the next one of a thread: it is not there, those of its thread ahead of it are -/
theorem Wv.next {t : Tr} {o : List Nat} (hW : Wv t o) {h x : Nat} (hx : inTh t h x = true) (hc : cntB t h x = cntO t o h) : x ∉ o ∧ ∀ a, a < x → Vw.thB t a x = true → a ∈ o := by
  have hno : x ∉ o := fun hm => by
    have hsub : ∀ y, y ∈ x :: (List.range x).filter (inTh t h) → y ∈ o.filter (inTh t h) := fun y hy => by
      rcases List.mem_cons.1 hy with rfl | hy
      · exact List.mem_filter.2 ⟨hm, hx⟩
      · obtain ⟨h1, h2⟩ := List.mem_filter.1 hy
        exact List.mem_filter.2 ⟨(hW.shut x hm y (List.mem_range.1 h1) (inTh_th h2 hx)).1, h2⟩
    have hnd : (x :: (List.range x).filter (inTh t h)).Nodup := List.nodup_cons.2 ⟨fun q => by have := List.mem_range.1 (List.mem_filter.1 q).1; omega, nodF _ List.nodup_range⟩
    have hle := lenSub hnd hsub
    unfold cntB cntO at hc
    rw [List.length_cons] at hle; omega
  refine ⟨hno, fun a ha hab => ?_⟩
  have hsub : ∀ y, y ∈ o.filter (inTh t h) → y ∈ (List.range x).filter (inTh t h) := fun y hy => by
    obtain ⟨h1, h2⟩ := List.mem_filter.1 hy
    refine List.mem_filter.2 ⟨List.mem_range.2 ?_, h2⟩
    rcases Nat.lt_trichotomy y x with q | q | q
    · exact q
    · exact absurd (q ▸ h1) hno
    · exact absurd (hW.shut y h1 x q (inTh_th hx h2)).1 hno
  have := subN (nodF _ hW.nodup) hsub (by unfold cntB cntO at hc; omega) a (List.mem_filter.2 ⟨List.mem_range.2 ha, th_inTh hx hab⟩)
  exact (List.mem_filter.1 this).1
theorem Wv.snoc {t : Tr} {o : List Nat} (hW : Wv t o) {x : Nat} (hx : x < t.evs.length) (hno : x ∉ o) (hall : ∀ a, a < x → Vw.thB t a x = true → a ∈ o) : Wv t (o ++ [x]) := by
  have hp : ∀ a, a ∈ o → posN (o ++ [x]) a = posN o a := fun a ha => by unfold posN; rw [List.idxOf_append, if_pos ha]
  have hpx : posN (o ++ [x]) x = o.length := by unfold posN; rw [List.idxOf_append, if_neg hno]; simp
  refine ⟨?_, fun y hy => ?_, fun b hb a hab ht => ?_⟩
  · rw [List.nodup_append]
    exact ⟨hW.nodup, by simp, fun a ha b hb => by rw [List.mem_singleton] at hb; subst hb; exact fun e => hno (e ▸ ha)⟩
  · rw [List.mem_append, List.mem_singleton] at hy
    rcases hy with hy | rfl
    · exact hW.lt y hy
    · exact hx
  · rw [List.mem_append, List.mem_singleton] at hb
    rcases hb with hb | rfl
    · obtain ⟨h1, h2⟩ := hW.shut b hb a hab ht
      exact ⟨List.mem_append_left _ h1, by rw [hp a h1, hp b hb]; exact h2⟩
    · have h1 := hall a hab ht
      exact ⟨List.mem_append_left _ h1, by rw [hp a h1, hpx]; exact pos_lt h1⟩
/-- some thread has one left -/
theorem Wv.some {t : Tr} {o : List Nat} (hW : Wv t o) (ht : trOk t = true) (hl : o.length < t.evs.length) : ¬ (nxT t o 16).length = 0 := by
  intro h0
  have hex : ∃ x, x < t.evs.length ∧ x ∉ o := Go.Rl.cover _ _ hl
  -- the least one that is not there
  have hleast : ∀ n, (∃ x, x < n ∧ x < t.evs.length ∧ x ∉ o) → ∃ x, x < t.evs.length ∧ x ∉ o ∧ ∀ y, y < x → y ∈ o := by
    intro n
    induction n with
    | zero => rintro ⟨x, hx, _⟩; omega
    | succ n ih =>
      rintro ⟨x, hx, hxl, hxo⟩
      by_cases q : ∃ y, y < n ∧ y < t.evs.length ∧ y ∉ o
      · exact ih q
      · refine ⟨x, hxl, hxo, fun y hy => ?_⟩
        apply Classical.byContradiction
        intro hyo
        exact q ⟨y, by omega, by omega, hyo⟩
  obtain ⟨x0, hx0, hx0o⟩ := hex
  obtain ⟨x, hx, hxo, hall⟩ := hleast (x0 + 1) ⟨x0, by omega, hx0, hx0o⟩
  have hth := trOk_ev ht hx
  simp only [evAt, evOne, placedB, Bool.and_eq_true, decide_eq_true_eq] at hth
  have hth0 : 0 ≤ (evi t x).thread ∧ (evi t x).thread < 16 := by unfold evi; omega
  obtain ⟨h, hh⟩ : ∃ h : Nat, (evi t x).thread = (h : Int) := ⟨(evi t x).thread.toNat, by omega⟩
  have hin : inTh t h x = true := decide_eq_true hh
  have hmem : x ∈ nxT t o 16 := by
    refine mem_nxT.2 ⟨h, by omega, hx, hin, ?_⟩
    have e1 : ∀ y, y ∈ (List.range x).filter (inTh t h) → y ∈ o.filter (inTh t h) := fun y hy => by
      obtain ⟨h1, h2⟩ := List.mem_filter.1 hy
      exact List.mem_filter.2 ⟨hall y (List.mem_range.1 h1), h2⟩
    have e2 : ∀ y, y ∈ o.filter (inTh t h) → y ∈ (List.range x).filter (inTh t h) := fun y hy => by
      obtain ⟨h1, h2⟩ := List.mem_filter.1 hy
      refine List.mem_filter.2 ⟨List.mem_range.2 ?_, h2⟩
      rcases Nat.lt_trichotomy y x with q | q | q
      · exact q
      · exact absurd (q ▸ h1) hxo
      · exact absurd (hW.shut y h1 x q (inTh_th hin h2)).1 hxo
    have l1 := lenSub (nodF _ List.nodup_range) e1
    have l2 := lenSub (nodF _ hW.nodup) e2
    unfold cntB cntO
    omega
  rw [List.eq_nil_of_length_eq_zero h0] at hmem
  cases hmem
theorem Wv.done {t : Tr} {o : List Nat} (hW : Wv t o) (ht : trOk t = true) (hl : o.length = t.evs.length) : IsOrd t.evs.length o ∧ ∀ a b, a < t.evs.length → b < t.evs.length → poP t a b = true → posN o a < posN o b := by
  have hO : IsOrd t.evs.length o := ⟨hW.nodup, hW.lt, hl⟩
  refine ⟨hO, fun a b ha hb hp => ?_⟩
  rw [po_lt ht ha hb, Bool.and_eq_true, decide_eq_true_eq] at hp
  exact (hW.shut b (hO.all hb) a hp.1 hp.2).2
end Go.Proofs.YtnplmhfjoemgdaaGreatDoor
