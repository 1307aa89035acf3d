/- Candidates by number: plain: each may be, they rise, their numbers go there and back. -/
import Derived.Test.YtdpcdbepeemflaaCaH
set_option linter.unusedSimpArgs false
set_option linter.unusedVariables false
namespace Go.Tc
open Go Go.Eng
theorem pick_perm {l : List Int} {k : Nat} (h : k < l.length) : (l.getD k default :: l.eraseIdx k).Perm l := by
  rw [List.getD_eq_getElem?_getD, List.getElem?_eq_getElem h, List.eraseIdx_eq_take_drop_succ]
  have e : l = l.take k ++ l[k] :: l.drop (k + 1) := by rw [← List.drop_eq_getElem_cons h, List.take_append_drop]
  exact List.perm_middle.symm.trans (List.Perm.of_eq e.symm)
theorem ord_perm : ∀ (m : Nat) (l : List Int) (n : Nat), l.length = m → n < fact m → (ordN m l n).Perm l
  | 0, l, n, h, _ => by
    have : l = [] := List.length_eq_zero_iff.1 h
    subst this; exact .nil
  | m + 1, l, n, h, hn => by
    have hk : n / fact m < l.length := by rw [h]; exact ord_lt hn
    have hl : (l.eraseIdx (n / fact m)).length = m := by rw [List.length_eraseIdx, if_pos hk]; omega
    exact (List.Perm.cons _ (ord_perm m _ _ hl (Nat.mod_lt _ (fact_pos m)))).trans (pick_perm hk)
theorem idx_at {l : List Int} (h : l.Nodup) {k : Nat} (hk : k < l.length) : l.idxOf (l.getD k default) = k := by
  refine idxOf_at hk rfl fun j hj e => ?_
  rw [List.getD_eq_getElem?_getD, List.getD_eq_getElem?_getD, List.getElem?_eq_getElem hk, List.getElem?_eq_getElem (show j < l.length by omega)] at e
  exact List.pairwise_iff_getElem.1 h j k (by omega) hk hj e
theorem pl_ord : ∀ (m : Nat) (l : List Int) (n : Nat), l.length = m → l.Nodup → n < fact m → plN l (ordN m l n) 0 = n
  | 0, l, n, _, _, hn => by
    have : n = 0 := by have : fact 0 = 1 := rfl; omega
    subst this; rfl
  | m + 1, l, n, h, hd, hn => by
    have hk : n / fact m < l.length := by rw [h]; exact ord_lt hn
    have hl : (l.eraseIdx (n / fact m)).length = m := by rw [List.length_eraseIdx, if_pos hk]; omega
    have hm := Nat.mod_lt n (fact_pos m)
    have ih := pl_ord m (l.eraseIdx (n / fact m)) (n % fact m) hl (hd.sublist (List.eraseIdx_sublist ..)) hm
    rw [ordN, plN, idx_at hd hk, pl_add _ _ _ (ord_perm m _ _ hl hm).symm, ih, hl, Nat.zero_mul, Nat.zero_add]
    exact Nat.div_add_mod' n (fact m)
theorem rdOf_rising (t : Tr) (i : Nat) : Rising (rdOf t i) := by
  unfold rdOf
  split
  · refine List.pairwise_cons.2 ⟨fun x hx => ?_, wrTo_rising t _ _⟩
    obtain ⟨j, _, e, _⟩ := wm_iff.1 hx
    omega
  · exact List.pairwise_singleton _ _
theorem Rising.lt {l : List Int} (h : Rising l) {i j : Nat} (hij : i < j) (hj : j < l.length) : l.getD i default < l.getD j default := by
  rw [List.getD_eq_getElem?_getD, List.getD_eq_getElem?_getD, List.getElem?_eq_getElem hj, List.getElem?_eq_getElem (show i < l.length by omega)]
  exact List.pairwise_iff_getElem.1 h i j (by omega) hj hij
section
variable {t : Tr} {n : Nat}
theorem rfAt_get {i : Nat} (hi : i < t.evs.length) : (candAt t n).rf.getD i default = rfAt t n i := by
  show ((List.range t.evs.length).map (rfAt t n)).getD i default = _
  rw [List.getD_eq_getElem?_getD, List.getElem?_map, List.getElem?_range hi]; rfl
theorem coAt_get {k : Nat} (hk : k < t.locs.length) : (candAt t n).co.getD k default = coAt t n k := by
  show ((List.range t.locs.length).map (coAt t n)).getD k default = _
  rw [List.getD_eq_getElem?_getD, List.getElem?_map, List.getElem?_range hk]; rfl
theorem coAt_perm (k : Nat) : (coAt t n k).Perm (wr t (k : Int)) := ord_perm _ _ _ rfl (Nat.mod_lt _ (fact_pos _))
theorem candAt_ok (ht : trOk t = true) : cdE t (candAt t n) = 0 := by
  unfold cdE
  rw [if_pos ht, if_pos]
  refine (candB_iff t _).2 ⟨by rw [← rfTo'_all, rfTo'_len], by rw [← coTo_all, coTo_len], fun i hi => ?_, fun k hk => ?_⟩
  · rw [rdb_eq, decide_eq_true_eq, rfAt_get hi, rfAt]
    have hm := Nat.mod_lt (remE t n (t.evs.length - 1 - i)) (rdOf_pos t i)
    rw [List.getD_eq_getElem?_getD, List.getElem?_eq_getElem hm]
    exact List.getElem_mem hm
  · rw [wrb_eq, decide_eq_true_eq, coAt_get hk]
    exact sort_rising (coAt_perm k) (wrTo_rising t _ _)
theorem remC_lt (h : n < candN t) : ∀ d, d ≤ t.locs.length → remC t n d < evProd t t.evs.length * locProd t (t.locs.length - d)
  | 0, _ => h
  | d + 1, hd => by
    have ih := remC_lt h d (by omega)
    have e : t.locs.length - d = (t.locs.length - 1 - d) + 1 := by omega
    rw [e, locProd, ← Nat.mul_assoc] at ih
    rw [remC, show t.locs.length - (d + 1) = t.locs.length - 1 - d by omega]
    exact (Nat.div_lt_iff_lt_mul (fact_pos _)).2 ih
theorem remE_lt (h : n < candN t) : ∀ d, d ≤ t.evs.length → remE t n d < evProd t (t.evs.length - d)
  | 0, _ => by
    have := remC_lt h t.locs.length (Nat.le_refl _)
    rw [Nat.sub_self, locProd, Nat.mul_one] at this
    exact this
  | d + 1, hd => by
    have ih := remE_lt h d (by omega)
    have e : t.evs.length - d = (t.evs.length - 1 - d) + 1 := by omega
    rw [e, evProd, ← rdOf_len] at ih
    rw [remE, show t.evs.length - (d + 1) = t.evs.length - 1 - d by omega]
    exact (Nat.div_lt_iff_lt_mul (rdOf_pos t _)).2 ih
theorem remE_end (h : n < candN t) : remE t n t.evs.length = 0 := by
  have := remE_lt h t.evs.length (Nat.le_refl _)
  rw [Nat.sub_self, evProd] at this
  omega
theorem numE_at (h : n < candN t) : ∀ i, i ≤ t.evs.length → numE t (candAt t n) i = remE t n (t.evs.length - i)
  | 0, _ => (remE_end h).symm
  | i + 1, hi => by
    have ih := numE_at h i (by omega)
    have hm := Nat.mod_lt (remE t n (t.evs.length - 1 - i)) (rdOf_pos t i)
    rw [numE, ih, rfAt_get hi, rfAt, idx_at (rdOf_rising t i).nodup hm]
    have e : t.evs.length - i = (t.evs.length - 1 - i) + 1 := by omega
    rw [e, remE, show t.evs.length - 1 - (t.evs.length - 1 - i) = i by omega, show t.evs.length - (i + 1) = t.evs.length - 1 - i by omega]
    exact Nat.div_add_mod' _ _
theorem numL_at (h : n < candN t) : ∀ k, k ≤ t.locs.length → numL t (candAt t n) k = remC t n (t.locs.length - k)
  | 0, _ => by
    have := numE_at h t.evs.length (Nat.le_refl _)
    rw [Nat.sub_self] at this
    exact this
  | k + 1, hk => by
    have ih := numL_at h k (by omega)
    have hm := Nat.mod_lt (remC t n (t.locs.length - 1 - k)) (fact_pos (wr t (k : Int)).length)
    have hnd : (wr t (k : Int)).Nodup := (wrTo_rising t _ _).nodup
    rw [numL, ih, coAt_get hk, coAt, ordL, pl_ord _ _ _ rfl hnd hm]
    have e : t.locs.length - k = (t.locs.length - 1 - k) + 1 := by omega
    rw [e, remC, show t.locs.length - 1 - (t.locs.length - 1 - k) = k by omega, show t.locs.length - (k + 1) = t.locs.length - 1 - k by omega]
    exact Nat.div_add_mod' _ _
theorem num_at (h : n < candN t) : numL t (candAt t n) t.locs.length = n := by
  rw [numL_at h _ (Nat.le_refl _), Nat.sub_self]; rfl
end
theorem first_diff {f g b : Nat → Nat} (hf : ∀ d, f (d + 1) = f d / b d) (hg : ∀ d, g (d + 1) = g d / b d) (h0 : f 0 < g 0) : ∀ D, f D = g D → ∃ d, d < D ∧ f d % b d < g d % b d ∧ ∀ d', d < d' → d' ≤ D → f d' = g d'
  | 0, h => by omega
  | D + 1, h => by
    by_cases e : f D = g D
    · obtain ⟨d, h1, h2, h3⟩ := first_diff hf hg h0 D e
      refine ⟨d, by omega, h2, fun d' q1 q2 => ?_⟩
      by_cases r : d' = D + 1
      · rw [r]; exact h
      · exact h3 d' q1 (by omega)
    · have mono : ∀ d, f d ≤ g d := fun d => by
        induction d with
        | zero => omega
        | succ d ih => rw [hf, hg]; exact Nat.div_le_div_right ih
      have hlt : f D < g D := by have := mono D; omega
      refine ⟨D, Nat.lt_succ_self _, ?_, fun d' q1 q2 => ?_⟩
      · have e1 := Nat.div_add_mod (f D) (b D)
        have e2 := Nat.div_add_mod (g D) (b D)
        rw [hf, hg] at h
        rw [h] at e1
        omega
      · rw [show d' = D + 1 by omega]; exact h
end Go.Tc
namespace Go.Proofs.Ytdpcdbepeemflaa
open Go Go.Eng Go.Tc
theorem cmp_first : ∀ (xs ys : List Int) (i : Nat), i < xs.length → i < ys.length → (∀ j, j < i → xs.getD j default = ys.getD j default) → xs.getD i default < ys.getD i default → cmpL xs ys = -1
  | x :: xs, y :: ys, 0, _, _, _, h => by
    have h' : x < y := h
    unfold cmpL; rw [if_pos h']
  | x :: xs, y :: ys, i + 1, h1, h2, he, h => by
    have e : x = y := he 0 (by omega)
    subst e
    unfold cmpL
    rw [if_neg (Int.lt_irrefl x), if_neg (Int.lt_irrefl x)]
    exact cmp_first xs ys i (by simpa using h1) (by simpa using h2) (fun j hj => he (j + 1) (by omega)) h
theorem ord_rise : ∀ (m : Nat) (l : List Int) (a b : Nat), l.length = m → Rising l → a < b → b < fact m → cmpL (ordN m l a) (ordN m l b) = -1
  | 0, l, a, b, _, _, hab, hb => by have : fact 0 = 1 := rfl; omega
  | m + 1, l, a, b, h, hr, hab, hb => by
    have hkb : b / fact m < l.length := by rw [h]; exact ord_lt hb
    have hle : a / fact m ≤ b / fact m := Nat.div_le_div_right (by omega)
    rw [ordN, ordN]
    unfold cmpL
    by_cases e : a / fact m = b / fact m
    · have hmod : a % fact m < b % fact m := by
        have e1 := Nat.div_add_mod a (fact m)
        have e2 := Nat.div_add_mod b (fact m)
        rw [e] at e1
        omega
      rw [e, if_neg (Int.lt_irrefl _), if_neg (Int.lt_irrefl _)]
      exact ord_rise m _ _ _ (by rw [List.length_eraseIdx, if_pos hkb]; omega) (List.Pairwise.sublist (List.eraseIdx_sublist ..) hr) hmod (Nat.mod_lt _ (fact_pos m))
    · rw [if_pos (hr.lt (by omega) hkb)]
/-- a candidate of a lower number stands ahead -/
def Ahead (a b : Cd) : Prop := cmpL a.rf b.rf = -1 ∨ (a.rf = b.rf ∧ ∃ k, k < a.co.length ∧ k < b.co.length ∧ (∀ j, j < k → a.co.getD j default = b.co.getD j default) ∧ cmpL (a.co.getD k default) (b.co.getD k default) = -1)
theorem at_rise {t : Tr} {m n : Nat} (hmn : m < n) (hn : n < candN t) : Ahead (candAt t m) (candAt t n) := by
  have l1 : ∀ q, (candAt t q).rf.length = t.evs.length := fun q => by rw [← rfTo'_all, rfTo'_len]
  have l2 : ∀ q, (candAt t q).co.length = t.locs.length := fun q => by rw [← coTo_all, coTo_len]
  have hm : m < candN t := by omega
  have monoC : ∀ d, remC t m d ≤ remC t n d := fun d => by
    induction d with
    | zero => exact Nat.le_of_lt hmn
    | succ d ih => exact Nat.div_le_div_right ih
  by_cases hq : remC t m t.locs.length = remC t n t.locs.length
  · have hE : ∀ d, remE t m d = remE t n d := fun d => by
      induction d with
      | zero => exact hq
      | succ d ih => rw [remE, remE, ih]
    refine .inr ⟨?_, ?_⟩
    · refine getD_ext (by rw [l1, l1]) fun i hi => ?_
      rw [l1] at hi
      rw [rfAt_get hi, rfAt_get hi, rfAt, rfAt, hE]
    · obtain ⟨d, h1, h2, h3⟩ := first_diff (f := remC t m) (g := remC t n) (b := fun d => fact (wr t ((t.locs.length - 1 - d : Nat) : Int)).length) (fun _ => rfl) (fun _ => rfl) hmn t.locs.length hq
      refine ⟨t.locs.length - 1 - d, by rw [l2]; omega, by rw [l2]; omega, fun j hj => ?_, ?_⟩
      · rw [coAt_get (by omega), coAt_get (by omega), coAt, coAt, h3 (t.locs.length - 1 - j) (by omega) (by omega)]
      · rw [coAt_get (by omega), coAt_get (by omega), coAt, coAt, show t.locs.length - 1 - (t.locs.length - 1 - d) = d by omega]
        exact ord_rise _ _ _ _ rfl (wrTo_rising t _ _) h2 (Nat.mod_lt _ (fact_pos _))
  · have h0 : remE t m 0 < remE t n 0 := by
      have := monoC t.locs.length
      show remC t m t.locs.length < remC t n t.locs.length
      omega
    obtain ⟨d, h1, h2, h3⟩ := first_diff (f := remE t m) (g := remE t n) (b := fun d => (rdOf t (t.evs.length - 1 - d)).length) (fun _ => rfl) (fun _ => rfl) h0 t.evs.length (by rw [remE_end hm, remE_end hn])
    refine .inl (cmp_first _ _ (t.evs.length - 1 - d) (by rw [l1]; omega) (by rw [l1]; omega) (fun j hj => ?_) ?_)
    · rw [rfAt_get (by omega), rfAt_get (by omega), rfAt, rfAt, h3 (t.evs.length - 1 - j) (by omega) (by omega)]
    · rw [rfAt_get (by omega), rfAt_get (by omega), rfAt, rfAt, show t.evs.length - 1 - (t.evs.length - 1 - d) = d by omega]
      exact (rdOf_rising t _).lt h2 (Nat.mod_lt _ (rdOf_pos t _))
end Go.Proofs.Ytdpcdbepeemflaa
