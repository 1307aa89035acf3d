/- Plain: the candidate of an order of all events; it is the one that the order explains. -/
import Derived.Test.YtifgncgiiojikaaGreatDoorTsA
set_option linter.unusedSimpArgs false
set_option linter.unusedVariables false
namespace Go.Proofs.YtifgncgiiojikaaGreatDoor
open Go Go.Eng Go.Tc Go.Rl Go.Vw
/-- an order of the numbers below n -/
structure IsOrd (n : Nat) (o : List Nat) : Prop where
  nodup : o.Nodup
  lt : ∀ x, x ∈ o → x < n
  len : o.length = n
def endI (l : List Int) : Int := if l.length = 0 then -1 else l.getD (l.length - 1) default
def colO (t : Tr) (o : List Nat) (k : Int) : List Int := ints (o.filter (wrAt t k))
def rfO (t : Tr) (o : List Nat) (x : Nat) : Int := if (evi t x).dir = 2 then -1 else endI (colO t (o.take (posN o x)) (evi t x).loc)
def candO (t : Tr) (o : List Nat) : Cd := ⟨(List.range t.evs.length).map (rfO t o), (List.range t.locs.length).map fun (k : Nat) => colO t o k⟩
theorem IsOrd.all {n : Nat} {o : List Nat} (h : IsOrd n o) {x : Nat} (hx : x < n) : x ∈ o :=
  Topo.all (m := n) (p := fun _ _ => false) ⟨h.nodup, h.lt, fun _ _ _ _ _ q => by cases q⟩ h.len x hx
theorem IsOrd.perm {n : Nat} {o : List Nat} (h : IsOrd n o) : o.Perm (List.range n) :=
  (List.perm_ext_iff_of_nodup h.nodup List.nodup_range).2 fun x => ⟨fun q => List.mem_range.2 (h.lt x q), fun q => h.all (List.mem_range.1 q)⟩
theorem pos_lt {o : List Nat} {x : Nat} (h : x ∈ o) : posN o x < o.length := List.idxOf_lt_length_of_mem h
theorem pos_get {o : List Nat} {x : Nat} (h : x ∈ o) : o[posN o x]? = some x := by
  have := pos_lt h
  unfold posN at this ⊢
  rw [List.getElem?_eq_getElem this]; simp
theorem pos_at {o : List Nat} (h : o.Nodup) {i x : Nat} (hi : o[i]? = some x) : posN o x = i := by
  have hm : x ∈ o := List.mem_of_getElem? hi
  exact (List.getElem?_inj (pos_lt hm) h).1 ((pos_get hm).trans hi.symm)
theorem pos_inj {o : List Nat} {x y : Nat} (hx : x ∈ o) (h : posN o x = posN o y) (hy : y ∈ o) : x = y := by
  have h1 := pos_get hx
  rw [h, pos_get hy] at h1
  injection h1 with h1; exact h1.symm
theorem mem_take_pos {o : List Nat} (hn : o.Nodup) {x m : Nat} : x ∈ o.take m ↔ x ∈ o ∧ posN o x < m := by
  constructor
  · intro h
    obtain ⟨i, hi⟩ := List.getElem?_of_mem h
    rw [List.getElem?_take] at hi
    split at hi
    · rename_i him
      exact ⟨List.mem_of_mem_take h, by rw [pos_at hn hi]; exact him⟩
    · cases hi
  · rintro ⟨h1, h2⟩
    refine List.mem_of_getElem? (i := posN o x) ?_
    rw [List.getElem?_take, if_pos h2, pos_get h1]
theorem pos_sorted {o : List Nat} (hn : o.Nodup) : o.Pairwise fun a b => posN o a < posN o b := by
  rw [List.pairwise_iff_getElem]
  intro i j hi hj hij
  rw [pos_at hn (List.getElem?_eq_getElem hi), pos_at hn (List.getElem?_eq_getElem hj)]
  exact hij
theorem mem_colO {t : Tr} {o : List Nat} {k x : Int} : x ∈ colO t o k ↔ ∃ i : Nat, i ∈ o ∧ x = i ∧ (evi t i).dir = 2 ∧ (evi t i).loc = k := by
  unfold colO ints
  simp only [List.mem_map, List.mem_filter, wrAt, Bool.and_eq_true, decide_eq_true_eq]
  constructor
  · rintro ⟨i, ⟨h1, h2, h3⟩, rfl⟩; exact ⟨i, h1, rfl, h2, h3⟩
  · rintro ⟨i, h1, rfl, h2, h3⟩; exact ⟨i, ⟨h1, h2, h3⟩, rfl⟩
theorem colO_sorted {t : Tr} {o : List Nat} (hn : o.Nodup) (k : Int) : (colO t o k).Pairwise fun a b => posN o a.toNat < posN o b.toNat := by
  unfold colO ints
  rw [List.pairwise_map]
  exact List.Pairwise.imp (fun {a b} h => by simpa using h) (List.Pairwise.filter _ (pos_sorted hn))
theorem colO_nodup {t : Tr} {o : List Nat} (hn : o.Nodup) (k : Int) : (colO t o k).Nodup :=
  List.Pairwise.imp (fun {a b} h e => by subst e; omega) (colO_sorted hn k)
theorem colO_perm {t : Tr} {o : List Nat} (h : IsOrd t.evs.length o) (k : Int) : (colO t o k).Perm (wr t k) := by
  unfold colO ints wr wrTo
  exact (h.perm.filter _).map _
theorem colO_pre (t : Tr) (o : List Nat) (k : Int) (m : Nat) : colO t (o.take m) k = (colO t o k).take (colO t (o.take m) k).length := by
  have e : colO t o k = colO t (o.take m) k ++ colO t (o.drop m) k := by
    unfold colO ints
    rw [← List.map_append, ← List.filter_append, List.take_append_drop]
  rw [e, List.take_left]
theorem col_candO {t : Tr} {o : List Nat} (ht : trOk t = true) {i : Nat} (hi : i < t.evs.length) : col t (candO t o) i = colO t o (evi t i).loc := by
  obtain ⟨p, hp, hpl⟩ := loc_nat ht hi
  rw [col_eq hp, hp]
  unfold candO
  rw [List.getD_eq_getElem?_getD, List.getElem?_map, List.getElem?_range hpl]; rfl
theorem rf_candO {t : Tr} {o : List Nat} {i : Nat} (hi : i < t.evs.length) : (candO t o).rf.getD i default = rfO t o i := by
  unfold candO
  rw [List.getD_eq_getElem?_getD, List.getElem?_map, List.getElem?_range hi]; rfl
theorem endI_mem {l : List Int} (h : ¬ l.length = 0) : endI l ∈ l := by
  unfold endI; rw [if_neg h]
  exact mem_getD.2 ⟨_, by omega, rfl⟩
theorem candO_ok {t : Tr} {o : List Nat} (ht : trOk t = true) (h : IsOrd t.evs.length o) : cdE t (candO t o) = 0 := by
  unfold cdE
  rw [if_pos ht, if_pos]
  rw [candB_iff]
  refine ⟨by simp [candO], by simp [candO], fun i hi => ?_, fun k hk => ?_⟩
  · unfold rdb
    rw [rf_candO hi]
    by_cases hd : (evi t i).dir = 2
    · unfold rfO; rw [if_pos hd]; rfl
    · have hd1 : (t.evs.getD i default).dir = 1 := by have := trOk_dir ht hi; unfold evi at *; omega
      by_cases hl : (colO t (o.take (posN o i)) (evi t i).loc).length = 0
      · unfold rfO endI; rw [if_neg hd, if_pos hl]; rfl
      · have hm := endI_mem hl
        obtain ⟨j, hj, e, h1, h2⟩ := mem_colO.1 hm
        rw [Bool.or_eq_true, Bool.and_eq_true, decide_eq_true_eq, decide_eq_true_eq, decide_eq_true_eq]
        refine .inr ⟨hd1, ?_⟩
        unfold rfO; rw [if_neg hd, e]
        exact mem_wr.2 ⟨j, h.lt j (List.mem_of_mem_take hj), rfl, h1, h2⟩
  · rw [wrb_eq, decide_eq_true_eq]
    have e : (candO t o).co.getD k default = colO t o k := by
      unfold candO
      rw [List.getD_eq_getElem?_getD, List.getElem?_map, List.getElem?_range hk]; rfl
    rw [e]
    exact sort_rising (colO_perm h k) (wrTo_rising t _ _)
theorem ix_sorted {t : Tr} {o : List Nat} (hn : o.Nodup) {k : Int} {a b : Nat} (h0 : 0 ≤ ixI (colO t o k) a) (h : ixI (colO t o k) a < ixI (colO t o k) b) : posN o a < posN o b := by
  have ha := ixI_lt ((ixI_nonneg _ _).1 h0)
  have hb := ixI_lt ((ixI_nonneg _ _).1 (show 0 ≤ ixI (colO t o k) b by omega))
  have ga := ixI_get h0
  have gb := ixI_get (show 0 ≤ ixI (colO t o k) b by omega)
  have := List.pairwise_iff_getElem.1 (colO_sorted (t := t) hn k) (ixI (colO t o k) a).toNat (ixI (colO t o k) b).toNat (by omega) (by omega) (by omega)
  rw [List.getD_eq_getElem?_getD, List.getElem?_eq_getElem (by omega)] at ga gb
  simp only [Option.getD_some] at ga gb
  rw [ga, gb] at this
  simpa using this
theorem ix_take {l : List Int} {m : Nat} {x : Int} (h : x ∈ l.take m) : ixI l x = ixI (l.take m) x := by
  have h2 : x ∈ l := List.mem_of_mem_take h
  unfold ixI
  rw [if_pos h, if_pos h2]
  have e : l = l.take m ++ l.drop m := (List.take_append_drop m l).symm
  have : l.idxOf x = (l.take m).idxOf x := by
    have e2 : (l.take m ++ l.drop m).idxOf x = (l.take m).idxOf x := by rw [List.idxOf_append, if_pos h]
    rwa [← e] at e2
  rw [this]
theorem last_ix {l : List Int} (hn : l.Nodup) (h : ¬ l.length = 0) : ixI l (endI l) = l.length - 1 := by
  unfold endI; rw [if_neg h, ixI_at hn (by omega)]; omega
/-- an order that keeps the program order: each step of its candidate goes up -/
theorem candO_up {t : Tr} {o : List Nat} (ht : trOk t = true) (h : IsOrd t.evs.length o) (hk : ∀ a b, a < t.evs.length → b < t.evs.length → poP t a b = true → posN o a < posN o b)
    {a b : Nat} (ha : a < t.evs.length) (hb : b < t.evs.length) (hs : scP t (candO t o) a b = true) : posN o a < posN o b := by
  have hz := candO_ok ht h
  have hao := h.all ha
  have hbo := h.all hb
  unfold scP cmP at hs
  simp only [Bool.or_eq_true] at hs
  rcases hs with hs | (hs | hs) | hs
  · exact hk a b ha hb hs
  · unfold rfP at hs
    rw [Bool.and_eq_true, decide_eq_true_eq, decide_eq_true_eq, rf_candO hb] at hs
    unfold rfO at hs
    rw [if_neg (by omega)] at hs
    by_cases hl : (colO t (o.take (posN o b)) (evi t b).loc).length = 0
    · have := hs.2; unfold endI at this; rw [if_pos hl] at this; omega
    · have hm := endI_mem hl
      rw [hs.2] at hm
      obtain ⟨i, hi, e, _⟩ := mem_colO.1 hm
      obtain rfl : a = i := by omega
      exact ((mem_take_pos h.nodup).1 hi).2
  · unfold coP ahP at hs
    rw [Bool.and_eq_true, decide_eq_true_eq, decide_eq_true_eq, col_candO ht ha] at hs
    exact ix_sorted h.nodup hs.1 hs.2
  · unfold frP at hs
    rw [Bool.and_eq_true, decide_eq_true_eq, decide_eq_true_eq, rf_candO ha, col_candO ht ha] at hs
    obtain ⟨hd, hlt⟩ := hs
    apply Classical.byContradiction
    intro hno
    have hge := ixI_ge (colO t o (evi t a).loc) (rfO t o a)
    have hbm := (ixI_nonneg (colO t o (evi t a).loc) b).1 (by omega)
    obtain ⟨i, hi, e, hd2, hl2⟩ := mem_colO.1 hbm
    obtain rfl : b = i := by omega
    have hne : posN o a ≠ posN o b := fun q => by have := pos_inj hao q hbo; subst this; omega
    have hbt : (b : Int) ∈ colO t (o.take (posN o a)) (evi t a).loc := mem_colO.2 ⟨b, (mem_take_pos h.nodup).2 ⟨hbo, by omega⟩, rfl, hd2, hl2⟩
    have hpre := colO_pre t o (evi t a).loc (posN o a)
    have hl : ¬ (colO t (o.take (posN o a)) (evi t a).loc).length = 0 := fun q => by rw [List.eq_nil_of_length_eq_zero q] at hbt; cases hbt
    unfold rfO at hlt
    rw [if_neg (by omega)] at hlt
    have hlm := endI_mem hl
    have hnd : (colO t (o.take (posN o a)) (evi t a).loc).Nodup := colO_nodup (h.nodup.sublist (List.take_sublist _ _)) _
    have h1 := last_ix hnd hl
    have h2 := ixI_lt hbt
    rw [hpre] at hlm hbt
    rw [ix_take hbt, ← hpre] at hlt
    have h3 := ix_take hlm
    rw [← hpre] at h3
    rw [h3] at hlt
    omega
theorem up_acy {t : Tr} (hb : t.evs.length ≤ 64) {p : Nat → Nat → Bool} {f : Nat → Nat} (hf : ∀ a b, a < t.evs.length → b < t.evs.length → p a b = true → f a < f b) : acyP t p = true := by
  rw [acyP_iff hb]
  rintro ⟨i, _, hr⟩
  have key : ∀ {a b : Nat}, Rch (bt (relOf t.evs.length p)) a b → f a < f b := fun q => by
    induction q with
    | one q => obtain ⟨ha, hb', hq⟩ := relOf_in hb q; exact hf _ _ ha hb' hq
    | more _ q ih => obtain ⟨ha, hb', hq⟩ := relOf_in hb q; have := hf _ _ ha hb' hq; omega
  have := key hr
  omega
theorem candO_sc {t : Tr} {o : List Nat} (ht : trOk t = true) (h : IsOrd t.evs.length o) (hk : ∀ a b, a < t.evs.length → b < t.evs.length → poP t a b = true → posN o a < posN o b) : scB t (candO t o) = true := by
  unfold scB
  rw [if_pos (candO_ok ht h)]
  exact up_acy (trOk_lens ht).1 fun a b ha hb hs => candO_up ht h hk ha hb hs
theorem getD_ext {α : Type} [Inhabited α] {l m : List α} (hl : l.length = m.length) (h : ∀ i, i < l.length → l.getD i default = m.getD i default) : l = m := by
  refine List.ext_getElem hl fun i h1 h2 => ?_
  have := h i h1
  rw [List.getD_eq_getElem?_getD, List.getD_eq_getElem?_getD, List.getElem?_eq_getElem h1, List.getElem?_eq_getElem h2] at this
  simpa using this
/-- the candidate that an order explains is the order's -/
theorem candO_eq {t : Tr} {c : Cd} {o : List Nat} (hz : cdE t c = 0) (h : IsOrd t.evs.length o) (hup : ∀ a b, a < t.evs.length → b < t.evs.length → scP t c a b = true → posN o a < posN o b) : candO t o = c := by
  obtain ⟨ht, hc⟩ := cdE_ok hz
  have hb := (trOk_lens ht).1
  obtain ⟨hrl, hcl, _, _⟩ := (candB_iff t c).1 hc
  have hco : ∀ k : Nat, k < t.locs.length → colO t o k = c.co.getD k default := fun k hk => by
    refine List.Perm.eq_of_pairwise (le := fun a b => posN o a.toNat < posN o b.toNat) (fun a b _ _ h1 h2 => by omega) (colO_sorted h.nodup k) ?_ ((colO_perm h k).trans (co_perm hc hk).symm)
    rw [List.pairwise_iff_getElem]
    intro i j hi hj hij
    have hnd := co_nodup hc hk
    have key : ∀ q (hq : q < (c.co.getD k default).length), ∃ x : Nat, x < t.evs.length ∧ (c.co.getD k default)[q] = (x : Int) ∧ (evi t x).loc = k ∧ ixI (c.co.getD k default) x = q := fun q hq => by
      obtain ⟨x, hx, e, _, h2⟩ := (co_mem hc hk).1 (List.getElem_mem hq)
      refine ⟨x, hx, e, h2, ?_⟩
      have := ixI_at hnd hq
      rw [List.getD_eq_getElem?_getD (l := c.co.getD k default), List.getElem?_eq_getElem hq] at this
      simp only [Option.getD_some] at this
      rw [← e]; exact this
    obtain ⟨x, hx, ex, lx, ix⟩ := key i hi
    obtain ⟨y, hy, ey, ly, iy⟩ := key j hj
    rw [ex, ey, Int.toNat_natCast, Int.toNat_natCast]
    refine hup x y hx hy ?_
    unfold scP cmP coP ahP
    rw [col_eq lx, ix, iy]
    simp only [Bool.or_eq_true, Bool.and_eq_true, decide_eq_true_eq]
    exact .inr (.inl (.inr ⟨by omega, by omega⟩))
  have h1 : (candO t o).co = c.co := by
    refine getD_ext (by simp [candO, hcl]) fun k hk => ?_
    have hk' : k < t.locs.length := by simpa [candO] using hk
    rw [← hco k hk']
    unfold candO
    rw [List.getD_eq_getElem?_getD, List.getElem?_map, List.getElem?_range hk']; rfl
  have h2 : (candO t o).rf = c.rf := by
    refine getD_ext (by simp [candO, hrl]) fun x hx => ?_
    have hx' : x < t.evs.length := by simpa [candO] using hx
    rw [rf_candO hx']
    have hxo := h.all hx'
    obtain ⟨p, hp, hpl⟩ := loc_nat ht hx'
    have hcol : colO t o (evi t x).loc = col t c x := by rw [hp, hco p hpl, col_eq hp]
    by_cases hd : (evi t x).dir = 2
    · unfold rfO; rw [if_pos hd]
      rcases rf_fact hc hx' with q | ⟨q, _⟩
      · exact q.symm
      · omega
    · have hd1 : (evi t x).dir = 1 := by have := trOk_dir ht hx'; omega
      unfold rfO; rw [if_neg hd]
      have hpre := colO_pre t o (evi t x).loc (posN o x)
      have hnd : (colO t (o.take (posN o x)) (evi t x).loc).Nodup := colO_nodup (h.nodup.sublist (List.take_sublist _ _)) _
      have hfr : ∀ w : Nat, (w : Int) ∈ colO t (o.take (posN o x)) (evi t x).loc → frP t c x w = true → False := fun w hw hf => by
        obtain ⟨i, hi, e, _⟩ := mem_colO.1 hw
        obtain rfl : w = i := by omega
        obtain ⟨hwo, hwp⟩ := (mem_take_pos h.nodup).1 hi
        have := hup x w hx' (h.lt w hwo) (by unfold scP cmP; rw [hf]; simp)
        omega
      rcases rf_at hz hx' hd1 with ⟨e, _⟩ | ⟨k, hkl, e, hkd, hkc, _, _, h0⟩
      · rw [e]
        unfold endI
        by_cases hl : (colO t (o.take (posN o x)) (evi t x).loc).length = 0
        · rw [if_pos hl]
        · exfalso
          have hm := endI_mem hl
          obtain ⟨w, hw, ew, _⟩ := mem_colO.1 hm
          rw [ew] at hm
          refine hfr w hm ?_
          unfold frP
          rw [Bool.and_eq_true, decide_eq_true_eq, decide_eq_true_eq, e]
          refine ⟨hd1, ?_⟩
          have hw2 : (w : Int) ∈ col t c x := by rw [← hcol]; exact mem_colO.2 (by obtain ⟨i, hi, q⟩ := mem_colO.1 hm; exact ⟨i, List.mem_of_mem_take hi, q⟩)
          have := (ixI_nonneg _ _).2 hw2
          have : ixI (col t c x) (-1) = -1 := by
            have := ixI_ge (col t c x) (-1)
            by_cases q : 0 ≤ ixI (col t c x) (-1)
            · rw [ixI_nonneg, col_eq hp, co_mem hc hpl] at q
              obtain ⟨j', _, e, _⟩ := q
              omega
            · omega
          omega
      · rw [e]
        have hkx := hup k x hkl hx' (by unfold scP cmP; rw [rf_of hz hd1 e]; simp)
        have hkm : (k : Int) ∈ colO t (o.take (posN o x)) (evi t x).loc := mem_colO.2 ⟨k, (mem_take_pos h.nodup).2 ⟨h.all hkl, hkx⟩, rfl, hkd, hkc⟩
        have hl : ¬ (colO t (o.take (posN o x)) (evi t x).loc).length = 0 := fun q => by rw [List.eq_nil_of_length_eq_zero q] at hkm; cases hkm
        have hm := endI_mem hl
        obtain ⟨w, hw, ew, hwd, hwl⟩ := mem_colO.1 hm
        rw [ew] at hm ⊢
        apply Classical.byContradiction
        intro hne
        refine hfr w hm ?_
        unfold frP
        rw [Bool.and_eq_true, decide_eq_true_eq, decide_eq_true_eq, e]
        refine ⟨hd1, ?_⟩
        have g1 := last_ix hnd hl
        rw [ew] at g1
        have g2 := ixI_lt hkm
        have g3 : ixI (col t c x) k = ixI (colO t (o.take (posN o x)) (evi t x).loc) k := by
          rw [← hcol]; rw [hpre] at hkm; rw [ix_take hkm, ← hpre]
        have g4 : ixI (col t c x) w = ixI (colO t (o.take (posN o x)) (evi t x).loc) w := by
          rw [← hcol]; rw [hpre] at hm; rw [ix_take hm, ← hpre]
        have g5 : ixI (col t c x) k ≠ ixI (col t c x) w := fun q => hne (ix_of h0 q).symm
        omega
  have : ∀ x y : Cd, x.rf = y.rf → x.co = y.co → x = y := fun x y => by cases x; cases y; rintro rfl rfl; rfl
  exact this _ _ h2 h1
end Go.Proofs.YtifgncgiiojikaaGreatDoor
