import Derived.Test.YtgidhhpjabdnkaaGreatDoorRvH
import Derived.Test.YtgidhhpjabdnkaaGreatDoorScE
set_option linter.unusedSimpArgs false
set_option linter.unusedVariables false
section
/- Orders that may be anything: alembicref18.IsOrder, alembicref20.places, Keeps. -/
namespace Go.Eng
open Go
theorem qy_no {P : Program} {N : Nat} {tm : Tm} {A : World → Prop} {op : Op} {c : Bool} (v : Value) (hc : c = false) : QY P N op tm A c v := by
  unfold QY
  intro h; rw [hc] at h; cases h
end Go.Eng
namespace Go.Proofs.YtgidhhpjabdnkaaGreatDoor
open Go Go.Eng Go.Tc Go.Rl Go.Vw
attribute [local irreducible] wpList Code.wp bodyPost Exit.then Exit.inBlock Calls
/-- whether the place may be: one of the things, and none of the ones ahead -/
def okAt (n : Nat) (L : List Int) (i : Nat) : Bool := decide (0 ≤ L.getD i default) && decide (L.getD i default < n) && !decide (L.getD i default ∈ L.take i)
def ordOK (n : Nat) (L : List Int) : Bool := decide (L.length = n) && (List.range n).all (okAt n L)
/-- as many as there are things, each of which is there: each is there once -/
theorem perm_of_all {α : Type} [DecidableEq α] : ∀ {a b : List α}, a.Nodup → (∀ x, x ∈ a → x ∈ b) → b.length = a.length → b.Perm a
  | [], b, _, _, hl => by rw [List.eq_nil_of_length_eq_zero hl]
  | x :: a, b, hn, hs, hl => by
    have hx := hs x (.head _)
    have h1 := List.perm_cons_erase hx
    refine h1.trans (List.Perm.cons x (perm_of_all (List.nodup_cons.1 hn).2 (fun y hy => ?_) ?_))
    · have hne : y ≠ x := fun e => (List.nodup_cons.1 hn).1 (e ▸ hy)
      exact (List.mem_erase_of_ne hne).2 (hs y (.tail _ hy))
    · rw [List.length_erase_of_mem hx, hl]; simp
theorem ord_ints {n : Nat} {o : List Nat} (h : IsOrd n o) : ordOK n (ints o) = true := by
  unfold ordOK
  rw [Bool.and_eq_true, decide_eq_true_eq, all_range]
  refine ⟨by rw [ints_len]; exact h.len, fun i hi => ?_⟩
  obtain ⟨h1, h2, h3⟩ := h.at hi
  unfold okAt
  rw [h2]
  simp only [Bool.and_eq_true, decide_eq_true_eq, Bool.not_eq_true', decide_eq_false_iff_not]
  refine ⟨⟨by omega, by omega⟩, fun hm => ?_⟩
  unfold ints at hm
  rw [← List.map_take, List.mem_map] at hm
  obtain ⟨x, hx, e⟩ := hm
  obtain rfl : x = o.getD i default := by omega
  have := (mem_take_pos h.nodup).1 hx
  omega
theorem ord_is {n : Nat} {L : List Int} (h : ordOK n L = true) : ∃ o, L = ints o ∧ IsOrd n o := by
  unfold ordOK at h
  rw [Bool.and_eq_true, decide_eq_true_eq, all_range] at h
  obtain ⟨hl, h⟩ := h
  have key : ∀ i (hi : i < L.length), 0 ≤ L[i] ∧ L[i] < n ∧ L[i] ∉ L.take i := fun i hi => by
    have := h i (by omega)
    unfold okAt at this
    rw [List.getD_eq_getElem?_getD, List.getElem?_eq_getElem hi] at this
    simp only [Option.getD_some, Bool.and_eq_true, decide_eq_true_eq, Bool.not_eq_true', decide_eq_false_iff_not] at this
    exact ⟨this.1.1, this.1.2, this.2⟩
  have e : L = ints (L.map Int.toNat) := by
    refine List.ext_getElem (by simp [ints]) fun i h1 h2 => ?_
    have := (key i h1).1
    simp [ints]; omega
  refine ⟨L.map Int.toNat, e, ?_, fun x hx => ?_, by simpa using hl⟩
  · rw [List.Nodup, List.pairwise_iff_getElem]
    intro i j hi hj hij q
    rw [List.length_map] at hi hj
    simp only [List.getElem_map] at q
    have h1 := key i hi
    have h2 := key j hj
    refine h2.2.2 ?_
    have : L[i] = L[j] := by omega
    rw [← this]
    refine List.mem_of_getElem? (i := i) ?_
    rw [List.getElem?_take, if_pos hij, List.getElem?_eq_getElem hi]
  · rw [List.mem_map] at hx
    obtain ⟨y, hy, rfl⟩ := hx
    obtain ⟨i, hi, rfl⟩ := List.mem_iff_getElem.1 hy
    have := key i hi
    omega
theorem ord_all {n : Nat} {L : List Int} (hl : L.length = n) (h : ∀ x : Nat, x < n → (x : Int) ∈ L) : ordOK n L = true := by
  have hp : L.Perm (ints (List.range n)) := perm_of_all (by
      unfold ints
      exact List.Pairwise.map _ (fun a b hab e => hab (by omega)) List.nodup_range) (fun x hx => by
      unfold ints at hx
      rw [List.mem_map] at hx
      obtain ⟨y, hy, rfl⟩ := hx
      exact h y (List.mem_range.1 hy)) (by rw [ints_len, List.length_range, hl])
  have hm : ∀ x, x ∈ L → ∃ y : Nat, y < n ∧ x = (y : Int) := fun x hx => by
    have := hp.mem_iff.1 hx
    unfold ints at this
    rw [List.mem_map] at this
    obtain ⟨y, hy, rfl⟩ := this
    exact ⟨y, List.mem_range.1 hy, rfl⟩
  have hnd : L.Nodup := hp.nodup_iff.2 (by
      unfold ints
      exact List.Pairwise.map _ (fun a b hab e => hab (by omega)) List.nodup_range)
  unfold ordOK
  rw [Bool.and_eq_true, decide_eq_true_eq, all_range]
  refine ⟨hl, fun i hi => ?_⟩
  unfold okAt
  have hi' : i < L.length := by omega
  rw [List.getD_eq_getElem?_getD, List.getElem?_eq_getElem hi']
  simp only [Option.getD_some, Bool.and_eq_true, decide_eq_true_eq, Bool.not_eq_true', decide_eq_false_iff_not]
  obtain ⟨y, hy, e⟩ := hm L[i] (List.getElem_mem hi')
  refine ⟨⟨by omega, by omega⟩, fun hq => ?_⟩
  obtain ⟨j, hj⟩ := List.getElem?_of_mem hq
  rw [List.getElem?_take] at hj
  split at hj
  · rename_i hji
    rw [← List.getElem?_eq_getElem hi'] at hj
    have := (List.getElem?_inj (by omega) hnd).1 hj
    omega
  · cases hj
/-- which of the things are there, of the first so many -/
def mkO (n : Nat) (L : List Int) (k : Nat) : List Bool := (List.range n).map fun (x : Nat) => decide ((x : Int) ∈ L.take k)
theorem mkO_len (n : Nat) (L : List Int) (k : Nat) : (mkO n L k).length = n := by unfold mkO; rw [List.length_map, List.length_range]
theorem mkO_get (n : Nat) (L : List Int) (k : Nat) {x : Nat} (hx : x < n) : (mkO n L k).getD x default = decide ((x : Int) ∈ L.take k) := by
  unfold mkO; rw [List.getD_eq_getElem?_getD, List.getElem?_map, List.getElem?_range hx]; rfl
theorem mkO_zero (n : Nat) (L : List Int) : List.replicate n false = mkO n L 0 := by
  apply List.ext_getElem (by simp [mkO])
  intro i h1 h2
  simp [mkO]
theorem mkO_set {n : Nat} {L : List Int} {k x : Nat} (hk : k < L.length) (hx : L.getD k default = (x : Int)) : (mkO n L k).set x true = mkO n L (k + 1) := by
  have e : L[k] = (x : Int) := by rw [List.getD_eq_getElem?_getD, List.getElem?_eq_getElem hk] at hx; exact hx
  apply List.ext_getElem (by rw [List.length_set, mkO_len, mkO_len])
  intro i g1 g2
  rw [mkO_len] at g2
  rw [List.getElem_set]
  simp only [mkO, List.getElem_map, List.getElem_range]
  rw [List.take_succ_eq_append_getElem hk, e]
  by_cases q : x = i
  · subst q; simp
  · rw [if_neg q, decide_eq_decide, List.mem_append, List.mem_singleton]
    exact ⟨.inl, fun h => h.resolve_right fun p => q (by omega)⟩

set_option maxHeartbeats 6400000 in
theorem isorder_spec {lv iv ev bv av dv cv tv nv : Value} {t : Tr} (ov : Value) (L : List Int) (w : World) (h : TrIn All w lv iv ev bv av dv cv tv nv t) (ho : Sl All w Eng.encI 1 ov L) (hb : t.evs.length ≤ 64) :
    Pur Tryz.prog 27 [.agg #[lv, iv, ev, bv, av, dv, cv, tv, nv], ov] w fun _ v _ => v = .bool (ordOK t.evs.length L) := by
  have hE := h.evs; have hEl := hE.le
  have hos := ho.sv
  refine enter_pur Tryz.func27 Tryz.ntmps27 rfl rfl ?_
  refine gO_ ?_
  refine wl_fx (fx_box (next := ?_)); intro bT
  refine gO_ ?_
  refine wc_cond rfl (fun h1 => ?_) (fun h1 => ?_)
  · have hl : ¬ L.length = t.evs.length := by simp [dc_eq] at h1; omega
    refine gO_ ?_
    refine pur_ret Tryz.results27 (.tmp rfl .nil) (.head _) fun w' hw => ?_
    unfold ordOK; rw [decide_eq_false hl]; rfl
  have hlen : L.length = t.evs.length := by simp [dc_eq] at h1; omega
  clear h1
  refine gO_ ?_
  rw [hlen]
  refine wl_fx (fx_make (next := ?_)); intro va hva
  refine gO_ ?_
  refine wc_loop (fun i : Nat => i ≤ t.evs.length ∧ ∀ j, j < i → okAt t.evs.length L j = true) (fun s => [(6, true, .int .i64 s), (5, true, va), (1, true, ov)])
    (fun i => Mem [(w, All)] [.own va 4 1 encB (mkO t.evs.length L i), .box bT [lv, iv, ev, bv, av, dv, cv, tv, nv] 30]) (fun s => t.evs.length - s) 0 ⟨Nat.zero_le _, fun j hj => absurd hj (Nat.not_lt_zero _)⟩ ⟨rfl, rfl, rfl, trivial⟩ (fun _ h => by rw [← mkO_zero]; exact h) ?_
  rintro i ⟨hi, hok⟩
  have hil := mkO_len t.evs.length L i
  refine gO_ ?_
  rw [hlen]
  refine wc_cond rfl (fun h2 => ?_) (fun h2 => ?_)
  · have h2' : i < t.evs.length := by rw [dc_true] at h2; omega
    have hi2 : i < L.length := by omega
    by_cases hin : 0 ≤ L.getD i default ∧ L.getD i default < t.evs.length
    · obtain ⟨x, hx⟩ : ∃ x : Nat, L.getD i default = (x : Int) := ⟨(L.getD i default).toNat, by omega⟩
      have hxn : x < t.evs.length := by omega
      have hia : x < (mkO t.evs.length L i).length := by omega
      have hgt : (mkO t.evs.length L i).getD ((x : Nat) : Int).toNat default = decide ((x : Int) ∈ L.take i) := by rw [Int.toNat_natCast, mkO_get _ _ _ hxn]
      refine gO_ ?_
      rw [hx, hlen]
      refine gO_ ?_
      rw [hgt]
      refine wc_cond rfl (fun h3 => ?_) (fun h3 => ?_)
      · have hm : (x : Int) ∈ L.take i := by
          simp only [dc_eq, Bool.or_eq_true, decide_eq_true_eq] at h3
          rcases h3 with (h3 | h3) | h3
          · omega
          · omega
          · exact h3
        refine gO_ ?_
        refine pur_ret Tryz.results27 (.tmp rfl .nil) (.head _) fun w' hw => ?_
        unfold ordOK
        rw [all_range_f h2' (by unfold okAt; rw [hx, decide_eq_true hm]; simp), Bool.and_false]; rfl
      · have hm : ¬ (x : Int) ∈ L.take i := by
          simp only [dc_eq, Bool.or_eq_false_iff, decide_eq_false_iff_not] at h3
          exact h3.2
        refine gO_ ?_
        rw [hx]
        refine gO_ ?_
        refine wl_fx (fx_store_own (k := 0) (hk := rfl) (next := ?_))
        refine gO_ ?_
        refine po_loop (i + 1) ⟨by omega, fun j hj => ?_⟩ (by omega) ⟨rfl, rfl, rfl, trivial⟩ (fun _ h => ?_)
        · by_cases q : j < i
          · exact hok j q
          · obtain rfl : j = i := by omega
            unfold okAt
            rw [hx, decide_eq_false hm, decide_eq_true (by omega), decide_eq_true (by omega)]; rfl
        · rw [← mkO_set hi2 hx]
          exact h
    · refine gO_ ?_
      rw [hlen]
      refine gO_ ?_
      refine wc_cond rfl (fun h3 => ?_) (fun h3 => ?_)
      · refine gO_ ?_
        refine pur_ret Tryz.results27 (.tmp rfl .nil) (.head _) fun w' hw => ?_
        unfold ordOK
        rw [all_range_f h2' (by
          unfold okAt
          by_cases q : 0 ≤ L.getD i default
          · rw [decide_eq_false (p := L.getD i default < _) (fun q2 => hin ⟨q, q2⟩), Bool.and_false]; rfl
          · rw [decide_eq_false q]; rfl), Bool.and_false]; rfl
      · exfalso
        simp only [dc_eq, Bool.or_eq_false_iff, decide_eq_false_iff_not] at h3
        exact hin ⟨by omega, by omega⟩
  · have hall : ordOK t.evs.length L = true := by
      unfold ordOK
      rw [decide_eq_true hlen, Bool.true_and, all_range]
      exact fun j hj => hok j (by rw [dc_false] at h2; omega)
    refine gO_ ?_
    refine pur_ret Tryz.results27 (.tmp rfl .nil) (.head _) fun w' hw => ?_
    rw [hall]; rfl
end Go.Proofs.YtgidhhpjabdnkaaGreatDoor
end

section
/- The walks: rvwmo.last; alembicref20.places, Keeps, po. -/
namespace Go.Proofs.YtgidhhpjabdnkaaGreatDoor
open Go Go.Eng Go.Tc Go.Rl Go.Vw
attribute [local irreducible] wpList Code.wp bodyPost Exit.then Exit.inBlock Calls
/-- a list of numbers, by a function -/
def fL (n : Nat) (f : Nat → Nat) : List Int := (List.range n).map fun x => ((f x : Nat) : Int)
theorem fL_len (n : Nat) (f : Nat → Nat) : (fL n f).length = n := by unfold fL; rw [List.length_map, List.length_range]
theorem fL_get (n : Nat) (f : Nat → Nat) {x : Nat} (hx : x < n) : (fL n f).getD x default = ((f x : Nat) : Int) := by
  unfold fL; rw [List.getD_eq_getElem?_getD, List.getElem?_map, List.getElem?_range hx]; rfl
def pzO (n : Nat) (o : List Nat) (k : Nat) : List Int := (List.range n).map fun x => if posN o x < k then (posN o x : Int) else 0
theorem pzO_len (n : Nat) (o : List Nat) (k : Nat) : (pzO n o k).length = n := by unfold pzO; rw [List.length_map, List.length_range]
theorem pzO_zero (n : Nat) (o : List Nat) : List.replicate n (0 : Int) = pzO n o 0 := by
  apply List.ext_getElem (by simp [pzO])
  intro i h1 h2
  simp [pzO]
theorem pzO_set {n : Nat} {o : List Nat} (h : IsOrd n o) {k : Nat} (hk : k < n) : (pzO n o k).set (o.getD k default) (k : Int) = pzO n o (k + 1) := by
  obtain ⟨h1, _, h3⟩ := h.at hk
  apply List.ext_getElem (by rw [List.length_set, pzO_len, pzO_len])
  intro i g1 g2
  rw [pzO_len] at g2
  rw [List.getElem_set]
  simp only [pzO, List.getElem_map, List.getElem_range]
  by_cases e : o.getD k default = i
  · subst e; rw [if_pos rfl, h3, if_pos (Nat.lt_succ_self k)]
  · rw [if_neg e]
    have := h.pos_ne hk g2 e
    by_cases q : posN o i < k
    · rw [if_pos q, if_pos (by omega)]
    · rw [if_neg q, if_neg (by omega)]
theorem pzO_all {n : Nat} {o : List Nat} (h : IsOrd n o) : pzO n o n = fL n (posN o) := by
  apply List.ext_getElem (by rw [pzO_len, fL_len])
  intro i g1 g2
  rw [pzO_len] at g1
  simp only [pzO, fL, List.getElem_map, List.getElem_range]
  rw [if_pos (h.pos g1)]

set_option maxHeartbeats 1600000 in
theorem places20_ok (ov : Value) (n : Nat) (o : List Nat) (w : World) (ho : Sl All w Eng.encI 1 ov (ints o)) (hO : IsOrd n o) (hb : n ≤ 64) :
    Mk Tryz.prog 57 [ov] w fun _ v es _ => SV v ∧ es = [ownI v (fL n (posN o))] := by
  have hol := ints_len o
  have hlen := hO.len
  have hos := ho.sv
  refine enter_mk Tryz.func57 Tryz.ntmps57 rfl rfl ?_
  refine gO_ ?_
  rw [hol, hlen]
  refine wl_fx (fx_make (next := ?_)); intro va hva
  refine gO_ ?_
  refine wc_loop (fun i : Nat => i ≤ n) (fun s => [(4, true, .int .i64 s), (3, true, va), (0, true, ov)])
    (fun i => Mem [(w, All)] [.own va 3 1 Eng.encI (pzO n o i)]) (fun s => n - s) 0 (Nat.zero_le _) ⟨rfl, rfl, rfl, trivial⟩ (fun _ h => by rw [← pzO_zero]; exact h) ?_
  intro i hi
  have hlk := pzO_len n o i
  refine gO_ ?_
  rw [hol, hlen]
  refine wc_cond rfl (fun h1 => ?_) (fun h1 => ?_)
  · have h1' : i < n := by rw [dc_true] at h1; omega
    obtain ⟨hx, hg, hp⟩ := hO.at h1'
    have hi2 : i < (ints o).length := by omega
    have hia : o.getD i default < (pzO n o i).length := by omega
    refine gO_ ?_
    rw [hg]
    refine gO_ ?_
    refine wl_fx (fx_store_own (k := 0) (hk := rfl) (next := ?_))
    refine gO_ ?_
    refine po_loop (i + 1) (by omega) (by omega) ⟨rfl, rfl, rfl, trivial⟩ (fun _ h => ?_)
    rw [← pzO_set hO h1']
    exact h
  · obtain rfl : i = n := by rw [dc_false] at h1; omega
    refine gO_ ?_
    refine mk_ret Tryz.results57 (.tmp rfl .nil) (.head _) [_] [0] rfl (by decide) fun w' hw => ?_
    rw [pzO_all hO]
    exact ⟨hva, rfl⟩
/-- whether an order keeps a relation -/
def keepB (n : Nat) (p : Nat → Nat → Bool) (f : Nat → Nat) : Bool := (List.range n).all fun a => (List.range n).all fun b => !(p a b && !decide (f a < f b))
theorem keepB_iff {n : Nat} {p : Nat → Nat → Bool} {f : Nat → Nat} : keepB n p f = true ↔ ∀ a b, a < n → b < n → p a b = true → f a < f b := by
  unfold keepB
  rw [all_range]
  constructor
  · intro h a b ha hb hp
    have h1 := h a ha
    rw [all_range] at h1
    have h2 := h1 b hb
    rw [hp, Bool.true_and, Bool.not_not, decide_eq_true_eq] at h2
    exact h2
  · intro h a ha
    rw [all_range]
    intro b hb
    cases hp : p a b
    · rfl
    · rw [decide_eq_true (h a b ha hb hp)]; rfl
theorem has_of {n : Nat} (hn : n ≤ 64) {p : Nat → Nat → Bool} {a b : Nat} (ha : a < n) (hb : b < n) : has (n : Int) (relOf n p) a b = p a b := by
  rw [Go.Vw.has_bt (relOk_relOf n p hn) ha hb, relOf_bt n p hn a b ha hb]

set_option maxHeartbeats 3200000 in
theorem keeps20_spec (sv ov : Value) (n : Nat) (p : Nat → Nat → Bool) (o : List Nat) (w : World) (hs : Sl All w encW 1 sv (relOf n p)) (ho : Sl All w Eng.encI 1 ov (ints o)) (hO : IsOrd n o) (hb : n ≤ 64) :
    Pur Tryz.prog 24 [.agg #[.int .i64 n, sv], ov] w fun _ v _ => v = .bool (keepB n p (posN o)) := by
  have hol := ints_len o
  have hlen := hO.len
  have hos := ho.sv
  have hss := hs.sv
  refine enter_pur Tryz.func24 Tryz.ntmps24 rfl rfl ?_
  refine gO_ ?_
  refine wl_fx (fx_box (next := ?_)); intro br
  refine gO_ ?_
  refine wl_fx (fx_call_mk (spec := fun w' hw => places20_ok ov n o w' (hw.now ho (.head _)) hO hb) (next := ?_))
  rintro va n1 es w1 ⟨hva, rfl⟩
  have hal := fL_len n (posN o)
  refine gO_ ?_
  refine wc_loop (fun i : Nat => i ≤ n ∧ ∀ a b, a < i → b < n → p a b = true → posN o a < posN o b) (fun s => [(6, true, .int .i64 s), (5, true, va), (2, true, .pointer (some ⟨br, 0, none⟩)), (1, true, ov)])
    (fun i => Mem [(w, All)] [ownI va (fL n (posN o)), .box br [.int .i64 n, sv] 43]) (fun s => n - s) 0 ⟨Nat.zero_le _, fun a b ha => absurd ha (Nat.not_lt_zero _)⟩ ⟨rfl, rfl, rfl, rfl, trivial⟩ (fun _ h => h.last rfl) ?_
  rintro a ⟨ha, hka⟩
  refine gO_ ?_
  rw [hol, hlen]
  refine wc_cond rfl (fun h1 => ?_) (fun h1 => ?_)
  · have h1' : a < n := by rw [dc_true] at h1; omega
    refine gO_ ?_
    refine wc_loop (fun i : Nat => i ≤ n ∧ ∀ b, b < i → p a b = true → posN o a < posN o b) (fun s => [(7, true, .int .i64 s), (6, true, .int .i64 a), (5, true, va), (2, true, .pointer (some ⟨br, 0, none⟩)), (1, true, ov)])
      (fun i => Mem [(w, All)] [ownI va (fL n (posN o)), .box br [.int .i64 n, sv] 43]) (fun s => n - s) 0 ⟨Nat.zero_le _, fun b hb' => absurd hb' (Nat.not_lt_zero _)⟩ ⟨rfl, rfl, rfl, rfl, rfl, trivial⟩ (fun _ h => h) ?_
    rintro b ⟨hb', hkb⟩
    refine gO_ ?_
    rw [hol, hlen]
    refine wc_cond rfl (fun h2 => ?_) (fun h2 => ?_)
    · have h2' : b < n := by rw [dc_true] at h2; omega
      have hga := fL_get n (posN o) h1'
      have hgb := fL_get n (posN o) h2'
      have hal2 : a < (fL n (posN o)).length := by omega
      have hbl2 : b < (fL n (posN o)).length := by omega
      refine gO_ ?_
      refine wc_draw [0, 1, 2, 3, 4, 5, 6, 7, 8, 9, 10, 11, 12, 13, 14] mixed ?_
      refine kG_ ?_
      refine kg_f _ (h := fx_call (spec := fun w' hw => rhas_spec n sv (relOf n p) a b w' (hw.now hs (.head _))) (next := ?_)) (hSS := fun _ h => h)
      rintro v n2 w2 rfl hn2
      rw [has_of hb h1' h2']
      refine kp_S ?_ (fun _ h => h.tailB)
      refine kG_ ?_
      rw [hga, hgb]
      refine gO_ ?_
      refine wc_cond rfl (fun h3 => ?_) (fun h3 => ?_)
      · simp only [dc_eq, Bool.and_eq_true, decide_eq_true_eq] at h3
        refine gO_ ?_
        refine pur_ret Tryz.results24 (.tmp rfl .nil) (.tail _ (.head _)) fun w' hw => ?_
        have : keepB n p (posN o) = false := by
          cases hq : keepB n p (posN o)
          · rfl
          · have := keepB_iff.1 hq a b h1' h2' h3.1; omega
        rw [this]; rfl
      · simp only [dc_eq, Bool.and_eq_false_iff, decide_eq_false_iff_not] at h3
        refine gO_ ?_
        refine po_loop (b + 1) ⟨by omega, fun b2 hb2 hp => ?_⟩ (by omega) ⟨rfl, rfl, rfl, rfl, rfl, trivial⟩ (fun _ h => h.last rfl)
        by_cases q : b2 < b
        · exact hkb b2 q hp
        · obtain rfl : b2 = b := by omega
          rcases h3 with h3 | h3
          · rw [hp] at h3; cases h3
          · omega
    · refine gO_ ?_
      refine po_loop (a + 1) ⟨by omega, fun a2 b2 ha2 hb2 hp => ?_⟩ (by omega) ⟨rfl, rfl, rfl, rfl, trivial⟩ (fun _ h => h)
      by_cases q : a2 < a
      · exact hka a2 b2 q hb2 hp
      · obtain rfl : a2 = a := by omega
        exact hkb b2 (by rw [dc_false] at h2; omega) hp
  · refine gO_ ?_
    refine pur_ret Tryz.results24 (.tmp rfl .nil) (.head _) fun w' hw => ?_
    rw [keepB_iff.2 fun a2 b2 ha2 hb2 hp => hka a2 b2 (by rw [dc_false] at h1; omega) hb2 hp]; rfl

set_option maxHeartbeats 3200000 in
theorem po20_spec {lv iv ev bv av dv cv tv nv : Value} {t : Tr} (a b : Nat) (w : World) (h : TrIn All w lv iv ev bv av dv cv tv nv t) (ha : a < t.evs.length) (hb : b < t.evs.length) :
    Pur Tryz.prog 58 [.agg #[lv, iv, ev, bv, av, dv, cv, tv, nv], .int .i64 a, .int .i64 b] w fun _ v _ => v = .bool (poP t a b) := by
  have hE := h.evs; have hEl := hE.le
  refine enter_pur Tryz.func58 Tryz.ntmps58 rfl rfl ?_
  refine gO_ ?_
  refine wl_fx (fx_box (next := ?_)); intro bt
  refine gO_ ?_
  refine wc_draw [0, 1, 2, 3, 4, 5, 6, 7, 8, 9, 10, 11, 12, 13, 14, 15, 16, 17, 18, 19, 20, 21, 22, 23, 24, 25, 26, 27, 28] mixed ?_
  refine kG_ ?_
  refine gO_ ?_
  refine pur_ret Tryz.results58 (.tmp rfl .nil) (.head _) fun w' hw => ?_
  rw [dc_eq, dc_eq]; rfl

set_option maxHeartbeats 6400000 in
theorem rvlast_spec {lv iv ev bv av dv cv tv nv : Value} {t : Tr} (av' : Value) (f : Nat → Nat) (r : Nat) (w : World) (h : TrIn All w lv iv ev bv av dv cv tv nv t) (hA : Sl All w Eng.encI 1 av' (fL t.evs.length f)) (hr : r < t.evs.length) (ht : trOk t = true) :
    Pur Tryz.prog 56 [.agg #[lv, iv, ev, bv, av, dv, cv, tv, nv], av', .int .i64 r] w fun _ v _ => v = .int .i64 (lstW (seesB t f r) f t.evs.length) := by
  have hE := h.evs; have hEl := hE.le
  have has := hA.sv
  have hal := fL_len t.evs.length f
  have hgr := fL_get t.evs.length f hr
  have hral : r < (fL t.evs.length f).length := by omega
  generalize hq : seesB t f r = q
  refine enter_pur Tryz.func56 Tryz.ntmps56 rfl rfl ?_
  refine gO_ ?_
  refine wl_fx (fx_box (next := ?_)); intro bt
  refine gO_ ?_
  refine wc_loop (fun i : Nat => i ≤ t.evs.length) (fun s => [(14, true, .int .i64 s), (13, true, .int .i64 t.evs.length), (12, true, ev), (7, true, .int .i64 (lstW q f s)), (3, true, .pointer (some ⟨bt, 0, none⟩)), (2, true, .int .i64 r), (1, true, av')])
    (fun s => Mem [(w, All)] [.box bt [lv, iv, ev, bv, av, dv, cv, tv, nv] 30]) (fun s => t.evs.length - s) 0 (Nat.zero_le _) ⟨rfl, rfl, rfl, rfl, rfl, rfl, rfl, trivial⟩ (fun _ h => h.last rfl) ?_
  intro i hi
  refine gO_ ?_
  refine wc_cond rfl (fun h1 => ?_) (fun h1 => ?_)
  · have h1' : i < t.evs.length := by rw [dc_true] at h1; omega
    have hgi := fL_get t.evs.length f h1'
    have hial : i < (fL t.evs.length f).length := by omega
    have hstep : lstW q f (i + 1) = if (q i && (decide (lstW q f i < 0) || decide (f (lstW q f i).toNat < f i))) = true then (i : Int) else lstW q f i := rfl
    refine gO_ ?_
    refine wl_fx (fx_alloc (next := ?_)); intro bx
    refine gO_ ?_
    refine wl_fx (fx_store_box (i := 0) (hi := rfl) (next := ?_))
    refine gO_ ?_
    refine wc_draw [0, 1, 2, 3, 4, 5, 6, 7, 8, 9, 10, 11, 12, 13] mixed ?_
    refine kG_ ?_
    refine gO_ ?_
    refine wc_cond rfl (fun h2 => ?_) (fun h2 => ?_)
    · have hqi : q i = false := by
        simp only [dc_eq, Bool.or_eq_true, Bool.not_eq_true', decide_eq_false_iff_not] at h2
        rw [← hq]; unfold seesB lcB evi
        rcases h2 with h2 | h2
        · rw [decide_eq_false h2]; rfl
        · rw [decide_eq_false h2, Bool.and_false]; rfl
      refine gO_ ?_
      refine po_loop (i + 1) (by omega) (by omega) ?_ (fun _ h => h.last rfl |>.sel [1] rfl (by decide))
      rw [hstep, hqi]
      exact ⟨rfl, rfl, rfl, rfl, rfl, rfl, rfl, trivial⟩
    · have hqi : q i = (decide (f i < f r) || (decide ((t.evs.getD i default).thread = (t.evs.getD r default).thread) && decide (i < r))) := by
        simp only [dc_eq, Bool.or_eq_false_iff, Bool.not_eq_false', decide_eq_true_eq] at h2
        rw [← hq]; unfold seesB lcB
        rw [po_lt ht h1' hr]
        unfold Vw.thB evi
        rw [decide_eq_true h2.1, decide_eq_true h2.2, Bool.true_and, Bool.true_and, Bool.and_comm (decide (i < r))]
      refine gO_ ?_
      refine wc_draw [0, 1, 2, 3, 4, 5, 6, 7, 8, 9, 10, 11, 12, 13, 14] mixed ?_
      refine kG_ ?_
      refine gO_ ?_
      rcases lstW_is q f i with ⟨hl, _⟩ | ⟨k, hk, hl, _⟩
      · rw [hl] at hstep ⊢
        refine wc_draw [0, 1, 2, 3, 4, 5, 6, 7, 8, 9, 10, 11, 12, 13, 14, 15, 16, 17, 18, 19, 20, 21, 22, 23, 24, 25, 26] mixed ?_
        refine kG_ ?_
        rw [hgi, hgr]
        refine gO_ ?_
        refine wc_cond rfl (fun h3 => ?_) (fun h3 => ?_)
        · refine gO_ ?_
          refine po_loop (i + 1) (by omega) (by omega) ?_ (fun _ h => h.last rfl |>.sel [1] rfl (by decide))
          rw [hstep, if_pos (by
            rw [hqi]
            simp only [dc_eq, Bool.or_eq_true, Bool.and_eq_true, decide_eq_true_eq] at h3 ⊢
            omega)]
          exact ⟨rfl, rfl, rfl, rfl, rfl, rfl, rfl, trivial⟩
        · refine gO_ ?_
          refine po_loop (i + 1) (by omega) (by omega) ?_ (fun _ h => h.last rfl |>.sel [1] rfl (by decide))
          rw [hstep, if_neg (by
            rw [hqi]
            rw [Bool.eq_false_iff] at h3
            refine fun q => h3 ?_
            simp only [dc_eq, Bool.or_eq_true, Bool.and_eq_true, decide_eq_true_eq] at q ⊢
            omega)]
          exact ⟨rfl, rfl, rfl, rfl, rfl, rfl, rfl, trivial⟩
      · rw [hl] at hstep ⊢
        have hkl : k < t.evs.length := by omega
        have hgk := fL_get t.evs.length f hkl
        have hkal : k < (fL t.evs.length f).length := by omega
        refine wc_draw [0, 1, 2, 3, 4, 5, 6, 7, 8, 9, 10, 11, 12, 13, 14, 15, 16, 17, 18, 19, 20, 21, 22, 23, 24, 25, 26] mixed ?_
        refine kG_ ?_
        rw [hgi, hgr, hgk]
        refine gO_ ?_
        refine wc_cond rfl (fun h3 => ?_) (fun h3 => ?_)
        · refine gO_ ?_
          refine po_loop (i + 1) (by omega) (by omega) ?_ (fun _ h => h.last rfl |>.sel [1] rfl (by decide))
          rw [hstep, if_pos (by
            rw [hqi, Int.toNat_natCast]
            simp only [dc_eq, Bool.or_eq_true, Bool.and_eq_true, decide_eq_true_eq] at h3 ⊢
            omega)]
          exact ⟨rfl, rfl, rfl, rfl, rfl, rfl, rfl, trivial⟩
        · refine gO_ ?_
          refine po_loop (i + 1) (by omega) (by omega) ?_ (fun _ h => h.last rfl |>.sel [1] rfl (by decide))
          rw [hstep, if_neg (by
            rw [hqi, Int.toNat_natCast]
            rw [Bool.eq_false_iff] at h3
            refine fun q => h3 ?_
            simp only [dc_eq, Bool.or_eq_true, Bool.and_eq_true, decide_eq_true_eq] at q ⊢
            omega)]
          exact ⟨rfl, rfl, rfl, rfl, rfl, rfl, rfl, trivial⟩
  · obtain rfl : i = t.evs.length := by rw [dc_false] at h1; omega
    refine gO_ ?_
    refine pur_ret Tryz.results56 (.tmp rfl .nil) (.head _) fun w' hw => ?_
    rfl
end Go.Proofs.YtgidhhpjabdnkaaGreatDoor
end

section
/- The walks: rvwmo.Loads. -/
namespace Go.Proofs.YtgidhhpjabdnkaaGreatDoor
open Go Go.Eng Go.Tc Go.Rl Go.Vw
attribute [local irreducible] wpList Code.wp bodyPost Exit.then Exit.inBlock Calls
def ldE (t : Tr) (c : Cd) (L : List Int) : Int := if cdE t c = 0 then if ordOK t.evs.length L = true then 0 else 1 else cdE t c
def ldB (t : Tr) (c : Cd) (L : List Int) : Bool := decide (cdE t c = 0) && ordOK t.evs.length L && loadsB t c (posN (L.map Int.toNat))
theorem ints_toNat (o : List Nat) : (ints o).map Int.toNat = o := by
  unfold ints
  rw [List.map_map, show (Int.toNat ∘ fun (x : Nat) => (x : Int)) = id from funext fun x => Int.toNat_natCast x, List.map_id]
/-- where each of the first so many is; -1: nowhere -/
def ixL (n : Nat) (L : List Int) (k : Nat) : List Int := (List.range n).map fun (x : Nat) => if x < k then ixI L x else 0
theorem ixL_len (n : Nat) (L : List Int) (k : Nat) : (ixL n L k).length = n := by unfold ixL; rw [List.length_map, List.length_range]
theorem ixL_get (n : Nat) (L : List Int) (k : Nat) {x : Nat} (hx : x < n) : (ixL n L k).getD x default = if x < k then ixI L x else 0 := by
  unfold ixL; rw [List.getD_eq_getElem?_getD, List.getElem?_map, List.getElem?_range hx]; rfl
theorem ixL_zero (n : Nat) (L : List Int) : List.replicate n (0 : Int) = ixL n L 0 := by
  apply List.ext_getElem (by simp [ixL])
  intro i h1 h2
  simp [ixL]
theorem ixL_set {n : Nat} {L : List Int} (k : Nat) : (ixL n L k).set k (ixI L k) = ixL n L (k + 1) := by
  apply List.ext_getElem (by rw [List.length_set, ixL_len, ixL_len])
  intro i g1 g2
  rw [ixL_len] at g2
  rw [List.getElem_set]
  simp only [ixL, List.getElem_map, List.getElem_range]
  by_cases e : k = i
  · subst e; rw [if_pos rfl, if_pos (Nat.lt_succ_self k)]
  · rw [if_neg e]
    by_cases q : i < k
    · rw [if_pos q, if_pos (by omega)]
    · rw [if_neg q, if_neg (by omega)]
theorem ix_pos {n : Nat} {o : List Nat} (h : IsOrd n o) {x : Nat} (hx : x < n) : ixI (ints o) x = (posN o x : Int) := by
  have hnd : (ints o).Nodup := by
    unfold ints
    exact List.Pairwise.map _ (fun a b hab e => hab (by omega)) h.nodup
  have hp := h.pos hx
  have hl := h.len
  have hg := pos_get (h.all hx)
  have := ixI_at hnd (p := posN o x) (by rw [ints_len]; omega)
  rw [ints_getD (by omega)] at this
  rw [List.getD_eq_getElem?_getD, hg] at this
  exact this
theorem ixL_all {n : Nat} {o : List Nat} (h : IsOrd n o) : ixL n (ints o) n = fL n (posN o) := by
  apply List.ext_getElem (by rw [ixL_len, fL_len])
  intro i g1 g2
  rw [ixL_len] at g1
  simp only [ixL, fL, List.getElem_map, List.getElem_range]
  rw [if_pos g1, ix_pos h g1]
theorem upsB_iff {f : Nat → Nat} {l : List Int} : upsB f l = true ↔ ∀ j, j + 1 < l.length → upB f l j = true := by
  unfold upsB
  rw [all_range]
  exact ⟨fun h j hj => h j (by omega), fun h j hj => h j (by omega)⟩
theorem loads_iff {t : Tr} {c : Cd} {f : Nat → Nat} : loadsB t c f = true ↔ (∀ k, k < c.co.length → upsB f (c.co.getD k default) = true) ∧ ∀ r, r < t.evs.length → readB t c f r = true := by
  unfold loadsB; rw [Bool.and_eq_true, all_range, all_range]
theorem loads_no1 {t : Tr} {c : Cd} {f : Nat → Nat} {k j : Nat} (hk : k < c.co.length) (hj : j + 1 < (c.co.getD k default).length) (h : upB f (c.co.getD k default) j = false) : loadsB t c f = false := by
  cases hq : loadsB t c f
  · rfl
  · have := upsB_iff.1 ((loads_iff.1 hq).1 k hk) j hj
    rw [h] at this; cases this
theorem loads_no2 {t : Tr} {c : Cd} {f : Nat → Nat} {r : Nat} (hr : r < t.evs.length) (h : readB t c f r = false) : loadsB t c f = false := by
  cases hq : loadsB t c f
  · rfl
  · have := (loads_iff.1 hq).2 r hr
    rw [h] at this; cases this

set_option maxRecDepth 8000 in
set_option maxHeartbeats 12800000 in
theorem rvloads_spec {lv iv ev bv av dv cv tv nv : Value} {t : Tr} (fv ov : Value) (c : Cd) (lo : Value) (L : List Int) (w : World) (h : TrIn All w lv iv ev bv av dv cv tv nv t) (hc : CdIn All w fv ov c) (ho : Sl All w Eng.encI 1 lo L) :
    Pur Tryz.prog 20 [.agg #[lv, iv, ev, bv, av, dv, cv, tv, nv], .agg #[fv, ov], lo] w fun _ v _ => v = .tuple #[.bool (ldB t c L), .int .i64 (ldE t c L)] := by
  have hfs := hc.rf.sv
  have hos := hc.cosv
  have hF := hc.rf
  have hFl := hF.le
  have hE := h.evs; have hEl := hE.le
  have hls := ho.sv
  have hLl := ho.le
  obtain ⟨ovs, hov, hol, hoi⟩ := hc.co
  have hovl := hov.le
  refine enter_pur Tryz.func20 Tryz.ntmps20 rfl rfl ?_
  refine gO_ ?_
  refine wl_fx (fx_box (next := ?_)); intro bt
  refine gO_ ?_
  refine wl_fx (fx_box (next := ?_)); intro bc
  refine gO_ ?_
  refine wl_fx (fx_call (spec := fun w' hw => ccheck_spec fv ov c w' (h.now hw (.head _)) (hc.now hw (.head _))) (next := ?_))
  rintro v n1 w1 rfl hn1
  refine gO_ ?_
  refine wc_cond rfl (fun h1 => ?_) (fun h1 => ?_)
  · rw [Bool.not_eq_true', dc_false] at h1
    refine gO_ ?_
    refine pur_ret Tryz.results20 (.tmp rfl (.tmp rfl .nil)) (.tail _ (.head _)) fun w' hw => ?_
    unfold ldB ldE
    rw [if_neg h1, decide_eq_false h1]; rfl
  have hz : cdE t c = 0 := by rw [Bool.not_eq_false', dc_true] at h1; exact h1
  clear h1
  obtain ⟨ht, hcb⟩ := cdE_ok hz
  have hb := (trOk_lens ht).1
  have hrl := ((candB_iff t c).1 hcb).1
  have hcl := ((candB_iff t c).1 hcb).2.1
  have hldE : ldE t c L = if ordOK t.evs.length L = true then 0 else 1 := by unfold ldE; rw [if_pos hz]
  have hldB : ldB t c L = (ordOK t.evs.length L && loadsB t c (posN (L.map Int.toNat))) := by unfold ldB; rw [decide_eq_true hz, Bool.true_and]
  refine gO_ ?_
  refine wc_cond rfl (fun h2 => ?_) (fun h2 => ?_)
  · have hl : ¬ L.length = t.evs.length := by simp [dc_eq] at h2; omega
    have hno : ordOK t.evs.length L = false := by unfold ordOK; rw [decide_eq_false hl]; rfl
    refine gO_ ?_
    refine pur_ret Tryz.results20 (.tmp rfl (.tmp rfl .nil)) (.tail _ (.head _)) fun w' hw => ?_
    rw [hldE, hldB, hno]; rfl
  have hlen : L.length = t.evs.length := by simp [dc_eq] at h2; omega
  clear h2
  refine gO_ ?_
  refine wl_fx (fx_make (next := ?_)); intro va hva
  refine gO_ ?_
  refine wc_loop (fun i : Nat => i ≤ t.evs.length ∧ ∀ x : Nat, x < i → (x : Int) ∈ L) (fun s => [(33, true, .int .i64 s), (32, true, .int .i64 t.evs.length), (10, true, va), (4, true, .pointer (some ⟨bc, 0, none⟩)), (3, true, .pointer (some ⟨bt, 0, none⟩)), (2, true, lo)])
    (fun s => Mem [(w, All)] [.own va 3 1 Eng.encI (ixL t.evs.length L s), .box bc [fv, ov] 33, .box bt [lv, iv, ev, bv, av, dv, cv, tv, nv] 30]) (fun s => t.evs.length - s) 0 ⟨Nat.zero_le _, fun x hx => absurd hx (Nat.not_lt_zero _)⟩ ⟨rfl, rfl, rfl, rfl, rfl, rfl, trivial⟩ (fun _ h => by rw [← ixL_zero]; exact h.last rfl) ?_
  rintro i ⟨hi, hall⟩
  have hil := ixL_len t.evs.length L i
  refine gO_ ?_
  refine wc_cond rfl (fun h3 => ?_) (fun h3 => ?_)
  · have h3' : i < t.evs.length := by rw [dc_true] at h3; omega
    have hia : i < (ixL t.evs.length L i).length := by omega
    refine gO_ ?_
    refine wl_fx (fx_call (spec := fun w' hw => sindex_spec lo i w' L (hw.now ho (.head _))) (next := ?_))
    rintro v n2 w2 rfl hn2
    refine gO_ ?_
    refine wl_fx (fx_store_own (k := 0) (hk := rfl) (next := ?_))
    rw [ixL_set]
    have hil1 := ixL_len t.evs.length L (i + 1)
    have hia1 : i < (ixL t.evs.length L (i + 1)).length := by omega
    have hgi : (ixL t.evs.length L (i + 1)).getD i default = ixI L i := by rw [ixL_get _ _ _ h3', if_pos (Nat.lt_succ_self i)]
    refine gO_ ?_
    rw [hgi]
    refine wc_cond rfl (fun h4 => ?_) (fun h4 => ?_)
    · have hm : ¬ (i : Int) ∈ L := fun q => by
        have := (ixI_nonneg L i).2 q
        rw [dc_true] at h4; omega
      have hno : ordOK t.evs.length L = false := by
        cases hq : ordOK t.evs.length L
        · rfl
        · obtain ⟨o, rfl, hO⟩ := ord_is hq
          refine absurd ?_ hm
          unfold ints
          exact List.mem_map.2 ⟨i, hO.all h3', rfl⟩
      refine gO_ ?_
      refine pur_ret Tryz.results20 (.tmp rfl (.tmp rfl .nil)) (.tail _ (.head _)) fun w' hw => ?_
      rw [hldE, hldB, hno]; rfl
    · have hm : (i : Int) ∈ L := (ixI_nonneg L i).1 (by rw [dc_false] at h4; omega)
      refine gO_ ?_
      refine po_loop (i + 1) ⟨by omega, fun x hx => ?_⟩ (by omega) ⟨rfl, rfl, rfl, rfl, rfl, rfl, trivial⟩ (fun _ h => h.last rfl)
      by_cases q : x < i
      · exact hall x q
      · obtain rfl : x = i := by omega
        exact hm
  · have hio : i = t.evs.length := by rw [dc_false] at h3; omega
    have hok := ord_all hlen fun x hx => hall x (by omega)
    obtain ⟨o, rfl, hO⟩ := ord_is hok
    rw [hio, ixL_all hO]
    rw [hok, ints_toNat, Bool.true_and] at hldB
    rw [if_pos hok] at hldE
    clear hil hall hi h3 hio
    have hal := fL_len t.evs.length (posN o)
    have hget : ∀ x : Nat, x < t.evs.length → (fL t.evs.length (posN o)).getD x default = ((posN o x : Nat) : Int) := fun x hx => fL_get _ _ hx
    refine gO_ ?_
    rw [hol]
    refine wc_loop (fun k : Nat => k ≤ c.co.length ∧ ∀ j, j < k → upsB (posN o) (c.co.getD j default) = true) (fun s => [(51, true, .int .i64 s), (50, true, .int .i64 c.co.length), (49, true, ov), (10, true, va), (4, true, .pointer (some ⟨bc, 0, none⟩)), (3, true, .pointer (some ⟨bt, 0, none⟩))])
      (fun s => Mem [(w, All)] [.own va 3 1 Eng.encI (fL t.evs.length (posN o)), .box bc [fv, ov] 33, .box bt [lv, iv, ev, bv, av, dv, cv, tv, nv] 30]) (fun s => c.co.length - s) 0 ⟨Nat.zero_le _, fun j hj => absurd hj (Nat.not_lt_zero _)⟩ ⟨rfl, rfl, rfl, rfl, rfl, rfl, trivial⟩ (fun _ h => h) ?_
    rintro k ⟨hk, hup⟩
    refine gO_ ?_
    refine wc_cond rfl (fun h5 => ?_) (fun h5 => ?_)
    · have h5' : k < c.co.length := by rw [dc_true] at h5; omega
      have hk2 : k < ovs.length := by omega
      have hL := hoi k h5'
      have hLl2 := hL.le
      have hLsv := hL.sv
      have hmem : ∀ j, j < (c.co.getD k default).length → ∃ x : Nat, x < t.evs.length ∧ (c.co.getD k default).getD j default = (x : Int) := fun j hj => by
        obtain ⟨x, hx, ex, _⟩ := (co_mem hcb (show k < t.locs.length by omega)).1 (mem_getD.2 ⟨j, hj, rfl⟩)
        exact ⟨x, hx, ex⟩
      refine gO_ ?_
      refine wc_loop (fun i : Nat => (i + 1 ≤ (c.co.getD k default).length ∨ i = 0) ∧ ∀ j, j < i → j + 1 < (c.co.getD k default).length → upB (posN o) (c.co.getD k default) j = true) (fun s => [(51, true, .int .i64 k), (50, true, .int .i64 c.co.length), (49, true, ov), (14, true, .int .i64 ((s + 1 : Nat) : Int)), (13, true, ovs.getD k default), (10, true, va), (4, true, .pointer (some ⟨bc, 0, none⟩)), (3, true, .pointer (some ⟨bt, 0, none⟩))])
        (fun s => Mem [(w, All)] [.own va 3 1 Eng.encI (fL t.evs.length (posN o)), .box bc [fv, ov] 33, .box bt [lv, iv, ev, bv, av, dv, cv, tv, nv] 30]) (fun s => (c.co.getD k default).length - s) 0 ⟨.inr rfl, fun j hj => absurd hj (Nat.not_lt_zero _)⟩ ⟨rfl, rfl, rfl, rfl, rfl, rfl, rfl, rfl, trivial⟩ (fun _ h => h) ?_
      rintro i ⟨hi, hupi⟩
      refine gO_ ?_
      refine wc_cond rfl (fun h6 => ?_) (fun h6 => ?_)
      · have h6' : i + 1 < (c.co.getD k default).length := by rw [dc_true] at h6; omega
        obtain ⟨x, hx, ex⟩ := hmem (i + 1) h6'
        obtain ⟨y, hy, ey⟩ := hmem i (by omega)
        have hxa : x < (fL t.evs.length (posN o)).length := by omega
        have hya : y < (fL t.evs.length (posN o)).length := by omega
        have hi6 : i < (c.co.getD k default).length := by omega
        have hgx := hget x hx
        have hgy := hget y hy
        have hsub : ((i + 1 : Nat) : Int) - 1 = (i : Int) := by omega
        refine gO_ ?_
        refine wc_draw [0, 1, 2, 3, 4, 5, 6, 7, 8, 9, 10, 11, 12, 13, 14, 15] mixed ?_
        refine kG_ ?_
        rw [ex]
        refine kG_ ?_
        rw [show ((i + 1 : Nat) : Int) - 1 = (i : Int) by omega, show ((i : Nat) : Int).toNat = i from Int.toNat_natCast i, ey]
        refine kG_ ?_
        rw [show ((x : Nat) : Int).toNat = x from Int.toNat_natCast x, hgx, hgy]
        refine gO_ ?_
        have hupx : upB (posN o) (c.co.getD k default) i = !decide (posN o x < posN o y) := by unfold upB; rw [ex, ey, Int.toNat_natCast, Int.toNat_natCast]
        refine wc_cond rfl (fun h7 => ?_) (fun h7 => ?_)
        · have hno : upB (posN o) (c.co.getD k default) i = false := by
            rw [dc_true] at h7
            rw [hupx, decide_eq_true (show posN o x < posN o y by omega)]; rfl
          refine gO_ ?_
          refine pur_ret Tryz.results20 (.tmp rfl (.tmp rfl .nil)) (.head _) fun w' hw => ?_
          rw [hldE, hldB, loads_no1 h5' h6' hno]; rfl
        · have hyes : upB (posN o) (c.co.getD k default) i = true := by
            rw [dc_false] at h7
            rw [hupx, decide_eq_false (show ¬ posN o x < posN o y by omega)]; rfl
          refine gO_ ?_
          refine po_loop (i + 1) ⟨.inl (by omega), fun j hj hj2 => ?_⟩ (by omega) ⟨rfl, rfl, rfl, rfl, rfl, rfl, rfl, rfl, trivial⟩ (fun _ h => h)
          by_cases q : j < i
          · exact hupi j q hj2
          · obtain rfl : j = i := by omega
            exact hyes
      · refine gO_ ?_
        refine po_loop (k + 1) ⟨by omega, fun j hj => ?_⟩ (by omega) ⟨rfl, rfl, rfl, rfl, rfl, rfl, trivial⟩ (fun _ h => h)
        by_cases q : j < k
        · exact hup j q
        · obtain rfl : j = k := by omega
          refine upsB_iff.2 fun i' hi' => hupi i' (by rw [dc_false] at h6; omega) hi'
    · have hks : ∀ j, j < c.co.length → upsB (posN o) (c.co.getD j default) = true := fun j hj => hup j (by rw [dc_false] at h5; omega)
      refine gO_ ?_
      refine wc_loop (fun r : Nat => r ≤ t.evs.length ∧ ∀ j, j < r → readB t c (posN o) j = true) (fun s => [(81, true, .int .i64 s), (80, true, .int .i64 t.evs.length), (79, true, ev), (10, true, va), (4, true, .pointer (some ⟨bc, 0, none⟩)), (3, true, .pointer (some ⟨bt, 0, none⟩))])
        (fun s => Mem [(w, All)] [.own va 3 1 Eng.encI (fL t.evs.length (posN o)), .box bc [fv, ov] 33, .box bt [lv, iv, ev, bv, av, dv, cv, tv, nv] 30]) (fun s => t.evs.length - s) 0 ⟨Nat.zero_le _, fun j hj => absurd hj (Nat.not_lt_zero _)⟩ ⟨rfl, rfl, rfl, rfl, rfl, rfl, trivial⟩ (fun _ h => h) ?_
      rintro r ⟨hr, hrd⟩
      refine gO_ ?_
      refine wc_cond rfl (fun h8 => ?_) (fun h8 => ?_)
      · have h8' : r < t.evs.length := by rw [dc_true] at h8; omega
        have hrr : r < c.rf.length := by omega
        refine gO_ ?_
        refine wl_fx (fx_alloc (next := ?_)); intro bx
        refine gO_ ?_
        refine wl_fx (fx_store_box (i := 0) (hi := rfl) (next := ?_))
        refine gO_ ?_
        refine wc_draw [0, 1, 2, 3, 4, 5, 6, 7, 8, 9, 10, 11, 12, 13, 14] mixed ?_
        refine kG_ ?_
        refine kg_gx (h := gx_call (spec := fun _ w' hw => rvlast_spec va (posN o) r w' (h.now hw (.head _)) (hw.lend (.tail _ (.head _))) h8' ht)) (next := ?_)
        refine kG_ ?_
        refine gO_ ?_
        refine wc_cond rfl (fun h9 => ?_) (fun h9 => ?_)
        · have hno : readB t c (posN o) r = false := by
            simp only [dc_eq, Bool.and_eq_true, Bool.not_eq_true', decide_eq_true_eq, decide_eq_false_iff_not] at h9
            unfold readB evi
            rw [decide_eq_true h9.1, decide_eq_false h9.2]; rfl
          refine gO_ ?_
          refine pur_ret Tryz.results20 (.tmp rfl (.tmp rfl .nil)) (.head _) fun w' hw => ?_
          rw [hldE, hldB, loads_no2 h8' hno]; rfl
        · have hyes : readB t c (posN o) r = true := by
            simp only [dc_eq, Bool.and_eq_false_iff, Bool.not_eq_false', decide_eq_true_eq, decide_eq_false_iff_not] at h9
            unfold readB evi
            rcases h9 with h9 | h9
            · rw [decide_eq_false h9]; rfl
            · rw [decide_eq_true h9, Bool.or_true]
          refine gO_ ?_
          refine po_loop (r + 1) ⟨by omega, fun j hj => ?_⟩ (by omega) ⟨rfl, rfl, rfl, rfl, rfl, rfl, trivial⟩ (fun _ h => (h.last rfl).sel [1, 2, 3] rfl (by decide))
          by_cases q : j < r
          · exact hrd j q
          · obtain rfl : j = r := by omega
            exact hyes
      · have hyes : loadsB t c (posN o) = true := loads_iff.2 ⟨hks, fun j hj => hrd j (by rw [dc_false] at h8; omega)⟩
        refine gO_ ?_
        refine pur_ret Tryz.results20 (.tmp rfl (.tmp rfl .nil)) (.head _) fun w' hw => ?_
        rw [hldE, hldB, hyes]; rfl
end Go.Proofs.YtgidhhpjabdnkaaGreatDoor
end

section
/- The walks: alembicref20.Loads. -/
namespace Go.Proofs.YtgidhhpjabdnkaaGreatDoor
open Go Go.Eng Go.Tc Go.Rl Go.Vw
attribute [local irreducible] wpList Code.wp bodyPost Exit.then Exit.inBlock Calls

set_option maxRecDepth 8000 in
set_option maxHeartbeats 12800000 in
theorem rloads20_spec {lv iv ev bv av dv cv tv nv : Value} {t : Tr} (fv ov : Value) (c : Cd) (lo : Value) (L : List Int) (w : World) (h : TrIn All w lv iv ev bv av dv cv tv nv t) (hc : CdIn All w fv ov c) (ho : Sl All w Eng.encI 1 lo L) :
    Pur Tryz.prog 21 [.agg #[lv, iv, ev, bv, av, dv, cv, tv, nv], .agg #[fv, ov], lo] w fun _ v _ => v = .tuple #[.bool (ldB t c L), .int .i64 (ldE t c L)] := by
  have hfs := hc.rf.sv
  have hos := hc.cosv
  have hF := hc.rf
  have hFl := hF.le
  have hE := h.evs; have hEl := hE.le
  have hls := ho.sv
  have hLl := ho.le
  obtain ⟨ovs, hov, hol, hoi⟩ := hc.co
  have hovl := hov.le
  refine enter_pur Tryz.func21 Tryz.ntmps21 rfl rfl ?_
  refine gO_ ?_
  refine wl_fx (fx_box (next := ?_)); intro bt
  refine gO_ ?_
  refine wl_fx (fx_box (next := ?_)); intro bc
  refine gO_ ?_
  refine wl_fx (fx_call (spec := fun w' hw => rCheck_spec fv ov c w' (h.now hw (.head _)) (hc.now hw (.head _))) (next := ?_))
  rintro v n1 w1 rfl hn1
  refine gO_ ?_
  refine wc_cond rfl (fun h1 => ?_) (fun h1 => ?_)
  · rw [Bool.not_eq_true', dc_false] at h1
    refine gO_ ?_
    refine pur_ret Tryz.results21 (.tmp rfl (.tmp rfl .nil)) (.tail _ (.head _)) fun w' hw => ?_
    unfold ldB ldE
    rw [if_neg h1, decide_eq_false h1]; rfl
  have hz : cdE t c = 0 := by rw [Bool.not_eq_false', dc_true] at h1; exact h1
  clear h1
  obtain ⟨ht, hcb⟩ := cdE_ok hz
  have hb := (trOk_lens ht).1
  have hrl := ((candB_iff t c).1 hcb).1
  have hcl := ((candB_iff t c).1 hcb).2.1
  have hldE : ldE t c L = if ordOK t.evs.length L = true then 0 else 1 := by unfold ldE; rw [if_pos hz]
  have hldB : ldB t c L = (ordOK t.evs.length L && loadsB t c (posN (L.map Int.toNat))) := by unfold ldB; rw [decide_eq_true hz, Bool.true_and]
  refine gO_ ?_
  refine wl_fx (fx_call (spec := fun w' hw => isorder_spec lo L w' (h.now hw (.tail _ (.head _))) (hw.now ho (.tail _ (.head _))) hb) (next := ?_))
  rintro v n2 w2 rfl hn2
  refine gO_ ?_
  refine wc_cond rfl (fun h2 => ?_) (fun h2 => ?_)
  · rw [Bool.not_eq_true'] at h2
    refine gO_ ?_
    refine pur_ret Tryz.results21 (.tmp rfl (.tmp rfl .nil)) (.tail _ (.tail _ (.head _))) fun w' hw => ?_
    rw [hldE, hldB, h2]; rfl
  have hok : ordOK t.evs.length L = true := by rw [Bool.not_eq_false'] at h2; exact h2
  clear h2
  obtain ⟨o, rfl, hO⟩ := ord_is hok
  rw [hok, ints_toNat, Bool.true_and] at hldB
  rw [if_pos hok] at hldE
  have hal := fL_len t.evs.length (posN o)
  have hget : ∀ x : Nat, x < t.evs.length → (fL t.evs.length (posN o)).getD x default = ((posN o x : Nat) : Int) := fun x hx => fL_get _ _ hx
  refine gO_ ?_
  refine wl_fx (fx_call_mk (spec := fun w' hw => places20_ok lo t.evs.length o w' (hw.now ho (.tail _ (.tail _ (.head _)))) hO hb) (next := ?_))
  rintro va n3 es w3 ⟨hva, rfl⟩
  refine gO_ ?_
  refine wc_loop (fun k : Nat => k ≤ c.co.length ∧ ∀ j, j < k → upsB (posN o) (c.co.getD j default) = true) (fun s => [(10, true, .int .i64 s), (9, true, va), (4, true, .pointer (some ⟨bc, 0, none⟩)), (3, true, .pointer (some ⟨bt, 0, none⟩))])
    (fun s => Mem [(w, All)] [ownI va (fL t.evs.length (posN o)), .box bc [fv, ov] 33, .box bt [lv, iv, ev, bv, av, dv, cv, tv, nv] 30]) (fun s => c.co.length - s) 0 ⟨Nat.zero_le _, fun j hj => absurd hj (Nat.not_lt_zero _)⟩ ⟨rfl, rfl, rfl, rfl, trivial⟩ (fun _ h => h.last rfl) ?_
  rintro k ⟨hk, hup⟩
  refine gO_ ?_
  rw [hol]
  refine wc_cond rfl (fun h5 => ?_) (fun h5 => ?_)
  · have h5' : k < c.co.length := by rw [dc_true] at h5; omega
    have hk2 : k < ovs.length := by omega
    have hL := hoi k h5'
    have hLl2 := hL.le
    have hLsv := hL.sv
    have hmem : ∀ j, j < (c.co.getD k default).length → ∃ x : Nat, x < t.evs.length ∧ (c.co.getD k default).getD j default = (x : Int) := fun j hj => by
      obtain ⟨x, hx, ex, _⟩ := (co_mem hcb (show k < t.locs.length by omega)).1 (mem_getD.2 ⟨j, hj, rfl⟩)
      exact ⟨x, hx, ex⟩
    refine gO_ ?_
    refine wc_loop (fun i : Nat => (i + 1 ≤ (c.co.getD k default).length ∨ i = 0) ∧ ∀ j, j < i → j + 1 < (c.co.getD k default).length → upB (posN o) (c.co.getD k default) j = true) (fun s => [(11, true, .int .i64 ((s + 1 : Nat) : Int)), (10, true, .int .i64 k), (9, true, va), (4, true, .pointer (some ⟨bc, 0, none⟩)), (3, true, .pointer (some ⟨bt, 0, none⟩))])
      (fun s => Mem [(w, All)] [ownI va (fL t.evs.length (posN o)), .box bc [fv, ov] 33, .box bt [lv, iv, ev, bv, av, dv, cv, tv, nv] 30]) (fun s => (c.co.getD k default).length - s) 0 ⟨.inr rfl, fun j hj => absurd hj (Nat.not_lt_zero _)⟩ ⟨rfl, rfl, rfl, rfl, rfl, trivial⟩ (fun _ h => h) ?_
    rintro i ⟨hi, hupi⟩
    refine gO_ ?_
    refine wc_cond rfl (fun h6 => ?_) (fun h6 => ?_)
    · have h6' : i + 1 < (c.co.getD k default).length := by rw [dc_true] at h6; omega
      obtain ⟨x, hx, ex⟩ := hmem (i + 1) h6'
      obtain ⟨y, hy, ey⟩ := hmem i (by omega)
      have hxa : x < (fL t.evs.length (posN o)).length := by omega
      have hya : y < (fL t.evs.length (posN o)).length := by omega
      have hi6 : i < (c.co.getD k default).length := by omega
      have hgx := hget x hx
      have hgy := hget y hy
      refine gO_ ?_
      refine wc_draw [0, 1, 2, 3, 4, 5, 6, 7, 8, 9, 10, 11, 12, 13, 14, 15, 16, 17, 18, 19, 20, 21, 22, 23] mixed ?_
      refine kG_ ?_
      rw [show ((i + 1 : Nat) : Int) - 1 = (i : Int) by omega, show ((i : Nat) : Int).toNat = i from Int.toNat_natCast i, ey]
      refine kG_ ?_
      rw [ex]
      refine kG_ ?_
      rw [show ((x : Nat) : Int).toNat = x from Int.toNat_natCast x, hgx]
      first | rw [hgy] | rw [show ((y : Nat) : Int).toNat = y from Int.toNat_natCast y, hgy]
      refine gO_ ?_
      have hupx : upB (posN o) (c.co.getD k default) i = !decide (posN o x < posN o y) := by unfold upB; rw [ex, ey, Int.toNat_natCast, Int.toNat_natCast]
      refine wc_cond rfl (fun h7 => ?_) (fun h7 => ?_)
      · have hno : upB (posN o) (c.co.getD k default) i = false := by
          rw [dc_true] at h7
          rw [hupx, decide_eq_true (show posN o x < posN o y by omega)]; rfl
        refine gO_ ?_
        refine pur_ret Tryz.results21 (.tmp rfl (.tmp rfl .nil)) (.head _) fun w' hw => ?_
        rw [hldE, hldB, loads_no1 h5' h6' hno]; rfl
      · have hyes : upB (posN o) (c.co.getD k default) i = true := by
          rw [dc_false] at h7
          rw [hupx, decide_eq_false (show ¬ posN o x < posN o y by omega)]; rfl
        refine gO_ ?_
        refine po_loop (i + 1) ⟨.inl (by omega), fun j hj hj2 => ?_⟩ (by omega) ⟨rfl, rfl, rfl, rfl, rfl, trivial⟩ (fun _ h => h)
        by_cases q : j < i
        · exact hupi j q hj2
        · obtain rfl : j = i := by omega
          exact hyes
    · refine gO_ ?_
      refine po_loop (k + 1) ⟨by omega, fun j hj => ?_⟩ (by omega) ⟨rfl, rfl, rfl, rfl, trivial⟩ (fun _ h => h)
      by_cases q : j < k
      · exact hup j q
      · obtain rfl : j = k := by omega
        refine upsB_iff.2 fun i' hi' => hupi i' (by rw [dc_false] at h6; omega) hi'
  · have hks : ∀ j, j < c.co.length → upsB (posN o) (c.co.getD j default) = true := fun j hj => hup j (by rw [dc_false] at h5; omega)
    refine gO_ ?_
    refine wc_loop (fun r : Nat => r ≤ t.evs.length ∧ ∀ j, j < r → readB t c (posN o) j = true) (fun s => [(12, true, .int .i64 s), (9, true, va), (4, true, .pointer (some ⟨bc, 0, none⟩)), (3, true, .pointer (some ⟨bt, 0, none⟩))])
      (fun s => Mem [(w, All)] [ownI va (fL t.evs.length (posN o)), .box bc [fv, ov] 33, .box bt [lv, iv, ev, bv, av, dv, cv, tv, nv] 30]) (fun s => t.evs.length - s) 0 ⟨Nat.zero_le _, fun j hj => absurd hj (Nat.not_lt_zero _)⟩ ⟨rfl, rfl, rfl, rfl, trivial⟩ (fun _ h => h) ?_
    rintro r ⟨hr, hrd⟩
    refine gO_ ?_
    refine wc_cond rfl (fun h8 => ?_) (fun h8 => ?_)
    · have h8' : r < t.evs.length := by rw [dc_true] at h8; omega
      have hrr : r < c.rf.length := by omega
      have hgr := hget r h8'
      have hral : r < (fL t.evs.length (posN o)).length := by omega
      refine gO_ ?_
      refine wc_cond rfl (fun h9 => ?_) (fun h9 => ?_)
      · have hyes : readB t c (posN o) r = true := by
          rw [Bool.not_eq_true', dc_false] at h9
          unfold readB evi
          rw [decide_eq_false h9]; rfl
        refine gO_ ?_
        refine po_loop (r + 1) ⟨by omega, fun j hj => ?_⟩ (by omega) ⟨rfl, rfl, rfl, rfl, trivial⟩ (fun _ h => h)
        by_cases q : j < r
        · exact hrd j q
        · obtain rfl : j = r := by omega
          exact hyes
      have hd : (t.evs.getD r default).dir = 1 := by rw [Bool.not_eq_false', dc_true] at h9; exact h9
      clear h9
      generalize hq : seesB t (posN o) r = q
      refine gO_ ?_
      refine wc_loop (fun i : Nat => i ≤ t.evs.length) (fun s => [(14, true, .int .i64 s), (13, true, .int .i64 (lstW q (posN o) s)), (12, true, .int .i64 r), (9, true, va), (4, true, .pointer (some ⟨bc, 0, none⟩)), (3, true, .pointer (some ⟨bt, 0, none⟩))])
        (fun s => Mem [(w, All)] [ownI va (fL t.evs.length (posN o)), .box bc [fv, ov] 33, .box bt [lv, iv, ev, bv, av, dv, cv, tv, nv] 30]) (fun s => t.evs.length - s) 0 (Nat.zero_le _) ⟨rfl, rfl, rfl, rfl, rfl, rfl, trivial⟩ (fun _ h => h) ?_
      intro i hi
      refine gO_ ?_
      refine wc_cond rfl (fun h1 => ?_) (fun h1 => ?_)
      · have h1' : i < t.evs.length := by rw [dc_true] at h1; omega
        have hgi := hget i h1'
        have hial : i < (fL t.evs.length (posN o)).length := by omega
        have hstep : lstW q (posN o) (i + 1) = if (q i && (decide (lstW q (posN o) i < 0) || decide (posN o (lstW q (posN o) i).toNat < posN o i))) = true then (i : Int) else lstW q (posN o) i := rfl
        refine gO_ ?_
        refine wc_draw [0, 1, 2, 3, 4, 5, 6, 7, 8, 9, 10, 11, 12, 13, 14, 15, 16, 17, 18, 19, 20, 21] mixed ?_
        refine kG_ ?_
        refine gO_ ?_
        refine wc_cond rfl (fun h2 => ?_) (fun h2 => ?_)
        · have hqi : q i = false := by
            simp only [dc_eq, Bool.or_eq_true, Bool.not_eq_true', decide_eq_false_iff_not] at h2
            rw [← hq]; unfold seesB lcB evi
            rcases h2 with h2 | h2
            · rw [decide_eq_false h2]; rfl
            · rw [decide_eq_false h2, Bool.and_false]; rfl
          refine gO_ ?_
          refine po_loop (i + 1) (by omega) (by omega) ?_ (fun _ h => h)
          rw [hstep, hqi]
          exact ⟨rfl, rfl, rfl, rfl, rfl, rfl, trivial⟩
        · have hqi : q i = (decide (posN o i < posN o r) || poP t i r) := by
            simp only [dc_eq, Bool.or_eq_false_iff, Bool.not_eq_false', decide_eq_true_eq] at h2
            rw [← hq]; unfold seesB lcB evi
            rw [decide_eq_true h2.1, decide_eq_true h2.2, Bool.true_and, Bool.true_and]
          refine gO_ ?_
          rcases lstW_is q (posN o) i with ⟨hl, _⟩ | ⟨k, hk, hl, _⟩
          · rw [hl] at hstep ⊢
            refine wc_draw [0, 1, 2, 3, 4, 5, 6, 7, 8, 9, 10, 11, 12, 13, 14, 15, 16, 17, 18, 19, 20, 21, 22, 23, 24, 25, 26, 27, 28, 29] mixed ?_
            refine kG_ ?_
            refine kg_gx (h := gx_call (spec := fun _ w' hw => po20_spec i r w' (h.now hw (.head _)) h1' h8')) (next := ?_)
            refine kG_ ?_
            rw [hgi, hgr]
            refine gO_ ?_
            refine wc_cond rfl (fun h3 => ?_) (fun h3 => ?_)
            · refine gO_ ?_
              refine po_loop (i + 1) (by omega) (by omega) ?_ (fun _ h => h)
              rw [hstep, if_pos (by
                rw [hqi]
                simp only [dc_eq, Bool.or_eq_true, Bool.and_eq_true, decide_eq_true_eq] at h3 ⊢
                refine ⟨h3.1.imp (fun q => by omega) id, ?_⟩
                have := h3.2
                omega)]
              exact ⟨rfl, rfl, rfl, rfl, rfl, rfl, trivial⟩
            · refine gO_ ?_
              refine po_loop (i + 1) (by omega) (by omega) ?_ (fun _ h => h)
              rw [hstep, if_neg (by
                rw [hqi]
                rw [Bool.eq_false_iff] at h3
                refine fun q => h3 ?_
                simp only [dc_eq, Bool.or_eq_true, Bool.and_eq_true, decide_eq_true_eq] at q ⊢
                refine ⟨q.1.imp (fun q => by omega) id, ?_⟩
                have := q.2
                omega)]
              exact ⟨rfl, rfl, rfl, rfl, rfl, rfl, trivial⟩
          · rw [hl] at hstep ⊢
            have hkl : k < t.evs.length := by omega
            have hgk := hget k hkl
            have hkal : k < (fL t.evs.length (posN o)).length := by omega
            refine wc_draw [0, 1, 2, 3, 4, 5, 6, 7, 8, 9, 10, 11, 12, 13, 14, 15, 16, 17, 18, 19, 20, 21, 22, 23, 24, 25, 26, 27, 28, 29] mixed ?_
            refine kG_ ?_
            refine kg_gx (h := gx_call (spec := fun _ w' hw => po20_spec i r w' (h.now hw (.head _)) h1' h8')) (next := ?_)
            refine kG_ ?_
            rw [hgi, hgr, hgk]
            refine gO_ ?_
            refine wc_cond rfl (fun h3 => ?_) (fun h3 => ?_)
            · refine gO_ ?_
              refine po_loop (i + 1) (by omega) (by omega) ?_ (fun _ h => h)
              rw [hstep, if_pos (by
                rw [hqi, Int.toNat_natCast]
                simp only [dc_eq, Bool.or_eq_true, Bool.and_eq_true, decide_eq_true_eq] at h3 ⊢
                refine ⟨h3.1.imp (fun q => by omega) id, ?_⟩
                have := h3.2
                omega)]
              exact ⟨rfl, rfl, rfl, rfl, rfl, rfl, trivial⟩
            · refine gO_ ?_
              refine po_loop (i + 1) (by omega) (by omega) ?_ (fun _ h => h)
              rw [hstep, if_neg (by
                rw [hqi, Int.toNat_natCast]
                rw [Bool.eq_false_iff] at h3
                refine fun q => h3 ?_
                simp only [dc_eq, Bool.or_eq_true, Bool.and_eq_true, decide_eq_true_eq] at q ⊢
                refine ⟨q.1.imp (fun q => by omega) id, ?_⟩
                have := q.2
                omega)]
              exact ⟨rfl, rfl, rfl, rfl, rfl, rfl, trivial⟩
      · obtain rfl : i = t.evs.length := by rw [dc_false] at h1; omega
        refine gO_ ?_
        refine wc_cond rfl (fun h2 => ?_) (fun h2 => ?_)
        · have hno : readB t c (posN o) r = false := by
            rw [Bool.not_eq_true', dc_false] at h2
            unfold readB evi
            rw [decide_eq_true hd, hq, decide_eq_false h2]; rfl
          refine gO_ ?_
          refine pur_ret Tryz.results21 (.tmp rfl (.tmp rfl .nil)) (.head _) fun w' hw => ?_
          rw [hldE, hldB, loads_no2 h8' hno]; rfl
        · have hyes : readB t c (posN o) r = true := by
            rw [Bool.not_eq_false', dc_true] at h2
            unfold readB
            rw [hq, decide_eq_true h2, Bool.or_true]
          refine gO_ ?_
          refine po_loop (r + 1) ⟨by omega, fun j hj => ?_⟩ (by omega) ⟨rfl, rfl, rfl, rfl, trivial⟩ (fun _ h => h)
          by_cases q : j < r
          · exact hrd j q
          · obtain rfl : j = r := by omega
            exact hyes
    · have hyes : loadsB t c (posN o) = true := loads_iff.2 ⟨hks, fun j hj => hrd j (by rw [dc_false] at h8; omega)⟩
      refine gO_ ?_
      refine pur_ret Tryz.results21 (.tmp rfl (.tmp rfl .nil)) (.head _) fun w' hw => ?_
      rw [hldE, hldB, hyes]; rfl
end Go.Proofs.YtgidhhpjabdnkaaGreatDoor
end

section
/- The laws RvwmoExplains, RvwmoOrders, walked. -/
namespace Go.Proofs.YtgidhhpjabdnkaaGreatDoor
open Go Go.Eng Go.Tc Go.Rl Go.Vw
attribute [local irreducible] wpList Code.wp bodyPost Exit.then Exit.inBlock Calls
theorem arcs_round20 {t : Tr} (hb : t.evs.length ≤ 64) {R : Rs} {p : Nat → Nat → Bool} (hokR : okR R = true) (hsame : sameN R = true) (g0 : (R.getD 0 default).1 = (t.evs.length : Int))
    (hk : ∀ a b : Nat, a < t.evs.length → b < t.evs.length → p a b = true → ¬ kindOf R a b = 0) (hac : acyP t p = false) : arcsE R (roundS t.evs.length (relOf t.evs.length p)) = 0 ∧ 0 < (arcsL R (roundS t.evs.length (relOf t.evs.length p))).length := by
  have ok := relOk_relOf t.evs.length p hb
  have hf : ¬ findR (bt (relOf t.evs.length p)) t.evs.length t.evs.length = none := fun q => by
    have := (findR_turns ok).1 q
    unfold acyP acycS at hac
    rw [if_pos ok, Int.toNat_natCast, this] at hac
    cases hac
  obtain ⟨⟨f, l⟩, hfl⟩ := Option.ne_none_iff_exists'.1 hf
  have hR := round_is hfl
  have hS : roundS t.evs.length (relOf t.evs.length p) = ints (roundL (bt (relOf t.evs.length p)) t.evs.length) := by
    unfold roundS; rw [if_pos ok, Int.toNat_natCast]
  rw [hS]
  generalize roundL (bt (relOf t.evs.length p)) t.evs.length = ts at *
  have hil : (ints ts).length = ts.length := by unfold ints; rw [List.length_map]
  have hlt : ∀ i, i < ts.length → ts.getD i default < t.evs.length := fun i hi => hR.lt i _ (getD_some hi)
  have hmod : ∀ i, i < ts.length → (i + 1) % ts.length < ts.length := fun i hi => Nat.mod_lt _ (by omega)
  have hstep : ∀ i, i < ts.length → p (ts.getD i default) (ts.getD ((i + 1) % ts.length) default) = true := fun i hi => by
    have := hR.step i _ _ (getD_some hi) (getD_some (hmod i hi))
    rwa [relOf_bt _ _ hb _ _ (hlt i hi) (hlt _ (hmod i hi))] at this
  have hnx : ∀ i, i < ts.length → Go.Vw.nxt (ints ts) i = ((ts.getD ((i + 1) % ts.length) default : Nat) : Int) := fun i hi => by
    unfold Go.Vw.nxt; rw [hil, ints_getD (hmod i hi)]
  have hnil : ¬ ts.length = 0 := by have := hR.pos; omega
  have hrng : rngL (R.getD 0 default).1 (ints ts) = true := by
    unfold rngL
    rw [List.all_eq_true, g0]
    intro i hi
    rw [List.mem_range, hil] at hi
    rw [ints_getD hi]
    have := hlt i hi
    simp only [Bool.not_eq_true', Bool.or_eq_false_iff, decide_eq_false_iff_not]
    omega
  have hnamed : named R (ints ts) = true := by
    unfold named
    rw [List.all_eq_true]
    intro i hi
    rw [List.mem_range, hil] at hi
    rw [decide_eq_true_eq, ints_getD hi, hnx i hi]
    exact hk _ _ (hlt i hi) (hlt _ (hmod i hi)) (hstep i hi)
  have hE : arcsE R (ints ts) = 0 := by
    unfold arcsE
    rw [if_pos hokR, if_pos hsame, if_pos hrng, if_neg (by rw [hil]; exact hnil), if_pos hnamed]
  refine ⟨hE, ?_⟩
  unfold arcsL arcsTo
  rw [if_pos hE, hil, List.length_map, List.length_range]
  omega
theorem rv_why {t : Tr} {c : Cd} (h : cdE t c = 0) (hc : rvB t c = false) : rvwhyE t c = 0 ∧ 0 < (rvwhyL t c).length := by
  have hb := (trOk_lens (cdE_ok h).1).1
  unfold rvwhyE rvwhyL
  rw [if_pos h, if_pos h]
  by_cases hco : cohB t c = true
  · have hac : acyP t (rhP t c) = false := by unfold rvB at hc; rw [hco, Bool.true_and] at hc; exact hc
    rw [if_pos hco, if_pos hco, if_neg (by rw [hac]; simp), if_neg (by rw [hac]; simp)]
    have g0 : ((rvR t c).getD 0 default) = ((t.evs.length : Int), relOf t.evs.length (poP t)) := rfl
    have g2 : (rvR t c).getD 2 default = ((t.evs.length : Int), relOf t.evs.length (rfP t c)) := rfl
    have g4 : (rvR t c).getD 4 default = ((t.evs.length : Int), relOf t.evs.length (coP t c)) := rfl
    have g6 : (rvR t c).getD 6 default = ((t.evs.length : Int), relOf t.evs.length (frP t c)) := rfl
    have g10 : (rvR t c).getD 10 default = ((t.evs.length : Int), relOf t.evs.length (rvP t c)) := rfl
    refine arcs_round20 hb ?_ ?_ (by rw [g0]) (fun a b ha hb' hd => ?_) hac
    · unfold okR
      rw [List.all_eq_true]
      intro i hi
      have hi' : i < 11 := by rw [List.mem_range] at hi; exact hi
      have : ∀ p, relOk (t.evs.length : Int) (relOf t.evs.length p) = true := fun p => relOk_relOf t.evs.length p hb
      unfold rvR
      rcases i with _ | _ | _ | _ | _ | _ | _ | _ | _ | _ | _ | i
      all_goals first | exact this _ | omega
    · unfold sameN
      rw [List.all_eq_true]
      intro i hi
      have hi' : i < 11 := by rw [List.mem_range] at hi; exact hi
      unfold rvR
      rcases i with _ | _ | _ | _ | _ | _ | _ | _ | _ | _ | _ | i
      all_goals first | exact decide_eq_true rfl | omega
    · have e2 := hasR_at g2 hb ha hb'
      have e4 := hasR_at g4 hb ha hb'
      have e6 := hasR_at g6 hb ha hb'
      have e10 := hasR_at g10 hb ha hb'
      unfold kindOf
      rw [e2, e4, e6, e10]
      unfold rhP exP at hd
      by_cases k2 : rfP t c a b = true
      · rw [if_pos k2]; omega
      by_cases k4 : coP t c a b = true
      · rw [if_neg k2, if_pos k4]; omega
      by_cases k6 : frP t c a b = true
      · rw [if_neg k2, if_neg k4, if_pos k6]; omega
      rw [if_neg k2, if_neg k4, if_neg k6]
      rw [Bool.not_eq_true] at k2 k4 k6
      rw [k2, k4, k6] at hd
      have hp : rvP t c a b = true := by simpa using hd
      rw [if_pos hp]
      split <;> omega
  · rw [if_neg hco, if_neg hco]
    exact ⟨rfl, (why_round h (by simpa using hco)).2.1⟩

set_option maxRecDepth 8000 in
set_option maxHeartbeats 12800000 in
theorem rvwmoExplains_spec {lv iv ev bv av dv cv tv nv : Value} {t : Tr} (fv ov : Value) (c : Cd) (w : World) (h : TrIn All w lv iv ev bv av dv cv tv nv t) (hc : CdIn All w fv ov c) (hT : Tab w) :
    Pur Tryz.prog 6 [.agg #[lv, iv, ev, bv, av, dv, cv, tv, nv], .agg #[fv, ov]] w fun _ v _ => v = .bool true := by
  have hfs := hc.rf.sv
  have hos := hc.cosv
  have g1 := h.locs.sv; have g2 := h.init.sv; have g3 := h.evs.sv; have g4 := h.bars.sv; have g5 := h.addr.sv; have g6 := h.data.sv; have g7 := h.ctrl.sv; have g8 := h.things.sv; have g9 := h.ends.sv
  refine enter_pur Tryz.func6 Tryz.ntmps6 rfl rfl ?_
  refine gO_ ?_
  refine wl_fx (fx_box (next := ?_)); intro bT
  refine gO_ ?_
  refine wl_fx (fx_box (next := ?_)); intro bc
  refine gO_ ?_
  refine wl_fx (fx_call (spec := fun w' hw => rvcons_spec fv ov c w' (h.now hw (.head _)) (hc.now hw (.head _)) (hT.now hw (.head _))) (next := ?_))
  rintro v n1 w1 rfl hn1
  refine gO_ ?_
  refine wc_cond rfl (fun h1 => ?_) (fun h1 => ?_)
  · have hz : ¬ cdE t c = 0 := by rw [Bool.not_eq_true', dc_false] at h1; exact h1
    rw [rvB_bad hz]
    refine gO_ ?_
    refine wl_fx (fx_call (spec := fun w' hw => rCheck_spec fv ov c w' (h.now hw (.tail _ (.head _))) (hc.now hw (.tail _ (.head _)))) (next := ?_))
    rintro v n2 w2 rfl hn2
    refine gO_ ?_
    refine wl_gx (h := gx_call (spec := fun _ w' hw => rvawake_spec w' (hT.now hw (.tail _ (.tail _ (.head _)))))) (next := ?_)
    refine gO_ ?_
    refine pur_ret Tryz.results6 (.tmp rfl .nil) (.tail _ (.tail _ (.head _))) fun w' hw => ?_
    simp only [dc_eq, decide_true, Bool.and_true, beq_self_eq_true]
    rfl
  have hz : cdE t c = 0 := by rw [Bool.not_eq_false', dc_true] at h1; exact h1
  clear h1
  have ht := (cdE_ok hz).1
  have hb := (trOk_lens ht).1
  refine gO_ ?_
  refine wl_fx (fx_call_mk (spec := fun w' hw => rvord_spec fv ov c w' (h.now hw (.tail _ (.head _))) (hc.now hw (.tail _ (.head _))) (hT.now hw (.tail _ (.head _)))) (next := ?_))
  rintro v n4 es w4 ⟨pv, hpv, rfl, rfl⟩
  refine gO_ ?_
  refine wc_cond rfl (fun h2 => ?_) (fun h2 => ?_)
  · have hno : rvB t c = false := by rw [Bool.not_eq_true'] at h2; exact h2
    have hoE : rvordE t c = 181 := by unfold rvordE; rw [if_pos hz, if_neg (by rw [hno]; simp)]
    have hoL : rvordL t c = [] := by unfold rvordL; rw [if_neg (by rw [hno]; simp)]
    obtain ⟨hwE, hwL⟩ := rv_why hz hno
    rw [hoE, hoL]
    refine gO_ ?_
    refine wl_fx (fx_call_mk (spec := fun w' hw => rvwhy_spec fv ov c w' (h.now hw (.tail _ (.tail _ (.head _)))) (hc.now hw (.tail _ (.tail _ (.head _)))) (hT.now hw (.tail _ (.tail _ (.head _))))) (next := ?_))
    rintro v n5 es w5 ⟨a1, ha1, rfl, rfl⟩
    rw [hwE]
    refine gO_ ?_
    refine wl_gx (h := gx_call (spec := fun _ w' hw => rvawake_spec w' (hT.now hw (.tail _ (.tail _ (.tail _ (.head _))))))) (next := ?_)
    refine gO_ ?_
    refine pur_ret Tryz.results6 (.tmp rfl .nil) (.tail _ (.tail _ (.tail _ (.head _)))) fun w' hw => ?_
    have hwl : decide (((rvwhyL t c).length : Int) > 0) = true := decide_eq_true (by omega)
    simp [dc_eq, hwL]
    try rfl
  · have hyes : rvB t c = true := by rw [Bool.not_eq_false'] at h2; exact h2
    obtain ⟨_, hco, hac⟩ := rvB_z hyes
    obtain ⟨_, hlS, hTp, hlen⟩ := line_free hb hac
    have hoE : rvordE t c = 0 := by unfold rvordE; rw [if_pos hz, if_pos hyes]
    have hoL : rvordL t c = ints (lN t.evs.length (bt (relOf t.evs.length (rhP t c))) t.evs.length) := by unfold rvordL; rw [if_pos hyes, hlS]
    rw [hoE, hoL]
    generalize hts : lN t.evs.length (bt (relOf t.evs.length (rhP t c))) t.evs.length = ts at *
    have hO : IsOrd t.evs.length ts := ⟨hTp.nodup, hTp.lt, hlen⟩
    have hup : ∀ a b, a < t.evs.length → b < t.evs.length → rhP t c a b = true → posN ts a < posN ts b := fun a b ha hb' q => topo_pos hTp hlen ha hb' (by rw [relOf_bt _ _ hb _ _ ha hb']; exact q)
    have hld := rv_loads hz hco hup
    have hok := ord_ints hO
    have hldB : ldB t c (ints ts) = true := by unfold ldB; rw [decide_eq_true hz, hok, ints_toNat, hld]; rfl
    have hldE : ldE t c (ints ts) = 0 := by unfold ldE; rw [if_pos hz, if_pos hok]
    have hkp : keepB t.evs.length (rvP t c) (posN ts) = true := keepB_iff.2 fun a b ha hb' q => hup a b ha hb' (by unfold rhP; rw [q]; rfl)
    have hil := ints_len ts
    refine gO_ ?_
    refine wl_fx (fx_call_mk (spec := fun w' hw => rvPpo_spec fv ov c w' (h.now hw (.tail _ (.tail _ (.head _)))) (hc.now hw (.tail _ (.tail _ (.head _)))) (hT.now hw (.tail _ (.tail _ (.head _))))) (next := ?_))
    rintro v n6 es w6 ⟨sp, hsp, rfl, rfl⟩
    rw [if_pos hz, if_pos hz, hz]
    refine gO_ ?_
    refine wl_fx (fx_alloc (next := ?_)); intro bppo
    refine gO_ ?_
    refine wl_fx (fx_store_box (i := 0) (hi := rfl) (next := ?_))
    refine gO_ ?_
    refine wl_fx (fx_call (spec := fun w' hw => rvloads_spec fv ov c pv (ints ts) w' (h.now hw (.tail _ (.tail _ (.tail _ (.head _))))) (hc.now hw (.tail _ (.tail _ (.tail _ (.head _))))) (hw.lend (.tail _ (.tail _ (.head _))))) (next := ?_))
    rintro v n8 w8 rfl hn8
    rw [hldB, hldE]
    refine gO_ ?_
    refine wl_gx (h := gx_call (spec := fun _ w' hw => isorder_spec pv (ints ts) w' (h.now hw (.tail _ (.tail _ (.tail _ (.tail _ (.head _)))))) (hw.lend (.tail _ (.tail _ (.head _)))) hb)) (next := ?_)
    refine gO_ ?_
    refine wl_gx (h := gx_call (spec := fun _ w' hw => rcheck_spec t.evs.length sp (relOf t.evs.length (rvP t c)) w' (hw.lend (.tail _ (.head _))))) (next := ?_)
    refine gO_ ?_
    refine wl_gx (h := gx_call (spec := fun _ w' hw => keeps20_spec sp pv t.evs.length (rvP t c) ts w' (hw.lend (.tail _ (.head _))) (hw.lend (.tail _ (.tail _ (.head _)))) hO hb)) (next := ?_)
    refine gO_ ?_
    refine wl_gx (h := gx_call (spec := fun _ w' hw => rvawake_spec w' (hT.now hw (.tail _ (.tail _ (.tail _ (.tail _ (.head _)))))))) (next := ?_)
    refine gO_ ?_
    refine pur_ret Tryz.results6 (.tmp rfl .nil) (.tail _ (.tail _ (.tail _ (.tail _ (.head _))))) fun w' hw => ?_
    simp [dc_eq, hok, hkp, hil, hlen, relOk_relOf _ _ hb]
    try rfl

set_option maxRecDepth 8000 in
set_option maxHeartbeats 12800000 in
theorem rvwmoOrders_spec {lv iv ev bv av dv cv tv nv : Value} {t : Tr} (fv ov : Value) (c : Cd) (lo : Value) (L : List Int) (w : World) (h : TrIn All w lv iv ev bv av dv cv tv nv t) (hc : CdIn All w fv ov c) (ho : Sl All w Eng.encI 1 lo L) (hT : Tab w) :
    Pur Tryz.prog 5 [.agg #[lv, iv, ev, bv, av, dv, cv, tv, nv], .agg #[fv, ov], lo] w fun _ v _ => v = .bool true := by
  have hfs := hc.rf.sv
  have hos := hc.cosv
  have hls := ho.sv
  have hLl := ho.le
  have g1 := h.locs.sv; have g2 := h.init.sv; have g3 := h.evs.sv; have g4 := h.bars.sv; have g5 := h.addr.sv; have g6 := h.data.sv; have g7 := h.ctrl.sv; have g8 := h.things.sv; have g9 := h.ends.sv
  refine enter_pur Tryz.func5 Tryz.ntmps5 rfl rfl ?_
  refine gO_ ?_
  refine wl_fx (fx_box (next := ?_)); intro bT
  refine gO_ ?_
  refine wl_fx (fx_box (next := ?_)); intro bc
  refine gO_ ?_
  refine wl_fx (fx_call (spec := fun w' hw => rvloads_spec fv ov c lo L w' (h.now hw (.head _)) (hc.now hw (.head _)) (hw.now ho (.head _))) (next := ?_))
  rintro v n1 w1 rfl hn1
  refine gO_ ?_
  refine wc_cond rfl (fun h1 => ?_) (fun h1 => ?_)
  · have hne : ¬ ldE t c L = 0 := by rw [Bool.not_eq_true', dc_false] at h1; exact h1
    have hB : ldB t c L = false := by
      cases hq : ldB t c L
      · rfl
      · unfold ldB at hq
        simp only [Bool.and_eq_true, decide_eq_true_eq] at hq
        refine absurd ?_ hne
        unfold ldE
        rw [if_pos hq.1.1, if_pos hq.1.2]
    rw [hB]
    refine gO_ ?_
    refine wl_fx (fx_call (spec := fun w' hw => rloads20_spec fv ov c lo L w' (h.now hw (.tail _ (.head _))) (hc.now hw (.tail _ (.head _))) (hw.now ho (.tail _ (.head _)))) (next := ?_))
    rintro v n2 w2 rfl hn2
    refine gO_ ?_
    refine wl_gx (h := gx_call (spec := fun _ w' hw => rvawake_spec w' (hT.now hw (.tail _ (.tail _ (.head _)))))) (next := ?_)
    refine gO_ ?_
    refine pur_ret Tryz.results5 (.tmp rfl .nil) (.tail _ (.tail _ (.head _))) fun w' hw => ?_
    simp only [dc_eq, decide_true, Bool.and_true, beq_self_eq_true]
    rfl
  have hE : ldE t c L = 0 := by rw [Bool.not_eq_false', dc_true] at h1; exact h1
  clear h1
  have hz : cdE t c = 0 := by
    by_cases q : cdE t c = 0
    · exact q
    · unfold ldE at hE; rw [if_neg q] at hE; exact absurd hE q
  have hok : ordOK t.evs.length L = true := by
    cases hq : ordOK t.evs.length L
    · unfold ldE at hE; rw [if_pos hz, hq] at hE; cases hE
    · rfl
  obtain ⟨o, rfl, hO⟩ := ord_is hok
  have ht := (cdE_ok hz).1
  have hb := (trOk_lens ht).1
  have hil := ints_len o
  have hlen := hO.len
  have hldB : ldB t c (ints o) = loadsB t c (posN o) := by unfold ldB; rw [decide_eq_true hz, hok, ints_toNat]; rfl
  rw [hldB]
  refine gO_ ?_
  refine wl_fx (fx_call_mk (spec := fun w' hw => rvPpo_spec fv ov c w' (h.now hw (.tail _ (.head _))) (hc.now hw (.tail _ (.head _))) (hT.now hw (.tail _ (.head _)))) (next := ?_))
  rintro v n4 es w4 ⟨sp, hsp, rfl, rfl⟩
  rw [if_pos hz, if_pos hz, hz]
  refine gO_ ?_
  refine wl_fx (fx_alloc (next := ?_)); intro bppo
  refine gO_ ?_
  refine wl_fx (fx_store_box (i := 0) (hi := rfl) (next := ?_))
  refine gO_ ?_
  refine wl_gx (h := gx_call (spec := fun _ w' hw => rcheck_spec t.evs.length sp (relOf t.evs.length (rvP t c)) w' (hw.lend (.tail _ (.head _))))) (next := ?_)
  refine gO_ ?_
  refine wc_cond rfl (fun h2 => ?_) (fun h2 => ?_)
  · simp [dc_eq, hil, hlen, relOk_relOf _ _ hb] at h2
  clear h2
  refine gO_ ?_
  refine wl_gx (h := gx_call (spec := fun _ w' hw => keeps20_spec sp lo t.evs.length (rvP t c) o w' (hw.lend (.tail _ (.head _))) (hw.now ho (.tail _ (.tail _ (.head _)))) hO hb)) (next := ?_)
  refine gO_ ?_
  refine wc_cond rfl (fun h3 => ?_) (fun h3 => ?_)
  · refine gO_ ?_
    refine wl_fx (fx_call (spec := fun w' hw => rvawake_spec w' (hT.now hw (.tail _ (.tail _ (.head _))))) (next := ?_))
    rintro v n7 w7 rfl hn7
    refine gO_ ?_
    exact pur_ret Tryz.results5 (.tmp rfl .nil) (.tail _ (.tail _ (.tail _ (.head _)))) fun w' hw => rfl
  · simp only [Bool.or_eq_false_iff, Bool.not_eq_false'] at h3
    have hrv := loads_rv hz (f := posN o) (fun a b ha hb' q => pos_inj (hO.all ha) q (hO.all hb')) h3.1 (keepB_iff.1 h3.2)
    refine gO_ ?_
    refine wl_fx (fx_call (spec := fun w' hw => rvcons_spec fv ov c w' (h.now hw (.tail _ (.tail _ (.head _)))) (hc.now hw (.tail _ (.tail _ (.head _)))) (hT.now hw (.tail _ (.tail _ (.head _))))) (next := ?_))
    rintro v n8 w8 rfl hn8
    rw [hrv, hz]
    refine gO_ ?_
    refine wl_gx (h := gx_call (spec := fun _ w' hw => rvawake_spec w' (hT.now hw (.tail _ (.tail _ (.tail _ (.head _))))))) (next := ?_)
    refine gO_ ?_
    refine pur_ret Tryz.results5 (.tmp rfl .nil) (.tail _ (.tail _ (.tail _ (.head _)))) fun w' hw => ?_
    simp [dc_eq]
    try rfl
end Go.Proofs.YtgidhhpjabdnkaaGreatDoor
end
