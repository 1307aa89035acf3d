/- The walks: alembicref02.Compare, Alike; alembicref16.Same; alembicref18.IsOrder, Keeps and seqc.places of an order. -/
import Derived.Test.YtifgncgiiojikaaGreatDoorScC
import Derived.Test.YtifgncgiiojikaaGreatDoorScD
set_option linter.unusedSimpArgs false
set_option linter.unusedVariables false
namespace Go.Proofs.YtifgncgiiojikaaGreatDoor
open Go Go.Eng Go.Tc Go.Rl Go.Vw
attribute [local irreducible] wpList Code.wp bodyPost Exit.then Exit.inBlock Calls
theorem cmp_step {xs ys : List Int} {i : Nat} (h1 : i < xs.length) (h2 : i < ys.length) : cmpL (xs.drop i) (ys.drop i) = if xs.getD i default < ys.getD i default then -1 else if ys.getD i default < xs.getD i default then 1 else cmpL (xs.drop (i + 1)) (ys.drop (i + 1)) := by
  rw [List.drop_eq_getElem_cons h1, List.drop_eq_getElem_cons h2, List.getD_eq_getElem?_getD, List.getD_eq_getElem?_getD, List.getElem?_eq_getElem h1, List.getElem?_eq_getElem h2]
  rfl
theorem cmp_end {xs ys : List Int} {i : Nat} (h : i ≤ xs.length) (h' : i ≤ ys.length) (h2 : ¬ (i < xs.length ∧ i < ys.length)) : cmpL (xs.drop i) (ys.drop i) = if xs.length < ys.length then -1 else if ys.length < xs.length then 1 else 0 := by
  by_cases h1 : i < xs.length
  · have h3 : i = ys.length := by omega
    rw [if_neg (by omega), if_pos (by omega), List.drop_eq_getElem_cons h1, show ys.drop i = [] from List.drop_eq_nil_of_le (by omega)]; rfl
  · have h3 : i = xs.length := by omega
    by_cases h4 : i < ys.length
    · rw [if_pos (by omega), List.drop_eq_getElem_cons h4, show xs.drop i = [] from List.drop_eq_nil_of_le (by omega)]; rfl
    · rw [if_neg (by omega), if_neg (by omega), List.drop_eq_nil_of_le (by omega), List.drop_eq_nil_of_le (by omega)]; rfl

/-! of an order of all events -/
theorem ints_len (o : List Nat) : (ints o).length = o.length := by unfold ints; rw [List.length_map]
theorem IsOrd.at {n : Nat} {o : List Nat} (h : IsOrd n o) {i : Nat} (hi : i < n) : o.getD i default < n ∧ (ints o).getD i default = ((o.getD i default : Nat) : Int) ∧ posN o (o.getD i default) = i := by
  have hl : i < o.length := by rw [h.len]; exact hi
  have hg : o[i]? = some (o.getD i default) := getD_some hl
  exact ⟨h.lt _ (List.mem_of_getElem? hg), ints_getD hl, pos_at h.nodup hg⟩
theorem IsOrd.pos {n : Nat} {o : List Nat} (h : IsOrd n o) {x : Nat} (hx : x < n) : posN o x < n := by have := pos_lt (h.all hx); rw [h.len] at this; exact this
theorem IsOrd.pos_ne {n : Nat} {o : List Nat} (h : IsOrd n o) {i x : Nat} (hi : i < n) (hx : x < n) (hne : ¬ o.getD i default = x) : posN o x ≠ i := fun q => by
  obtain ⟨h1, _, h3⟩ := h.at hi
  exact hne (pos_inj (h.all h1) (by rw [h3, q]) (h.all hx))
/-- which are there -/
def inO (n : Nat) (o : List Nat) (k : Nat) : List Bool := (List.range n).map fun x => decide (posN o x < k)
theorem inO_len (n : Nat) (o : List Nat) (k : Nat) : (inO n o k).length = n := by unfold inO; rw [List.length_map, List.length_range]
theorem inO_get (n : Nat) (o : List Nat) (k : Nat) {x : Nat} (hx : x < n) : (inO n o k).getD x default = decide (posN o x < k) := by
  unfold inO; rw [List.getD_eq_getElem?_getD, List.getElem?_map, List.getElem?_range hx]; rfl
theorem inO_zero (n : Nat) (o : List Nat) : List.replicate n false = inO n o 0 := by
  apply List.ext_getElem (by simp [inO])
  intro i h1 h2
  simp [inO]
theorem inO_set {n : Nat} {o : List Nat} (h : IsOrd n o) {k : Nat} (hk : k < n) : (inO n o k).set (o.getD k default) true = inO n o (k + 1) := by
  obtain ⟨h1, _, h3⟩ := h.at hk
  apply List.ext_getElem (by rw [List.length_set, inO_len, inO_len])
  intro i g1 g2
  rw [inO_len] at g2
  rw [List.getElem_set]
  simp only [inO, List.getElem_map, List.getElem_range]
  by_cases e : o.getD k default = i
  · subst e; rw [if_pos rfl, h3]; simp
  · rw [if_neg e, decide_eq_decide]
    have := h.pos_ne hk g2 e
    omega
/-- where each stands, of the first so many; -1: not yet -/
def plO (n : Nat) (o : List Nat) (k : Nat) : List Int := (List.range n).map fun x => if posN o x < k then (posN o x : Int) else -1
theorem plO_len (n : Nat) (o : List Nat) (k : Nat) : (plO n o k).length = n := by unfold plO; rw [List.length_map, List.length_range]
theorem plO_get (n : Nat) (o : List Nat) (k : Nat) {x : Nat} (hx : x < n) : (plO n o k).getD x default = if posN o x < k then (posN o x : Int) else -1 := by
  unfold plO; rw [List.getD_eq_getElem?_getD, List.getElem?_map, List.getElem?_range hx]; rfl
theorem plO_set {n : Nat} {o : List Nat} (h : IsOrd n o) {k : Nat} (hk : k < n) : (plO n o k).set (o.getD k default) (k : Int) = plO n o (k + 1) := by
  obtain ⟨h1, _, h3⟩ := h.at hk
  apply List.ext_getElem (by rw [List.length_set, plO_len, plO_len])
  intro i g1 g2
  rw [plO_len] at g2
  rw [List.getElem_set]
  simp only [plO, List.getElem_map, List.getElem_range]
  by_cases e : o.getD k default = i
  · subst e; rw [if_pos rfl, h3, if_pos (Nat.lt_succ_self k)]
  · rw [if_neg e]
    have := h.pos_ne hk g2 e
    by_cases q : posN o i < k
    · rw [if_pos q, if_pos (by omega)]
    · rw [if_neg q, if_neg (by omega)]
/-- all of them not yet -/
def ngO (n k : Nat) : List Int := (List.range n).map fun x => if x < k then -1 else 0
theorem ngO_len (n k : Nat) : (ngO n k).length = n := by unfold ngO; rw [List.length_map, List.length_range]
theorem ngO_zero (n : Nat) : List.replicate n (0 : Int) = ngO n 0 := by
  apply List.ext_getElem (by simp [ngO])
  intro i h1 h2
  simp [ngO]
theorem ngO_set (n k : Nat) : (ngO n k).set k (-1) = ngO n (k + 1) := by
  apply List.ext_getElem (by rw [List.length_set, ngO_len, ngO_len])
  intro i g1 g2
  rw [List.getElem_set]
  simp only [ngO, List.getElem_map, List.getElem_range]
  by_cases e : k = i
  · subst e; rw [if_pos rfl, if_pos (Nat.lt_succ_self k)]
  · rw [if_neg e]
    by_cases q : i < k
    · rw [if_pos q, if_pos (by omega)]
    · rw [if_neg q, if_neg (by omega)]
theorem ngO_all (n : Nat) (o : List Nat) : ngO n n = plO n o 0 := by
  apply List.ext_getElem (by rw [ngO_len, plO_len])
  intro i g1 g2
  rw [ngO_len] at g1
  simp [ngO, plO, g1]

set_option maxHeartbeats 3200000 in
theorem places_ok (ov : Value) (n : Nat) (o : List Nat) (w : World) (ho : Sl All w Eng.encI 1 ov (ints o)) (hO : IsOrd n o) (hb : n ≤ 64) :
    Mk Tryz.prog 18 [ov, .int .i64 n] w fun _ v es _ => ∃ pv, SV pv ∧ v = .tuple #[pv, .bool true] ∧ es = [ownI pv (plO n o n)] := by
  have hol := ints_len o
  have hlen := hO.len
  have hos := ho.sv
  refine enter_mk Tryz.func18 Tryz.ntmps18 rfl rfl ?_
  refine gO_ ?_
  rw [hol, hlen]
  refine wc_cond rfl (fun h1 => ?_) (fun h1 => ?_)
  · simp [dc_eq] at h1
  clear h1
  refine gO_ ?_
  refine wl_fx (fx_make (next := ?_)); intro va hva
  refine gO_ ?_
  rw [List.length_replicate, Int.toNat_natCast]
  refine wc_loop (fun i : Nat => i ≤ n) (fun s => [(18, true, .int .i64 s), (17, true, .int .i64 n), (6, true, va), (1, true, .int .i64 n), (0, true, ov)])
    (fun i => Mem [(w, All)] [.own va 3 1 Eng.encI (ngO n i)]) (fun s => n - s) 0 (Nat.zero_le _) ⟨rfl, rfl, rfl, rfl, rfl, trivial⟩ (fun _ h => by rw [← ngO_zero]; exact h) ?_
  intro i hi
  have hli := ngO_len n i
  refine gO_ ?_
  refine wc_cond rfl (fun h2 => ?_) (fun h2 => ?_)
  · have h2' : i < n := by rw [dc_true] at h2; omega
    have hii : i < (ngO n i).length := by omega
    refine gO_ ?_
    refine wl_fx (fx_store_own (k := 0) (hk := rfl) (next := ?_))
    refine gO_ ?_
    refine po_loop (i + 1) (by omega) (by omega) ⟨rfl, rfl, rfl, rfl, rfl, trivial⟩ (fun _ h => ?_)
    rw [← ngO_set]
    exact h
  · obtain rfl : i = n := by rw [dc_false] at h2; omega
    rw [ngO_all i o]
    refine gO_ ?_
    rw [hol, hlen]
    refine wc_loop (fun k : Nat => k ≤ i) (fun s => [(27, true, .int .i64 s), (26, true, .int .i64 i), (25, true, ov), (6, true, va), (1, true, .int .i64 i)])
      (fun k => Mem [(w, All)] [.own va 3 1 Eng.encI (plO i o k)]) (fun s => i - s) 0 (Nat.zero_le _) ⟨rfl, rfl, rfl, rfl, rfl, trivial⟩ (fun _ h => h) ?_
    intro k hk
    have hlk := plO_len i o k
    refine gO_ ?_
    refine wc_cond rfl (fun h3 => ?_) (fun h3 => ?_)
    · have h3' : k < i := by rw [dc_true] at h3; omega
      obtain ⟨hx, hg, hp⟩ := hO.at h3'
      have hk2 : k < (ints o).length := by omega
      have hia : o.getD k default < (plO i o k).length := by omega
      have hgt : (plO i o k).getD ((o.getD k default : Nat) : Int).toNat default = -1 := by rw [Int.toNat_natCast, plO_get _ _ _ hx, hp, if_neg (Nat.lt_irrefl k)]
      refine gO_ ?_
      rw [hg]
      refine gO_ ?_
      rw [hgt]
      refine wc_cond rfl (fun h4 => ?_) (fun h4 => ?_)
      · exfalso
        simp only [dc_eq, Bool.or_eq_true, decide_eq_true_eq] at h4
        omega
      clear h4
      refine gO_ ?_
      refine wl_fx (fx_store_own (k := 0) (hk := rfl) (next := ?_))
      refine gO_ ?_
      refine po_loop (k + 1) (by omega) (by omega) ⟨rfl, rfl, rfl, rfl, rfl, trivial⟩ (fun _ h => ?_)
      rw [← plO_set hO h3']
      exact h
    · obtain rfl : k = i := by rw [dc_false] at h3; omega
      refine gO_ ?_
      refine mk_ret Tryz.results18 (.tmp rfl (.tmp rfl .nil)) (.head _) [_] [0] rfl (by decide) fun w' hw => ?_
      exact ⟨va, hva, rfl, rfl⟩
end Go.Proofs.YtifgncgiiojikaaGreatDoor
