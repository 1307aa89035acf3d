/- The walks: alembicref16.grown, Grown, Marked, Bears. -/
import Derived.Test.YtdpcdbepeemflaaCaA
import Derived.Test.YtdpcdbepeemflaaPak
import Derived.Test.YtdpcdbepeemflaaG02
set_option linter.unusedSimpArgs false
set_option linter.unusedVariables false
namespace Go.Tc
open Go Go.Eng
theorem set_same {α : Type} [Inhabited α] (l : List α) (i : Nat) : l.set i (l.getD i default) = l := by
  apply List.ext_getElem?
  intro q
  rw [List.getElem?_set]
  by_cases e : i = q
  · subst e
    by_cases hl : i < l.length
    · rw [if_pos rfl, if_pos hl, List.getD_eq_getElem?_getD, List.getElem?_eq_getElem hl]; rfl
    · rw [if_pos rfl, if_neg hl, List.getElem?_eq_none (by omega)]
  · rw [if_neg e]
/-- the first k written over -/
def mkTo (xs : List Int) (k : Nat) (c : Int) : List Int := List.replicate k c ++ xs.drop k
theorem mkTo_zero (xs : List Int) (c : Int) : mkTo xs 0 c = xs := by simp [mkTo]
theorem mkTo_len (xs : List Int) {k : Nat} (c : Int) (h : k ≤ xs.length) : (mkTo xs k c).length = xs.length := by simp [mkTo]; omega
theorem mkTo_all (xs : List Int) (c : Int) : mkTo xs xs.length c = List.replicate xs.length c := by simp [mkTo]
theorem mkTo_set {xs : List Int} {k : Nat} (c : Int) (h : k < xs.length) : (mkTo xs k c).set k c = mkTo xs (k + 1) c := by
  unfold mkTo
  rw [List.set_append_right _ _ (by simp), List.length_replicate, Nat.sub_self, List.drop_eq_getElem_cons h, List.set_cons_zero, List.replicate_succ', List.append_assoc]
  rfl
def coMk (co : List (List Int)) (i k : Nat) (f : Nat → Int) : List (List Int) := (List.range co.length).map fun q => if q < i then List.replicate (co.getD q default).length (f q) else if q = i then mkTo (co.getD q default) k (f q) else co.getD q default
theorem coMk_len (co : List (List Int)) (i k : Nat) (f : Nat → Int) : (coMk co i k f).length = co.length := by simp [coMk]
theorem coMk_zero (co : List (List Int)) (f : Nat → Int) : coMk co 0 0 f = co := by
  unfold coMk
  apply List.ext_getElem (by simp)
  intro i h1 h2
  simp only [List.getElem_map, List.getElem_range, Nat.not_lt_zero, if_false, mkTo_zero, ite_self]
  rw [List.getD_eq_getElem?_getD, List.getElem?_eq_getElem h2]; rfl
theorem coMk_get {co : List (List Int)} {i : Nat} (k : Nat) (f : Nat → Int) (h : i < co.length) : (coMk co i k f).getD i default = mkTo (co.getD i default) k (f i) := by
  unfold coMk
  rw [List.getD_eq_getElem?_getD, List.getElem?_map, List.getElem?_range h]
  simp
theorem coMk_set {co : List (List Int)} {i k : Nat} {f : Nat → Int} (h : i < co.length) {c : Int} (hc : c = f i) (hk : k < (co.getD i default).length) : (coMk co i k f).set i ((mkTo (co.getD i default) k (f i)).set k c) = coMk co i (k + 1) f := by
  subst hc
  rw [mkTo_set _ hk]
  unfold coMk
  apply List.ext_getElem (by simp)
  intro q h1 h2
  rw [List.getElem_set]
  simp only [List.getElem_map, List.getElem_range]
  by_cases e : i = q
  · subst e; simp
  · have e' : ¬ q = i := fun h => e h.symm
    simp only [e, e', if_false]
theorem coMk_next {co : List (List Int)} {i : Nat} {f : Nat → Int} : coMk co i (co.getD i default).length f = coMk co (i + 1) 0 f := by
  unfold coMk
  refine List.map_congr_left fun q _ => ?_
  by_cases e : q < i
  · rw [if_pos e, if_pos (by omega)]
  · rw [if_neg e]
    by_cases e2 : q = i
    · subst e2; rw [if_pos rfl, if_pos (by omega), mkTo_all]
    · rw [if_neg e2, if_neg (by omega)]
      by_cases e3 : q = i + 1
      · rw [if_pos e3, mkTo_zero]
      · rw [if_neg e3]
def markF (m : Int) (q : Nat) : Int := -1001 - 100 * m - (q : Int)
def markC (c : Cd) (m : Int) : Cd := ⟨mkTo c.rf c.rf.length (-1000 - 100 * m), coMk c.co c.co.length 0 (markF m)⟩
theorem markC_rf (c : Cd) (m : Int) {i : Nat} (h : i < (markC c m).rf.length) : (markC c m).rf.getD i default = -1000 - 100 * m := by
  have e : (markC c m).rf = List.replicate c.rf.length (-1000 - 100 * m) := mkTo_all _ _
  rw [e] at h ⊢
  rw [List.length_replicate] at h
  rw [List.getD_eq_getElem?_getD, List.getElem?_replicate, if_pos h]; rfl
theorem markC_co (c : Cd) (m : Int) {i k : Nat} (h : i < (markC c m).co.length) (hk : k < ((markC c m).co.getD i default).length) : ((markC c m).co.getD i default).getD k default = markF m i := by
  have hi : i < c.co.length := by rw [← coMk_len c.co c.co.length 0 (markF m)]; exact h
  have e : (markC c m).co.getD i default = List.replicate (c.co.getD i default).length (markF m i) := by
    show (coMk c.co c.co.length 0 (markF m)).getD i default = _
    unfold coMk
    rw [List.getD_eq_getElem?_getD, List.getElem?_map, List.getElem?_range hi]
    simp only [Option.map_some, Option.getD_some]
    rw [if_pos hi]
  rw [e] at hk ⊢
  rw [List.length_replicate] at hk
  rw [List.getD_eq_getElem?_getD, List.getElem?_replicate, if_pos hk]; rfl
end Go.Tc
namespace Go.Proofs.Ytdpcdbepeemflaa
open Go Go.Eng Go.Tc
attribute [local irreducible] wpList Code.wp bodyPost Exit.then Exit.inBlock Calls
/-- entries beside what grown appends -/
def grE (l lw : Value) (xs : List Int) (n : Nat) (moved : Bool) : List Ent := .own lw 3 1 Eng.encI (xs ++ List.replicate n (-9)) :: if moved = true then [.own l 3 1 Eng.encI xs] else []
set_option maxHeartbeats 1600000 in
theorem grown16_spec (l : Value) (xs : List Int) (w : World) (hl : SV l) (hb : xs.length ≤ 1000) (hw : Mem [] [.own l 3 1 Eng.encI xs] w) :
    Mu Try.prog 27 [l] (.own l 3 1 Eng.encI xs) w fun _ _ e' _ => e' = .own l 3 1 Eng.encI xs := by
  refine enter_mu Try.func27 Try.ntmps27 rfl rfl hw ?_
  refine gO_ ?_
  refine kp_mem (A' := fun w' => Mem [(w, Off (.own l 3 1 Eng.encI xs))] [.own l 3 1 Eng.encI xs] w' ∧ cutV xs.length l = l) (fun w' h => ⟨h, ?_⟩) ?_
  · obtain ⟨a, cap, hv, _⟩ := own_is (h.own _ (.head _))
    subst hv; rfl
  refine wc_loop (fun s : Nat × Value × Bool => (s.1 ≤ 20 ∧ SV s.2.1)) (fun s => [(2, true, .int .i64 s.1), (0, true, s.2.1)])
    (fun s w' => Mem [(w, Off (.own l 3 1 Eng.encI xs))] (grE l s.2.1 xs s.1 s.2.2) w' ∧ (s.2.2 = false → cutV xs.length s.2.1 = l)) (fun s => 20 - s.1) (0, l, false) ⟨Nat.zero_le _, hl⟩ ⟨rfl, rfl, trivial⟩ (fun w' h => ⟨by simpa [grE] using h.1, fun _ => h.2⟩) ?_
  rintro ⟨i, lw, mv⟩ ⟨hi, hlw⟩
  dsimp only at hi hlw ⊢
  have key : ∀ {N : Nat} {K : Act → World → Prop} {tm : Tm} {p : Prop} {A : World → Prop}, (p → KP N K tm A) → KP N K tm (fun w' => A w' ∧ p) := fun {N K tm p A} h => by
    unfold KP at *
    exact fun a w' hs hw => h hw.2 a w' hs hw.1
  refine key fun hmv => ?_
  have hlen : (xs ++ List.replicate i (-9)).length = xs.length + i := by rw [List.length_append, List.length_replicate]
  cases mv with
  | false =>
    have hc := hmv rfl
    refine kp_mem (A' := Mem [(w, Off (.own l 3 1 Eng.encI xs))] [.own lw 3 1 Eng.encI (xs ++ List.replicate i (-9))]) (fun _ h => h) ?_
    refine gO_ ?_
    refine wc_cond rfl (fun h1 => ?_) (fun h1 => ?_)
    · have h1' : i < 20 := by rw [dc_true] at h1; omega
      refine gO_ ?_
      refine wl_fx (fx_lit (next := ?_))
      intro v8 hv8
      refine gO_ ?_
      refine wl_fx (fx_append_keep (k := 1) (hk := rfl) (hm := .head _) (h0 := by simp) (hlen := by rw [hlen]; simp only [List.length_map, List.length_cons, List.length_nil]; omega) (next1 := ?_) (next2 := ?_))
      · intro v9 hv9 hcut
        refine gO_ ?_
        refine po_loop (i + 1, v9, false) ⟨by dsimp only; omega, hv9⟩ (by dsimp only; omega) ⟨rfl, rfl, trivial⟩ (fun w' h => ⟨?_, fun _ => ?_⟩)
        · have h' := h.tail
          show Mem _ [.own v9 3 1 Eng.encI (xs ++ List.replicate (i + 1) (-9))] w'
          rw [List.replicate_succ', ← List.append_assoc]
          exact h'
        · dsimp only
          rw [← hc, ← hcut, cutV_cutV]
      · intro v9 hv9
        refine gO_ ?_
        refine po_loop (i + 1, v9, true) ⟨by dsimp only; omega, hv9⟩ (by dsimp only; omega) ⟨rfl, rfl, trivial⟩ (fun w' h => ⟨?_, fun e => by cases e⟩)
        have h2 : Mem [(w, Off (.own l 3 1 Eng.encI xs))] [.own v9 3 1 Eng.encI ((xs ++ List.replicate i (-9)) ++ [-9]), .own lw 3 1 Eng.encI (xs ++ List.replicate i (-9))] w' := h.sel [0, 2] rfl (by decide)
        have h' := h2.cutMine (τ := Int) 1 rfl xs.length (by rw [hlen]; omega)
        rw [List.take_left' rfl, hc] at h'
        show Mem _ [.own v9 3 1 Eng.encI (xs ++ List.replicate (i + 1) (-9)), .own l 3 1 Eng.encI xs] w'
        rw [List.replicate_succ', ← List.append_assoc]
        exact h'
    · refine gO_ ?_
      refine kp_mem (A' := Mem [(w, Off (.own l 3 1 Eng.encI xs))] [.own l 3 1 Eng.encI xs]) (fun _ h => ?_) ?_
      · have h' := h.cutMine (τ := Int) 0 rfl xs.length (by rw [hlen]; omega)
        rw [List.take_left' rfl, hc] at h'
        exact h'
      · exact mu_end Try.results27 .nil (.head _) (.head _) fun w' hw => rfl
  | true =>
    refine kp_mem (A' := Mem [(w, Off (.own l 3 1 Eng.encI xs))] [.own lw 3 1 Eng.encI (xs ++ List.replicate i (-9)), .own l 3 1 Eng.encI xs]) (fun _ h => h) ?_
    refine gO_ ?_
    refine wc_cond rfl (fun h1 => ?_) (fun h1 => ?_)
    · have h1' : i < 20 := by rw [dc_true] at h1; omega
      refine gO_ ?_
      refine wl_fx (fx_lit (next := ?_))
      intro v8 hv8
      refine gO_ ?_
      refine wl_fx (fx_append_own (k := 1) (hk := rfl) (hm := .head _) (hlen := by rw [hlen]; simp only [List.length_map, List.length_cons, List.length_nil]; omega) (next := ?_))
      intro v9 hv9
      refine gO_ ?_
      refine po_loop (i + 1, v9, true) ⟨by dsimp only; omega, hv9⟩ (by dsimp only; omega) ⟨rfl, rfl, trivial⟩ (fun w' h => ⟨?_, fun e => by cases e⟩)
      have h' := h.tail
      show Mem _ [.own v9 3 1 Eng.encI (xs ++ List.replicate (i + 1) (-9)), .own l 3 1 Eng.encI xs] w'
      rw [List.replicate_succ', ← List.append_assoc]
      exact h'
    · refine gO_ ?_
      exact mu_end Try.results27 .nil (.head _) (.tail _ (.head _)) fun w' hw => rfl
theorem cand_open {bs : List Base} {ra oa : Value} {vs : List Value} {xs : List Int} {co : List (List Int)} {b : Ent} {w : World} (h : Mem bs [b, .own ra 3 1 Eng.encI xs, pack2 3 23 oa vs co] w) : Mem bs (b :: .own ra 3 1 Eng.encI xs :: .own oa 23 1 encV vs :: inner 3 vs co) w :=
  ((h.sel [2, 0, 1] rfl (by decide)).unpack).perm (List.perm_append_comm (l₂ := [_, _]))
theorem cand_shut {bs : List Base} {ra oa : Value} {vs : List Value} {xs : List Int} {co : List (List Int)} {b : Ent} {w : World} (h : Mem bs (b :: .own ra 3 1 Eng.encI xs :: .own oa 23 1 encV vs :: inner 3 vs co) w) : Mem bs [.own ra 3 1 Eng.encI xs, pack2 3 23 oa vs co] w :=
  ((h.perm (List.perm_append_comm (l₁ := [_, _]))).pack).sel [2, 0] rfl (by decide)
set_option maxHeartbeats 1600000 in
theorem Grown16_spec (ra oa : Value) (vs : List Value) (c : Cd) (w : World) (hra : SV ra) (hoa : SV oa) (hvl : vs.length = c.co.length) (hb : c.rf.length ≤ 1000) (hb3 : c.co.length ≤ 1000) (hb2 : ∀ i, i < c.co.length → (c.co.getD i default).length ≤ 1000) (hsv : ∀ v, v ∈ vs → SV v)
    (hw : Mem [] [.own ra 3 1 Eng.encI c.rf, pack2 3 23 oa vs c.co] w) :
    Mus Try.prog 10 [.agg #[ra, oa]] [.own ra 3 1 Eng.encI c.rf, pack2 3 23 oa vs c.co] w fun _ _ es _ => es = [.own ra 3 1 Eng.encI c.rf, pack2 3 23 oa vs c.co] := by
  generalize hes : [Ent.own ra 3 1 Eng.encI c.rf, pack2 3 23 oa vs c.co] = es at *
  refine enter_mus Try.func10 Try.ntmps10 rfl rfl hw ?_
  refine kp_mem (A' := Mem [(w, OffL es)] [.own ra 3 1 Eng.encI c.rf, pack2 3 23 oa vs c.co]) (fun _ h => by rw [hes]; exact h) ?_
  refine gO_ ?_
  refine wl_fx (fx_box (next := ?_)); intro bc
  refine kp_mem (fun _ h => cand_open h) ?_
  refine gO_ ?_
  refine wl_fx (fx_call_mu 1 rfl (spec := fun w' hw => grown16_spec ra c.rf w' hra hb (hw.only (.tail _ (.head _)))) (next := ?_))
  rintro v n1 e' w1 rfl
  refine gO_ ?_
  refine wc_loop (fun i : Nat => i ≤ vs.length) (fun i => [(2, true, .int .i64 i), (1, true, .pointer (some ⟨bc, 0, none⟩))])
    (fun i => Mem [(w, OffL es)] (.box bc [ra, oa] 33 :: .own ra 3 1 Eng.encI c.rf :: .own oa 23 1 encV vs :: inner 3 vs c.co)) (fun i => vs.length - i) 0 (Nat.zero_le _) ⟨rfl, rfl, trivial⟩ (fun _ h => h) ?_
  intro i hi
  refine gO_ ?_
  refine wc_cond rfl (fun h1 => ?_) (fun h1 => ?_)
  · have h1' : i < vs.length := by rw [dc_true] at h1; omega
    have hsi : SV (vs.getD i default) := hsv _ (by rw [List.getD_eq_getElem?_getD, List.getElem?_eq_getElem h1']; exact List.getElem_mem h1')
    have hget : (Ent.box bc [ra, oa] 33 :: .own ra 3 1 Eng.encI c.rf :: .own oa 23 1 encV vs :: inner 3 vs c.co)[i + 3]? = some (.own (vs.getD i default) 3 1 Eng.encI (c.co.getD i default)) := inner_get 3 hvl h1'
    refine gO_ ?_
    refine wl_fx (fx_call_mu (i + 3) hget (spec := fun w' hw => grown16_spec (vs.getD i default) (c.co.getD i default) w' hsi (hb2 i (by omega)) (hw.only (List.mem_of_getElem? hget))) (next := ?_))
    rintro v n2 e' w2 rfl
    refine gO_ ?_
    refine po_loop (i + 1) (by omega) (by omega) ⟨rfl, rfl, trivial⟩ (fun w' h => ?_)
    have e1 := inner_set 3 vs c.co i (vs.getD i default) (c.co.getD i default)
    rw [set_same, set_same] at e1
    have h' : Mem [(w, OffL es)] (.box bc [ra, oa] 33 :: .own ra 3 1 Eng.encI c.rf :: .own oa 23 1 encV vs :: (inner 3 vs c.co).set i (.own (vs.getD i default) 3 1 Eng.encI (c.co.getD i default))) w' := h
    rw [e1] at h'
    exact h'
  · refine gO_ ?_
    refine kp_mem (fun _ h => cand_shut h) ?_
    exact mus_end Try.results10 .nil (.head _) [_, _] [0, 1] rfl (by decide) fun w' hw => hes

set_option maxHeartbeats 1600000 in
theorem Marked16_spec (ra oa : Value) (vs : List Value) (c : Cd) (m : Int) (w : World) (hra : SV ra) (hoa : SV oa) (hvl : vs.length = c.co.length) (hm : 0 ≤ m ∧ m ≤ 1000) (hb : c.rf.length ≤ 1000) (hb3 : c.co.length ≤ 1000) (hb2 : ∀ i, i < c.co.length → (c.co.getD i default).length ≤ 1000) (hsv : ∀ v, v ∈ vs → SV v)
    (hw : Mem [] [.own ra 3 1 Eng.encI c.rf, pack2 3 23 oa vs c.co] w) :
    Mus Try.prog 9 [.agg #[ra, oa], .int .i64 m] [.own ra 3 1 Eng.encI c.rf, pack2 3 23 oa vs c.co] w fun _ _ es _ => es = [.own ra 3 1 Eng.encI (markC c m).rf, pack2 3 23 oa vs (markC c m).co] := by
  generalize hes : [Ent.own ra 3 1 Eng.encI c.rf, pack2 3 23 oa vs c.co] = es at *
  refine enter_mus Try.func9 Try.ntmps9 rfl rfl hw ?_
  refine kp_mem (A' := Mem [(w, OffL es)] [.own ra 3 1 Eng.encI c.rf, pack2 3 23 oa vs c.co]) (fun _ h => by rw [hes]; exact h) ?_
  refine gO_ ?_
  refine wl_fx (fx_box (next := ?_)); intro bc
  refine kp_mem (fun _ h => cand_open h) ?_
  refine gO_ ?_
  rw [← mkTo_zero c.rf (-1000 - 100 * m)]
  refine wc_loop (fun i : Nat => i ≤ c.rf.length) (fun i => [(4, true, .int .i64 i), (2, true, .pointer (some ⟨bc, 0, none⟩)), (1, true, .int .i64 m)])
    (fun i => Mem [(w, OffL es)] (.box bc [ra, oa] 33 :: .own ra 3 1 Eng.encI (mkTo c.rf i (-1000 - 100 * m)) :: .own oa 23 1 encV vs :: inner 3 vs c.co)) (fun i => c.rf.length - i) 0 (Nat.zero_le _) ⟨rfl, rfl, rfl, trivial⟩ (fun _ h => h) ?_
  intro i hi
  have hml := mkTo_len c.rf (-1000 - 100 * m) hi
  refine gO_ ?_
  refine wc_cond rfl (fun h1 => ?_) (fun h1 => ?_)
  · have h1' : i < c.rf.length := by rw [dc_true] at h1; omega
    have h1'' : i < (mkTo c.rf i (-1000 - 100 * m)).length := by omega
    refine gO_ ?_
    refine wl_fx (fx_store_own (k := 1) (hk := rfl) (next := ?_))
    refine gO_ ?_
    refine po_loop (i + 1) (by omega) (by omega) ⟨rfl, rfl, rfl, trivial⟩ (fun w' h => ?_)
    rw [← mkTo_set _ h1']
    exact h
  obtain rfl : i = c.rf.length := by rw [dc_false] at h1; omega
  clear h1 hml
  refine gO_ ?_
  rw [← coMk_zero c.co (markF m)]
  refine wc_loop (fun i : Nat => i ≤ c.co.length) (fun i => [(5, true, .int .i64 i), (2, true, .pointer (some ⟨bc, 0, none⟩)), (1, true, .int .i64 m)])
    (fun i => Mem [(w, OffL es)] (.box bc [ra, oa] 33 :: .own ra 3 1 Eng.encI (markC c m).rf :: .own oa 23 1 encV vs :: inner 3 vs (coMk c.co i 0 (markF m)))) (fun i => c.co.length - i) 0 (Nat.zero_le _) ⟨rfl, rfl, rfl, trivial⟩ (fun _ h => h) ?_
  intro i hi
  refine gO_ ?_
  refine wc_cond rfl (fun h1 => ?_) (fun h1 => ?_)
  · have h1' : i < c.co.length := by rw [dc_true] at h1; omega
    have h1v : i < vs.length := by omega
    have hli := hb2 i h1'
    have hsi : SV (vs.getD i default) := hsv _ (by rw [List.getD_eq_getElem?_getD, List.getElem?_eq_getElem h1v]; exact List.getElem_mem h1v)
    refine gO_ ?_
    refine wc_loop (fun k : Nat => k ≤ (c.co.getD i default).length) (fun k => [(6, true, .int .i64 k), (5, true, .int .i64 i), (2, true, .pointer (some ⟨bc, 0, none⟩)), (1, true, .int .i64 m)])
      (fun k => Mem [(w, OffL es)] (.box bc [ra, oa] 33 :: .own ra 3 1 Eng.encI (markC c m).rf :: .own oa 23 1 encV vs :: inner 3 vs (coMk c.co i k (markF m)))) (fun k => (c.co.getD i default).length - k) 0 (Nat.zero_le _) ⟨rfl, rfl, rfl, rfl, trivial⟩ (fun _ h => h) ?_
    intro k hk
    have hvc : vs.length = (coMk c.co i k (markF m)).length := by rw [coMk_len]; exact hvl
    have hcg := coMk_get (co := c.co) k (markF m) h1'
    have hml := mkTo_len (c.co.getD i default) (markF m i) hk
    have hget : (Ent.box bc [ra, oa] 33 :: .own ra 3 1 Eng.encI (markC c m).rf :: .own oa 23 1 encV vs :: inner 3 vs (coMk c.co i k (markF m)))[i + 3]? = some (.own (vs.getD i default) 3 1 Eng.encI (mkTo (c.co.getD i default) k (markF m i))) := by rw [← hcg]; exact inner_get 3 hvc h1v
    refine gO_ ?_
    refine wl_a (v := .int .i64 (mkTo (c.co.getD i default) k (markF m i)).length) (h := qy_len_own (hm := List.mem_of_getElem? hget)) (next := ?_)
    rw [hml]
    refine gO_ ?_
    refine wc_cond rfl (fun h2 => ?_) (fun h2 => ?_)
    · have h2' : k < (c.co.getD i default).length := by rw [dc_true] at h2; omega
      refine gO_ ?_
      refine wl_a (v := .pointer (some (elt (vs.getD i default) 1 k 0))) (h := qy_index_own_nat (hm := List.mem_of_getElem? hget) (hb := fun _ => by rw [hml]; omega)) (next := ?_)
      refine gO_ ?_
      refine wl_fx (fx_store_own (k := i + 3) (hk := hget) (hi := by rw [hml]; omega) (next := ?_))
      refine gO_ ?_
      refine po_loop (k + 1) (by omega) (by omega) ⟨rfl, rfl, rfl, rfl, trivial⟩ (fun w' h => ?_)
      have e1 := inner_set 3 vs (coMk c.co i k (markF m)) i (vs.getD i default) ((mkTo (c.co.getD i default) k (markF m i)).set k (-1001 - 100 * m - (i : Int)))
      have e2 := coMk_set (f := markF m) h1' (c := -1001 - 100 * m - (i : Int)) rfl h2'
      rw [set_same, e2] at e1
      rw [← e1]
      exact h
    · obtain rfl : k = (c.co.getD i default).length := by rw [dc_false] at h2; omega
      refine gO_ ?_
      refine po_loop (i + 1) (by omega) (by omega) ⟨rfl, rfl, rfl, trivial⟩ (fun w' h => ?_)
      rw [← coMk_next]
      exact h
  · obtain rfl : i = c.co.length := by rw [dc_false] at h1; omega
    refine gO_ ?_
    refine kp_mem (fun _ h => cand_shut h) ?_
    exact mus_end Try.results9 .nil (.head _) [_, _] [0, 1] rfl (by decide) fun w' hw => rfl

set_option maxHeartbeats 1600000 in
theorem Bears16_spec (ra oa : Value) (c : Cd) (m : Int) (w : World) (hr : Sl All w Eng.encI 1 ra c.rf) (ho : Sl2 All w oa c.co) (hm : 0 ≤ m ∧ m ≤ 1000) (hb : c.rf.length ≤ 1000) (hb3 : c.co.length ≤ 1000) (hb2 : ∀ i, i < c.co.length → (c.co.getD i default).length ≤ 1000)
    (h1 : ∀ i, i < c.rf.length → c.rf.getD i default = -1000 - 100 * m) (h2 : ∀ i k, i < c.co.length → k < (c.co.getD i default).length → (c.co.getD i default).getD k default = markF m i) :
    Pur Try.prog 11 [.agg #[ra, oa], .int .i64 m] w fun _ v _ => v = .bool true := by
  obtain ⟨vs, hv, hl, hi⟩ := ho
  have s1 := hr.sv; have s2 := hv.sv
  refine enter_pur Try.func11 Try.ntmps11 rfl rfl ?_
  refine gO_ ?_
  refine wl_fx (fx_box (next := ?_)); intro bc
  refine gO_ ?_
  refine wc_loop (fun i : Nat => i ≤ c.rf.length) (fun i => [(5, true, .int .i64 i), (2, true, .pointer (some ⟨bc, 0, none⟩)), (1, true, .int .i64 m)])
    (fun _ => Mem [(w, All)] [.box bc [ra, oa] 33]) (fun s => c.rf.length - s) 0 (Nat.zero_le _) ⟨rfl, rfl, rfl, trivial⟩ (fun _ h => h.last rfl) ?_
  intro i hil
  refine gO_ ?_
  refine wc_cond rfl (fun q1 => ?_) (fun q1 => ?_)
  · have q1' : i < c.rf.length := by rw [dc_true] at q1; omega
    have hv1 := h1 i q1'
    refine gO_ ?_
    rw [hv1]
    refine wc_cond rfl (fun q2 => ?_) (fun q2 => ?_)
    · exfalso
      simp [dc_eq] at q2
    · refine gO_ ?_
      exact po_loop (i + 1) (by omega) (by omega) ⟨rfl, rfl, rfl, trivial⟩ (fun _ h => h.last rfl)
  refine gO_ ?_
  refine wc_loop (fun i : Nat => i ≤ c.co.length) (fun i => [(6, true, .int .i64 i), (2, true, .pointer (some ⟨bc, 0, none⟩)), (1, true, .int .i64 m)])
    (fun _ => Mem [(w, All)] [.box bc [ra, oa] 33]) (fun s => c.co.length - s) 0 (Nat.zero_le _) ⟨rfl, rfl, rfl, trivial⟩ (fun _ h => h.last rfl) ?_
  intro i hil2
  refine gO_ ?_
  refine wc_cond rfl (fun q1 => ?_) (fun q1 => ?_)
  · have q1' : i < c.co.length := by rw [dc_true] at q1; omega
    have q1v : i < vs.length := by omega
    have hx := hi i q1'
    have hxs := hx.sv
    have hxl := hb2 i q1'
    refine gO_ ?_
    refine wc_loop (fun k : Nat => k ≤ (c.co.getD i default).length) (fun k => [(7, true, .int .i64 k), (6, true, .int .i64 i), (2, true, .pointer (some ⟨bc, 0, none⟩)), (1, true, .int .i64 m)])
      (fun _ => Mem [(w, All)] [.box bc [ra, oa] 33]) (fun s => (c.co.getD i default).length - s) 0 (Nat.zero_le _) ⟨rfl, rfl, rfl, rfl, trivial⟩ (fun _ h => h.last rfl) ?_
    intro k hk
    refine gO_ ?_
    refine wc_cond rfl (fun q3 => ?_) (fun q3 => ?_)
    · have q3' : k < (c.co.getD i default).length := by rw [dc_true] at q3; omega
      have hv2 := h2 i k q1' q3'
      refine gO_ ?_
      rw [hv2]
      refine wc_cond rfl (fun q2 => ?_) (fun q2 => ?_)
      · exfalso
        simp [dc_eq, markF] at q2
      · refine gO_ ?_
        exact po_loop (k + 1) (by omega) (by omega) ⟨rfl, rfl, rfl, rfl, trivial⟩ (fun _ h => h.last rfl)
    · refine gO_ ?_
      exact po_loop (i + 1) (by omega) (by omega) ⟨rfl, rfl, rfl, trivial⟩ (fun _ h => h.last rfl)
  · refine gO_ ?_
    refine pur_ret Try.results11 (.tmp rfl .nil) (.head _) fun w' hw => ?_
    rfl
end Go.Proofs.Ytdpcdbepeemflaa
