/- A law's arguments, opened into what the walks ask. -/
import Derived.Test.YtpncpbdfomgcgaaDoorEnc
import Derived.Test.YtpncpbdfomgcgaaDoorFrm
import Derived.Deep.Slices
import Derived.Lib.SmallJoins
namespace Go.Frm
open Go Go.ChangeShapes Go.WideShapes Go.ChangeAt Go.RowKit Go.Eng Go.Deep

section
variable {H : Type} {enc : TypeId × Value → H} {P : Program} {W : World}

abbrev RdW (enc : TypeId × Value → H) (P : Program) (W : World) (n : Nat) (t : TypeId) (cs : List Value) : Option (DataW H × List MemPlace) := DataW.trod enc P W 0 (fun _ => true) true n t cs

/-- what the elements are in Lean -/
def El (enc : TypeId × Value → H) (P : Program) (W : World) (e : TypeId) {τ : Type} (en : τ → List Value) : Prop := ∀ n cs y, RdW enc P W n e cs = some y → ∃ x : τ, cs = en x

theorem sl_open {τ : Type} {en : τ → List Value} {sz : Nat} {t e : TypeId} {fuel : Nat} {cs : List Value} {x : DataW H × List MemPlace} (ht : P.underlying t = some (.slice e)) (hc : P.cellsOf e = sz)
    (hel : El enc P W e en) (h : RdW enc P W fuel t cs = some x) :
    ∃ v xs, cs = [v] ∧ Sl All W en sz v xs ∧ (x.1 = .nil ∧ xs = [] ∨ ∃ el sp, x.1 = .slice el sp ∧ el.length = xs.length) := by
  rcases open_slice ht h with ⟨rfl, rfl⟩ | ⟨a, len, cap, m, n, D, Pl, rfl, hb, hl, hm, hmm, rfl, hx⟩
  · exact ⟨_, [], rfl, ⟨⟨none, 0, 0, rfl, rfl, Nat.le_refl _, Nat.zero_le _, fun h => absurd h (by omega)⟩, fun i x j u hi => by simp at hi, fun _ _ _ _ _ => trivial⟩, .inl ⟨rfl, rfl⟩⟩
  · have hme : m = cap := by simpa using hmm
    subst hme
    rw [hc] at hx
    have each : ∀ k, k ≤ len → ∃ xs : List τ, xs.length = k ∧ ∀ i x, xs[i]? = some x → W.cells? 0 (a.add (i * sz)) sz = some (en x) := by
      intro k
      induction k with
      | zero => exact fun _ => ⟨[], rfl, fun i x hi => by simp at hi⟩
      | succ k ih =>
        intro hk
        obtain ⟨xs, hlen, hall⟩ := ih (by omega)
        obtain ⟨cs', h1, h2⟩ := hx k (by omega)
        obtain ⟨y, rfl⟩ := hel _ _ _ h2
        refine ⟨xs ++ [y], by simp [hlen], fun i x hi => ?_⟩
        by_cases hik : i < xs.length
        · rw [List.getElem?_append_left hik] at hi; exact hall i x hi
        · rw [List.getElem?_append_right (by omega)] at hi
          by_cases h0 : i - xs.length = 0
          · rw [h0] at hi
            obtain rfl : y = x := by simpa using hi
            obtain rfl : i = k := by omega
            exact h1
          · rw [List.getElem?_eq_none (by simp; omega)] at hi; cases hi
    obtain ⟨xs, hlen, hall⟩ := each len (Nat.le_refl _)
    refine ⟨_, xs, rfl, ⟨⟨some a, len, m, rfl, hlen.symm, hl, hm, fun _ => rfl⟩, fun i x j u hi hj => ?_, fun _ _ _ _ _ => trivial⟩, .inr ⟨_, _, rfl, by simp [hlen]⟩⟩
    obtain ⟨_, h2, h3⟩ := World.cells?_some (hall i x hi)
    have hjl : j < sz := by
      rcases Nat.lt_or_ge j sz with h' | h'
      · exact h'
      · rw [List.getElem?_eq_none (by omega)] at hj; cases hj
    rw [← hj]; exact h3 j hjl

theorem el_i64 {e : TypeId} (he : P.underlying e = some (.int .i64)) : El enc P W e encI := fun n cs y h => by
  obtain ⟨m, rfl, _, _⟩ := DataW.trod_int he h
  exact ⟨m, rfl⟩

theorem u64_of {m : Int} (h : (Lit.int .u64 m).wf = true) : Value.int .u64 m = u64 (BitVec.ofInt 64 m) := by
  simp only [Lit.wf, Bool.and_eq_true, decide_eq_true_eq] at h
  have h1 : IntKind.u64.min = 0 := rfl
  have h2 : IntKind.u64.max = 18446744073709551615 := rfl
  unfold u64
  congr 1
  rw [BitVec.toNat_ofInt]
  omega

theorem el_u64 {e : TypeId} (he : P.underlying e = some (.int .u64)) : El enc P W e encW := fun n cs y h => by
  obtain ⟨m, rfl, _, hw⟩ := DataW.trod_int he h
  exact ⟨BitVec.ofInt 64 m, by unfold encW; rw [u64_of hw]⟩

theorem el_pair {e : TypeId} {f0 f1 : Field} (he : P.underlying e = some (.struct #[f0, f1])) (hc : P.cellsOf e = 2) (o0 : f0.offset = 0) (o1 : f1.offset = 1) (c0 : P.cellsOf f0.type = 1) (c1 : P.cellsOf f1.type = 1)
    (t0 : P.underlying f0.type = some (.int .i64)) (t1 : P.underlying f1.type = some (.int .i64)) : El enc P W e encPair := fun n cs y h => by
  obtain ⟨y0, y1, m, _, hl, h0, h1⟩ := trod_struct2 he h
  rw [o0, c0] at h0
  rw [o1, c1] at h1
  obtain ⟨a, ha, _, _⟩ := DataW.trod_int t0 h0
  obtain ⟨b, hb, _, _⟩ := DataW.trod_int t1 h1
  rw [hc] at hl
  match cs, hl with
  | [u, v], _ =>
    simp at ha hb
    exact ⟨⟨a, b⟩, by rw [ha, hb]; rfl⟩

/-- an array of numbers, as it is laid -/
theorem arr_cells {n fuel : Nat} {t e : TypeId} {k : IntKind} {cs : List Value} {sp : Nat → Bool} {held : Bool} {zs : List Int} {ps : List MemPlace} (ht : P.underlying t = some (.array n e)) (he : P.underlying e = some (.int k)) (hc : P.cellsOf e = 1)
    (h : DataW.trod enc P W 0 sp held fuel t cs = some (.agg (zs.map fun (z : Int) => (DataW.lit (Lit.int k z) : DataW H)), ps)) : ∀ (i : Nat) (z : Int), zs[i]? = some z → cs[i]? = some (Value.int k z) := by
  obtain ⟨xs, m, rfl, hx, hl, hn, hel⟩ := DataW.trod_array ht h
  simp only [Prod.mk.injEq, DataW.agg.injEq] at hx
  intro i z hz
  have hlen : zs.length = xs.length := by have := congrArg List.length hx.1; simpa using this
  have hi : i < zs.length := (List.getElem?_eq_some_iff.1 hz).1
  have h1 := hel i (by omega)
  rw [hc, Nat.mul_one, List.getElem?_eq_getElem (by omega)] at h1
  obtain ⟨q, h2, h3, _⟩ := DataW.trod_int he h1
  have h4 := congrArg (fun l => l[i]?) hx.1
  simp only [List.getElem?_map, hz, Option.map_some, List.getElem?_eq_getElem (show i < xs.length by omega), h3, Option.some.injEq, DataW.lit.injEq, Lit.int.injEq, true_and] at h4
  subst h4
  have h5 := congrArg (fun l => l[0]?) h2
  simpa using h5

theorem elt_arr (g n i : Nat) : elt (arrV g n) 1 i 0 = ⟨g, i, none⟩ := by
  rcases Nat.eq_zero_or_pos i with rfl | hi
  · simp [elt, arrV, Addr.add]
  · simp [elt, arrV, Addr.add]; omega

theorem tab_sl {n g fuel : Nat} {t e : TypeId} {nm : String} {cs : Array Value} {sp : Nat → Bool} {held : Bool} {zs : List Nat} {ps : List MemPlace} (ht : P.underlying t = some (.array n e)) (he : P.underlying e = some (.int .u8)) (hc : P.cellsOf e = 1) (hn : zs.length = n) (hm : n ≤ 4096)
    (hg : P.globalNamed nm = some g) (hv : W.var? P nm = some cs) (h : DataW.trod enc P W 0 sp held fuel t cs.toList = some (.agg (zs.map fun (z : Nat) => (DataW.lit (Lit.int .u8 (z : Int)) : DataW H)), ps)) : Sl All W encU8 1 (arrV g n) zs := by
  have h' : DataW.trod enc P W 0 sp held fuel t cs.toList = some (.agg ((zs.map fun (z : Nat) => (z : Int)).map fun (z : Int) => (DataW.lit (Lit.int .u8 z) : DataW H)), ps) := by rw [h, List.map_map]; rfl
  refine ⟨⟨some ⟨g, 0, none⟩, n, n, rfl, hn.symm, Nat.le_refl _, by unfold maxLen; omega, fun _ => rfl⟩, fun i x j u hi hj => ?_, fun _ _ _ _ _ => trivial⟩
  have h1 := arr_cells ht he hc h' i x (by rw [List.getElem?_map, hi]; rfl)
  rcases j with _ | j
  · simp [encU8] at hj
    subst hj
    have h2 := World.var?_cell hg hv i
    rw [show elt (arrV g n) 1 i 0 = ⟨g, i, none⟩ from by rw [elt_arr], h2]
    simpa using h1
  · simp [encU8] at hj
end
end Go.Frm
