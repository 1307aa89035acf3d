import Derived.ProofKit
import Derived.Carry
import Derived.SizedLaws
import Derived.OpenShut
import Derived.Test.YtdpcdbepeemflaaG02
import Derived.Deep.Slices
import Derived.Lib.SmallJoins
set_option linter.unusedSimpArgs false
set_option linter.unusedVariables false
section
/- The frame of a law's proof: a call that turns nothing that was there, and answers true. -/
namespace Go.Frm
open Go Go.ChangeShapes Go.WideShapes Go.ChangeAt Go.RowKit

section
variable {H : Type} {enc : TypeId × Value → H} {P : Program} {W W' : World}

theorem trodAll_below (hl : laidOutB P = true) (hb : Below W.heap.size W W') : ∀ (ts : List TypeId) {vs : List Value} {ds : List (DataW H)} {ps : List MemPlace}, (∀ t, t ∈ ts → P.readableRec t = true ∧ t < P.types.size) →
    DataW.TrodAll enc P W 0 (fun _ => true) true ts vs ds ps → (∀ x ∈ ps, x.block < W.heap.size) → DataW.TrodAll enc P W' 0 (fun b => decide (b < W.heap.size)) true ts vs ds ps
  | [], _, _, _, _, h, _ => by
    obtain ⟨rfl, rfl, rfl⟩ := trodAll_nil h
    exact trodAll_mk0
  | t :: ts, _, _, _, ht, h, hlt => by
    obtain ⟨v, vs', d, ds', p, q, rfl, rfl, rfl, h1, h2⟩ := trodAll_cons h
    exact trodAll_cons_mk (Below.trod hl (ht t (.head _)).1 (ht t (.head _)).2 h1 hb fun x hx => hlt x (List.mem_append_left _ hx))
      (trodAll_below hl hb ts (fun t' h' => ht t' (.tail _ h')) h2 fun x hx => hlt x (List.mem_append_right _ hx))

theorem post_pure {f : Func} {s : ChangeSpec} {args : Array Value} {ds : List (DataW H)} {before : List MemPlace} {tb : TypeId} (hl : laidOutB P = true) (hp : ∀ t, t ∈ f.params.toList → P.readableRec t = true ∧ t < P.types.size)
    (hvars : s.vars = []) (hrt : f.resultTypes = #[tb]) (htb : P.underlying tb = some .bool) (hW : DataW.Whole enc P f.params.toList s.vars false W args.toList ds [] before)
    (hres : (s.fn H (ds ++ [])).results = [.lit (.bool true)]) (hargs : (s.fn H (ds ++ [])).args = ds) (hvs : (s.fn H (ds ++ [])).vars = []) (hb : Below W.heap.size W W') : s.post enc P f false true false false W args (.bool true) W' := by
  have hW' := hW
  obtain ⟨p, q, hA, hV, rfl, _, _⟩ := hW
  rw [hvars] at hV
  obtain ⟨_, rfl⟩ := trodVars_none hV
  have hlt : ∀ x ∈ p, x.block < W.heap.size := fun x hx => hW'.lt x (List.mem_append_left _ hx)
  refine ⟨ds, [], p ++ [], [], p, [], hW', ?_, ?_, ?_, hb.frame _, fun h => by cases h⟩
  · rw [hres, hrt]; exact trodAll_mk1 (shut_bool htb true)
  · rw [hargs]; exact trodAll_below hl hb _ hp hA hlt
  · rw [hvs, hvars]; rfl
end
end Go.Frm
end

section
/- A law's arguments, opened into what the walks ask. -/
namespace Go.Frm
open Go Go.ChangeShapes Go.WideShapes Go.ChangeAt Go.RowKit Go.Eng Go.Deep

section
variable {H : Type} {enc : TypeId × Value → H} {P : Program} {W : World}

abbrev RdW (enc : TypeId × Value → H) (P : Program) (W : World) (n : Nat) (t : TypeId) (cs : List Value) : Option (DataW H × List MemPlace) := DataW.trod enc P W 0 (fun _ => true) true n t cs

/-- what the elements are in Lean -/
def El (enc : TypeId × Value → H) (P : Program) (W : World) (e : TypeId) {τ : Type} (en : τ → List Value) : Prop := ∀ n cs y, RdW enc P W n e cs = some y → ∃ x : τ, cs = en x

theorem sl_open {τ : Type} {en : τ → List Value} {sz : Nat} {t e : TypeId} {fuel : Nat} {cs : List Value} {x : DataW H × List MemPlace} (ht : P.underlying t = some (.slice e)) (hc : P.cellsOf e = sz)
    (hel : El enc P W e en) (h : RdW enc P W fuel t cs = some x) :
    ∃ v xs, cs = [v] ∧ Sl All W en sz v xs ∧ (x.1 = .nil ∧ xs = [] ∨ ∃ el sp, x.1 = .slice el sp ∧ el.length = xs.length) := by
  rcases open_slice ht h with ⟨rfl, rfl⟩ | ⟨a, len, cap, m, n, D, Pl, rfl, hb, hl, hm, hmm, rfl, hx⟩
  · exact ⟨_, [], rfl, ⟨⟨none, 0, 0, rfl, rfl, Nat.le_refl _, Nat.zero_le _, fun h => absurd h (by omega)⟩, fun i x j u hi => by simp at hi, fun _ _ _ _ _ => trivial⟩, .inl ⟨rfl, rfl⟩⟩
  · have hme : m = cap := by simpa using hmm
    subst hme
    rw [hc] at hx
    have each : ∀ k, k ≤ len → ∃ xs : List τ, xs.length = k ∧ ∀ i x, xs[i]? = some x → W.cells? 0 (a.add (i * sz)) sz = some (en x) := by
      intro k
      induction k with
      | zero => exact fun _ => ⟨[], rfl, fun i x hi => by simp at hi⟩
      | succ k ih =>
        intro hk
        obtain ⟨xs, hlen, hall⟩ := ih (by omega)
        obtain ⟨cs', h1, h2⟩ := hx k (by omega)
        obtain ⟨y, rfl⟩ := hel _ _ _ h2
        refine ⟨xs ++ [y], by simp [hlen], fun i x hi => ?_⟩
        by_cases hik : i < xs.length
        · rw [List.getElem?_append_left hik] at hi; exact hall i x hi
        · rw [List.getElem?_append_right (by omega)] at hi
          by_cases h0 : i - xs.length = 0
          · rw [h0] at hi
            obtain rfl : y = x := by simpa using hi
            obtain rfl : i = k := by omega
            exact h1
          · rw [List.getElem?_eq_none (by simp; omega)] at hi; cases hi
    obtain ⟨xs, hlen, hall⟩ := each len (Nat.le_refl _)
    refine ⟨_, xs, rfl, ⟨⟨some a, len, m, rfl, hlen.symm, hl, hm, fun _ => rfl⟩, fun i x j u hi hj => ?_, fun _ _ _ _ _ => trivial⟩, .inr ⟨_, _, rfl, by simp [hlen]⟩⟩
    obtain ⟨_, h2, h3⟩ := World.cells?_some (hall i x hi)
    have hjl : j < sz := by
      rcases Nat.lt_or_ge j sz with h' | h'
      · exact h'
      · rw [List.getElem?_eq_none (by omega)] at hj; cases hj
    rw [← hj]; exact h3 j hjl

theorem el_i64 {e : TypeId} (he : P.underlying e = some (.int .i64)) : El enc P W e encI := fun n cs y h => by
  obtain ⟨m, rfl, _, _⟩ := DataW.trod_int he h
  exact ⟨m, rfl⟩

theorem u64_of {m : Int} (h : (Lit.int .u64 m).wf = true) : Value.int .u64 m = u64 (BitVec.ofInt 64 m) := by
  simp only [Lit.wf, Bool.and_eq_true, decide_eq_true_eq] at h
  have h1 : IntKind.u64.min = 0 := rfl
  have h2 : IntKind.u64.max = 18446744073709551615 := rfl
  unfold u64
  congr 1
  rw [BitVec.toNat_ofInt]
  omega

theorem el_u64 {e : TypeId} (he : P.underlying e = some (.int .u64)) : El enc P W e encW := fun n cs y h => by
  obtain ⟨m, rfl, _, hw⟩ := DataW.trod_int he h
  exact ⟨BitVec.ofInt 64 m, by unfold encW; rw [u64_of hw]⟩

theorem el_pair {e : TypeId} {f0 f1 : Field} (he : P.underlying e = some (.struct #[f0, f1])) (hc : P.cellsOf e = 2) (o0 : f0.offset = 0) (o1 : f1.offset = 1) (c0 : P.cellsOf f0.type = 1) (c1 : P.cellsOf f1.type = 1)
    (t0 : P.underlying f0.type = some (.int .i64)) (t1 : P.underlying f1.type = some (.int .i64)) : El enc P W e encPair := fun n cs y h => by
  obtain ⟨y0, y1, m, _, hl, h0, h1⟩ := trod_struct2 he h
  rw [o0, c0] at h0
  rw [o1, c1] at h1
  obtain ⟨a, ha, _, _⟩ := DataW.trod_int t0 h0
  obtain ⟨b, hb, _, _⟩ := DataW.trod_int t1 h1
  rw [hc] at hl
  match cs, hl with
  | [u, v], _ =>
    simp at ha hb
    exact ⟨⟨a, b⟩, by rw [ha, hb]; rfl⟩

/-- an array of numbers, as it is laid -/
theorem arr_cells {n fuel : Nat} {t e : TypeId} {k : IntKind} {cs : List Value} {sp : Nat → Bool} {held : Bool} {zs : List Int} {ps : List MemPlace} (ht : P.underlying t = some (.array n e)) (he : P.underlying e = some (.int k)) (hc : P.cellsOf e = 1)
    (h : DataW.trod enc P W 0 sp held fuel t cs = some (.agg (zs.map fun (z : Int) => (DataW.lit (Lit.int k z) : DataW H)), ps)) : ∀ (i : Nat) (z : Int), zs[i]? = some z → cs[i]? = some (Value.int k z) := by
  obtain ⟨xs, m, rfl, hx, hl, hn, hel⟩ := DataW.trod_array ht h
  simp only [Prod.mk.injEq, DataW.agg.injEq] at hx
  intro i z hz
  have hlen : zs.length = xs.length := by have := congrArg List.length hx.1; simpa using this
  have hi : i < zs.length := (List.getElem?_eq_some_iff.1 hz).1
  have h1 := hel i (by omega)
  rw [hc, Nat.mul_one, List.getElem?_eq_getElem (by omega)] at h1
  obtain ⟨q, h2, h3, _⟩ := DataW.trod_int he h1
  have h4 := congrArg (fun l => l[i]?) hx.1
  simp only [List.getElem?_map, hz, Option.map_some, List.getElem?_eq_getElem (show i < xs.length by omega), h3, Option.some.injEq, DataW.lit.injEq, Lit.int.injEq, true_and] at h4
  subst h4
  have h5 := congrArg (fun l => l[0]?) h2
  simpa using h5

theorem elt_arr (g n i : Nat) : elt (arrV g n) 1 i 0 = ⟨g, i, none⟩ := by
  rcases Nat.eq_zero_or_pos i with rfl | hi
  · simp [elt, arrV, Addr.add]
  · simp [elt, arrV, Addr.add]; omega

theorem tab_sl {n g fuel : Nat} {t e : TypeId} {nm : String} {cs : Array Value} {sp : Nat → Bool} {held : Bool} {zs : List Nat} {ps : List MemPlace} (ht : P.underlying t = some (.array n e)) (he : P.underlying e = some (.int .u8)) (hc : P.cellsOf e = 1) (hn : zs.length = n) (hm : n ≤ 4096)
    (hg : P.globalNamed nm = some g) (hv : W.var? P nm = some cs) (h : DataW.trod enc P W 0 sp held fuel t cs.toList = some (.agg (zs.map fun (z : Nat) => (DataW.lit (Lit.int .u8 (z : Int)) : DataW H)), ps)) : Sl All W encU8 1 (arrV g n) zs := by
  have h' : DataW.trod enc P W 0 sp held fuel t cs.toList = some (.agg ((zs.map fun (z : Nat) => (z : Int)).map fun (z : Int) => (DataW.lit (Lit.int .u8 z) : DataW H)), ps) := by rw [h, List.map_map]; rfl
  refine ⟨⟨some ⟨g, 0, none⟩, n, n, rfl, hn.symm, Nat.le_refl _, by unfold maxLen; omega, fun _ => rfl⟩, fun i x j u hi hj => ?_, fun _ _ _ _ _ => trivial⟩
  have h1 := arr_cells ht he hc h' i x (by rw [List.getElem?_map, hi]; rfl)
  rcases j with _ | j
  · simp [encU8] at hj
    subst hj
    have h2 := World.var?_cell hg hv i
    rw [show elt (arrV g n) 1 i 0 = ⟨g, i, none⟩ from by rw [elt_arr], h2]
    simpa using h1
  · simp [encU8] at hj
end
end Go.Frm
end

section
/- A law's arguments, opened: one law for each kind of type. -/
namespace Go.Frm
open Go Go.ChangeShapes Go.WideShapes Go.ChangeAt Go.RowKit Go.Eng Go.Deep

section
variable {H : Type} {enc : TypeId × Value → H} {P : Program} {W : World}

/-- what the cells of a type read as are -/
def Opn (enc : TypeId × Value → H) (P : Program) (W : World) (t : TypeId) (Φ : List Value → Prop) : Prop :=
  ∀ n cs y, RdW enc P W n t cs = some y → (∀ k, k ∈ y.1.weights P t → k ≤ reachBytes) → Φ cs

theorem opn_i64 {t : TypeId} (ht : P.underlying t = some (.int .i64)) : Opn enc P W t fun cs => ∃ n : Int, cs = [.int .i64 n] ∧ -9223372036854775808 ≤ n ∧ n ≤ 9223372036854775807 := fun n cs y h _ => by
  obtain ⟨m, rfl, _, hw⟩ := DataW.trod_int ht h
  simp only [Lit.wf, Bool.and_eq_true, decide_eq_true_eq] at hw
  have h1 : IntKind.i64.min = -9223372036854775808 := rfl
  have h2 : IntKind.i64.max = 9223372036854775807 := rfl
  exact ⟨m, rfl, by omega, by omega⟩
theorem opn_u64 {t : TypeId} (ht : P.underlying t = some (.int .u64)) : Opn enc P W t fun cs => ∃ x : BitVec 64, cs = [u64 x] := fun n cs y h _ => by
  obtain ⟨m, rfl, _, hw⟩ := DataW.trod_int ht h
  exact ⟨_, by rw [u64_of hw]⟩
theorem opn_bool {t : TypeId} (ht : P.underlying t = some .bool) : Opn enc P W t fun cs => ∃ b : Bool, cs = [.bool b] := fun n cs y h _ => by
  obtain ⟨b, rfl, _⟩ := DataW.trod_bool ht h
  exact ⟨b, rfl⟩
theorem opn_string {t : TypeId} (ht : P.underlying t = some .string) : Opn enc P W t fun cs => ∃ s : ByteArray, cs = [.string s] ∧ s.size ≤ 140737488351232 := fun n cs y h hw => by
  obtain ⟨s, rfl, hx, _⟩ := DataW.trod_string ht h
  refine ⟨s, rfl, ?_⟩
  have := hw s.data.toList.length (by rw [hx]; simp [DataW.weights])
  simp only [reachBytes, Array.length_toList] at this
  exact this

/-- what an element is in Lean, and what holds of it -/
def Ely (enc : TypeId × Value → H) (P : Program) (W : World) (e : TypeId) {τ : Type} (en : τ → List Value) (Ψ : τ → Prop) : Prop := Opn enc P W e fun cs => ∃ x : τ, cs = en x ∧ Ψ x

theorem weights_all {e : TypeId} : ∀ {ds : List (DataW H)} {d : DataW H}, d ∈ ds → ∀ k, k ∈ d.weights P e → k ∈ DataW.weightsAll P e ds
  | d0 :: ds, d, hd, k, hk => by
    simp only [DataW.weightsAll, List.mem_append]
    rcases List.mem_cons.1 hd with rfl | hd
    · exact .inl hk
    · exact .inr (weights_all hd k hk)

theorem opn_slice {τ : Type} {en : τ → List Value} {Ψ : τ → Prop} {sz : Nat} {t e : TypeId} (ht : P.underlying t = some (.slice e)) (hc : P.cellsOf e = sz) (hel : Ely enc P W e en Ψ) :
    Opn enc P W t fun cs => ∃ v xs, cs = [v] ∧ Sl All W en sz v xs ∧ xs.length * P.bytesOf e ≤ 140737488351232 ∧ ∀ x, x ∈ xs → Ψ x := fun fuel cs x h hw => by
  rcases open_slice ht h with ⟨rfl, rfl⟩ | ⟨a, len, cap, m, n, D, Pl, rfl, hb, hl, hm, hmm, rfl, hx⟩
  · exact ⟨_, [], rfl, ⟨⟨none, 0, 0, rfl, rfl, Nat.le_refl _, Nat.zero_le _, fun h => absurd h (by omega)⟩, fun i x j u hi => by simp at hi, fun _ _ _ _ _ => trivial⟩, by simp, fun x hx => by cases hx⟩
  · have hme : m = cap := by simpa using hmm
    subst hme
    rw [hc] at hx
    simp only [DataW.weights, ht, List.mem_cons, List.mem_append] at hw
    have each : ∀ k, k ≤ len → ∃ xs : List τ, xs.length = k ∧ (∀ i x, xs[i]? = some x → W.cells? 0 (a.add (i * sz)) sz = some (en x)) ∧ ∀ x, x ∈ xs → Ψ x := by
      intro k
      induction k with
      | zero => exact fun _ => ⟨[], rfl, fun i x hi => by simp at hi, fun x hx => by cases hx⟩
      | succ k ih =>
        intro hk
        obtain ⟨xs, hlen, hall, hΨ⟩ := ih (by omega)
        obtain ⟨cs', h1, h2⟩ := hx k (by omega)
        obtain ⟨y, rfl, hy⟩ := hel _ _ _ h2 (fun q hq => hw q (.inr (.inl (weights_all (List.mem_map.2 ⟨k, List.mem_range.2 (by omega), rfl⟩) q hq))))
        refine ⟨xs ++ [y], by simp [hlen], fun i x hi => ?_, fun x hx => ?_⟩
        · by_cases hik : i < xs.length
          · rw [List.getElem?_append_left hik] at hi; exact hall i x hi
          · rw [List.getElem?_append_right (by omega)] at hi
            by_cases h0 : i - xs.length = 0
            · rw [h0] at hi
              obtain rfl : y = x := by simpa using hi
              obtain rfl : i = k := by omega
              exact h1
            · rw [List.getElem?_eq_none (by simp; omega)] at hi; cases hi
        · rw [List.mem_append, List.mem_singleton] at hx
          rcases hx with hx | rfl
          · exact hΨ x hx
          · exact hy
    obtain ⟨xs, hlen, hall, hΨ⟩ := each len (Nat.le_refl _)
    refine ⟨_, xs, rfl, ⟨⟨some a, len, m, rfl, hlen.symm, hl, hm, fun _ => rfl⟩, fun i x j u hi hj => ?_, fun _ _ _ _ _ => trivial⟩, ?_, hΨ⟩
    · obtain ⟨_, h2, h3⟩ := World.cells?_some (hall i x hi)
      have hjl : j < sz := by
        rcases Nat.lt_or_ge j sz with h' | h'
        · exact h'
        · rw [List.getElem?_eq_none (by omega)] at hj; cases hj
      rw [← hj]; exact h3 j hjl
    · have := hw _ (.inl rfl)
      simp only [List.length_map, List.length_range, reachBytes] at this
      exact Nat.le_trans (Nat.mul_le_mul_right _ (by omega)) this

/-- cells in a row -/
def Cat : List (List Value → Prop) → List Value → Prop
  | [], cs => cs = []
  | Φ :: Φs, cs => ∃ c cs', cs = c ++ cs' ∧ Φ c ∧ Cat Φs cs'

/-- the fields lie behind one another, from o on to n -/
def contig (P : Program) : List Field → Nat → Nat → Bool
  | [], o, n => o == n
  | f :: fs, o, n => f.offset == o && contig P fs (o + P.cellsOf f.type) n

inductive Opns (enc : TypeId × Value → H) (P : Program) (W : World) : List Field → List (List Value → Prop) → Prop where
  | nil : Opns enc P W [] []
  | cons {f : Field} {Φ : List Value → Prop} {fs : List Field} {Φs : List (List Value → Prop)} : Opn enc P W f.type Φ → Opns enc P W fs Φs → Opns enc P W (f :: fs) (Φ :: Φs)

theorem cat_of {n : Nat} {cs : List Value} : ∀ {fs : List Field} {Φs : List (List Value → Prop)} {o : Nat} {xs : List (DataW H × List MemPlace)}, Opns enc P W fs Φs → contig P fs o cs.length = true →
    (∀ (i : Nat) (f : Field), fs[i]? = some f → RdW enc P W n f.type ((cs.drop f.offset).take (P.cellsOf f.type)) = xs[i]?) → xs.length = fs.length →
    (∀ k, k ∈ DataW.weightsEach P (fs.map (·.type)) (xs.map (·.1)) → k ≤ reachBytes) → Cat Φs (cs.drop o)
  | _, _, o, xs, .nil, hc, _, _, _ => by
    simp only [contig, beq_iff_eq] at hc
    simp only [Cat]
    rw [List.drop_of_length_le (by omega)]
  | f :: fs, _, o, xs, .cons (Φ := Φ) h1 h2, hc, hr, hl, hw => by
    match xs, hl with
    | x :: xs, hl =>
      simp only [contig, Bool.and_eq_true, beq_iff_eq] at hc
      obtain ⟨rfl, hc⟩ := hc
      simp only [List.map_cons, DataW.weightsEach, List.mem_append] at hw
      have h0 : RdW enc P W n f.type ((cs.drop f.offset).take (P.cellsOf f.type)) = some x := hr 0 f rfl
      refine ⟨_, cs.drop (f.offset + P.cellsOf f.type), ?_, h1 _ _ _ h0 (fun k hk => hw k (.inl hk)), cat_of h2 hc (fun i f' hf' => hr (i + 1) f' hf') (by simpa using hl) (fun k hk => hw k (.inr hk))⟩
      rw [← List.drop_drop, List.take_append_drop]

theorem opn_struct {t : TypeId} {fs : Array Field} {Φs : List (List Value → Prop)} (ht : P.underlying t = some (.struct fs)) (hc : contig P fs.toList 0 (P.cellsOf t) = true) (ho : Opns enc P W fs.toList Φs) : Opn enc P W t (Cat Φs) := fun fuel cs x h hw => by
  obtain ⟨xs, n, _, rfl, hl, hlen, hf⟩ := DataW.trod_struct ht h
  simp only [DataW.weights, ht] at hw
  have := cat_of (o := 0) (xs := xs) ho (by rw [hl]; exact hc) (fun i f hi => hf i f (by rw [← Array.getElem?_toList]; exact hi)) (by rw [hlen]; simp) hw
  simpa using this

theorem opn_arr2 {t e : TypeId} {Φ : List Value → Prop} (ht : P.underlying t = some (.array 2 e)) (hc : P.cellsOf t = 2) (he : P.cellsOf e = 1) (ho : Opn enc P W e Φ) : Opn enc P W t (Cat [Φ, Φ]) := fun fuel cs x h hw => by
  obtain ⟨xs, m, rfl, rfl, hl, hn, hel⟩ := DataW.trod_array ht h
  simp only [DataW.weights, ht] at hw
  match xs, hn with
  | [x0, x1], _ =>
    rw [hc] at hl
    match cs, hl with
    | [c0, c1], _ =>
      have e0 := hel 0 (by omega)
      have e1 := hel 1 (by omega)
      rw [he] at e0 e1
      simp at e0 e1
      simp only [List.map_cons, List.map_nil] at hw
      refine ⟨[c0], [c1], rfl, ho _ _ _ e0 (fun k hk => hw k (weights_all (.head _) k hk)), [c1], [], rfl, ho _ _ _ e1 (fun k hk => hw k (weights_all (.tail _ (.head _)) k hk)), rfl⟩

theorem opn_ely {τ : Type} {e : TypeId} {en : τ → List Value} (h : El enc P W e en) : Ely enc P W e en fun _ => True := fun n cs y hr _ => by
  obtain ⟨x, hx⟩ := h n cs y hr
  exact ⟨x, hx, trivial⟩
theorem Opn.mono {t : TypeId} {Φ Ψ : List Value → Prop} (h : Opn enc P W t Φ) (hi : ∀ cs, Φ cs → Ψ cs) : Opn enc P W t Ψ := fun n cs y hr hw => hi cs (h n cs y hr hw)

/-! a parameter -/
theorem sz_at {ts : List TypeId} {ds : List (DataW H)} (h : (DataW.weightsEach P ts ds).all (· ≤ reachBytes) = true) {j : Nat} {t : TypeId} {d : DataW H} (ht : ts[j]? = some t) (hd : ds[j]? = some d) : ∀ k, k ∈ d.weights P t → k ≤ reachBytes := fun k hk => by
  have := List.all_eq_true.1 h _ (DataW.weights_mem_each ht hd k hk)
  simpa using this

theorem arg_agg {r : Reach} {b0 : Nat} {t : TypeId} {v : Value} {d : DataW H} {p : List MemPlace} {Φ : List Value → Prop} (hs : ∃ cs, v = .agg cs) (h : DataW.Trod enc P W 0 (fun _ => true) true t v d p) (hsz : ∀ k, k ∈ d.weights P t → k ≤ reachBytes) (ho : Opn enc P W t Φ) :
    ∃ cs, v = .agg cs.toArray ∧ Φ cs := by
  obtain ⟨cs, rfl⟩ := hs
  obtain ⟨fuel, hf⟩ := h
  exact ⟨cs.toList, by simp, ho _ _ _ hf hsz⟩
theorem arg_struct {r : Reach} {b0 : Nat} {t : TypeId} {fs : Array Field} {v : Value} {d : DataW H} {p : List MemPlace} {Φ : List Value → Prop} (hs : P.underlying t = some (.struct fs)) (hv : Value.okWide P W r b0 t v) (h : DataW.Trod enc P W 0 (fun _ => true) true t v d p) (hsz : ∀ k, k ∈ d.weights P t → k ≤ reachBytes) (ho : Opn enc P W t Φ) :
    ∃ cs, v = .agg cs.toArray ∧ Φ cs := by
  obtain ⟨cs, hcs, _⟩ := okWide_struct hs hv
  exact arg_agg (r := r) (b0 := b0) ⟨cs, hcs⟩ h hsz ho
theorem arg_array {r : Reach} {b0 n : Nat} {t e : TypeId} {v : Value} {d : DataW H} {p : List MemPlace} {Φ : List Value → Prop} (hs : P.underlying t = some (.array n e)) (hv : Value.okWide P W r b0 t v) (h : DataW.Trod enc P W 0 (fun _ => true) true t v d p) (hsz : ∀ k, k ∈ d.weights P t → k ≤ reachBytes) (ho : Opn enc P W t Φ) :
    ∃ cs, v = .agg cs.toArray ∧ Φ cs := by
  simp only [Value.okWide, hs] at hv
  obtain ⟨cs, hcs, _⟩ := hv
  exact arg_agg (r := r) (b0 := b0) ⟨cs, hcs⟩ h hsz ho
theorem arg_one {t : TypeId} {v : Value} {d : DataW H} {p : List MemPlace} {Φ : List Value → Prop} (hv : v.cells = #[v]) (h : DataW.Trod enc P W 0 (fun _ => true) true t v d p) (hsz : ∀ k, k ∈ d.weights P t → k ≤ reachBytes) (ho : Opn enc P W t Φ) : Φ [v] := by
  obtain ⟨fuel, hf⟩ := h
  rw [hv] at hf
  exact ho _ _ _ hf hsz
theorem cells_int {r : Reach} {b0 : Nat} {t : TypeId} {k : IntKind} {v : Value} (ht : P.underlying t = some (.int k)) (hv : Value.okWide P W r b0 t v) : v.cells = #[v] := by
  obtain ⟨n, rfl⟩ := okWide_int ht hv; rfl
theorem cells_slice {r : Reach} {b0 : Nat} {t e : TypeId} {v : Value} (ht : P.underlying t = some (.slice e)) (hv : Value.okWide P W r b0 t v) : v.cells = #[v] := by
  obtain ⟨_, _, _, rfl⟩ := okWide_slice ht hv; rfl
theorem cells_string {r : Reach} {b0 : Nat} {t : TypeId} {v : Value} (ht : P.underlying t = some .string) (hv : Value.okWide P W r b0 t v) : v.cells = #[v] := by
  obtain ⟨_, rfl⟩ := okWide_string ht hv; rfl
end
end Go.Frm
end

section
/- What the laws of a plain seat share. -/
namespace Go.Proofs.Ytdpcdbepeemflaa
open Go
theorem own : ownKnob Try.prog.godebug = none := by kernel_rfl
theorem laidOut : laidOutB Try.prog = true := by kernel_rfl
end Go.Proofs.Ytdpcdbepeemflaa
end
