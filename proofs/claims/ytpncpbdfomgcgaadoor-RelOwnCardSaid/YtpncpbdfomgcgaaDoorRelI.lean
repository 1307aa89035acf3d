/- Contracts in one form, whatever comes in; the law RelMakes, walked. -/
import Derived.Test.YtpncpbdfomgcgaaDoorRelH
import Derived.Test.YtpncpbdfomgcgaaDoorRelU
namespace Go.Eng
open Go Go.RowKit
theorem Mem.nilOwn {τ : Type} {bs : List Base} {H : List Ent} {w : World} (e sz : Nat) (enc : τ → List Value) (hw : Mem bs H w) : Mem bs (.own (.slice none 0 0) e sz enc [] :: H) w := by
  refine hw.new rfl rfl rfl (Nat.le_refl _) (fun _ _ => rfl) ⟨by simp, .inl ⟨rfl, rfl⟩⟩ (fun k hk => ?_) (fun k hk => ?_) <;> simp [Ent.fp, Value.ownBlock] at hk

/-- an answer without entries, as one of an empty slice -/
theorem Mk.nilled {τ : Type} {P : Program} {k : FuncId} {args : List Value} {w : World} {Ψ Ψ' : Nat → Value → List Ent → World → Prop} (e sz : Nat) (enc : τ → List Value) (h : Mk P k args w Ψ)
    (hi : ∀ n v es w', Ψ n v es w' → Ψ' n v es w' ∨ (es = [] ∧ Ψ' n v [.own (.slice none 0 0) e sz enc []] w')) : Mk P k args w Ψ' :=
  Calls.mono h fun x w' h' => by
    unfold MkR at h' ⊢
    obtain ⟨v, es, h1, h2, h3⟩ := h'
    rcases hi _ v es w' h2 with h4 | ⟨rfl, h4⟩
    · exact ⟨v, es, h1, h4, h3⟩
    · exact ⟨v, _, h1, h4, h3.nilOwn e sz enc⟩
end Go.Eng
namespace Go.Rl
open Go Go.Eng
/-- of a relation: its number of things, its rows, the error -/
def ofN (n : Int) (l : List Pair) : Int := if (ofS n l).isSome = true then n else 0
def ofR (n : Int) (l : List Pair) : List W := (ofS n l).getD []
def pairsS (n : Int) (rows : List W) : List Pair := if relOk n rows = true then pairsL n.toNat rows else []
def plusS (n : Int) (rows : List W) : List W := if relOk n rows = true then closedL n.toNat rows else []
end Go.Rl
namespace Go.Proofs.YtpncpbdfomgcgaaDoor
open Go Go.Eng Go.Rl
attribute [local irreducible] wpList Code.wp bodyPost Exit.then Exit.inBlock Calls

def OfΨ (n : Int) (l : List Pair) : Nat → Value → List Ent → World → Prop := fun _ v es _ => ∃ sv, SV sv ∧ v = .tuple #[.agg #[.int .i64 (ofN n l), sv], .int .i64 (erOf (ofS n l).isSome)] ∧ es = [ownW sv (ofR n l)]
theorem sv_nil : SV (.slice none 0 0) := ⟨_, _, _, rfl⟩

theorem rof_all (n : Int) (lv : Value) (l : List Pair) (w : World) (h : Sl All w encPair 2 lv l) : Mk Tryd.prog 10 [.int .i64 n, lv] w (OfΨ n l) :=
  (rof_spec n lv l w h).nilled 38 1 encW fun _ v es _ hΨ => by
    unfold OfΨ ofN ofR
    cases hs : ofS n l with
    | none => rw [hs] at hΨ; obtain ⟨rfl, rfl⟩ := hΨ; exact .inr ⟨rfl, _, sv_nil, rfl, rfl⟩
    | some rows => rw [hs] at hΨ; obtain ⟨sv, hsv, rfl, rfl⟩ := hΨ; exact .inl ⟨sv, hsv, rfl, rfl⟩
theorem of_all (n : Int) (lv : Value) (l : List Pair) (w : World) (h : Sl All w encPair 2 lv l) : Mk Tryd.prog 9 [.int .i64 n, lv] w (OfΨ n l) :=
  (of_spec n lv l w h).nilled 38 1 encW fun _ v es _ hΨ => by
    unfold OfΨ ofN ofR
    cases hs : ofS n l with
    | none => rw [hs] at hΨ; obtain ⟨rfl, rfl⟩ := hΨ; exact .inr ⟨rfl, _, sv_nil, rfl, rfl⟩
    | some rows => rw [hs] at hΨ; obtain ⟨sv, hsv, rfl, rfl⟩ := hΨ; exact .inl ⟨sv, hsv, rfl, rfl⟩

def PairsΨ (n : Int) (rows : List W) : Nat → Value → List Ent → World → Prop := fun _ v es _ => ∃ pv, SV pv ∧ v = .tuple #[pv, .int .i64 (erOf (relOk n rows))] ∧ es = [ownP pv (pairsS n rows)]
theorem rpairs_all (n : Int) (sv : Value) (rows : List W) (w : World) (h : Sl All w encW 1 sv rows) : Mk Tryd.prog 12 [.agg #[.int .i64 n, sv]] w (PairsΨ n rows) :=
  (rpairs_spec n sv rows w h).nilled 24 2 encPair fun _ v es _ hΨ => by
    unfold PairsΨ pairsS erOf
    by_cases hok : relOk n rows = true
    · simp only [if_pos hok] at hΨ ⊢; exact .inl hΨ
    · simp only [if_neg hok] at hΨ ⊢; obtain ⟨rfl, rfl⟩ := hΨ; exact .inr ⟨rfl, _, sv_nil, rfl, rfl⟩
theorem pairs_all (n : Int) (sv : Value) (rows : List W) (w : World) (h : Sl All w encW 1 sv rows) (hT : Tab w) : Mk Tryd.prog 11 [.agg #[.int .i64 n, sv]] w (PairsΨ n rows) :=
  (pairs_spec n sv rows w h hT).nilled 24 2 encPair fun _ v es _ hΨ => by
    unfold PairsΨ pairsS erOf
    by_cases hok : relOk n rows = true
    · simp only [if_pos hok] at hΨ ⊢; exact .inl hΨ
    · simp only [if_neg hok] at hΨ ⊢; obtain ⟨rfl, rfl⟩ := hΨ; exact .inr ⟨rfl, _, sv_nil, rfl, rfl⟩

theorem Tab.now {w w' : World} {bs : List Base} {H : List Ent} (h : Tab w) (hw : Mem bs H w') (hB : (w, All) ∈ bs) : Tab w' := hw.now h hB

set_option maxHeartbeats 800000 in
theorem relMakes_spec (n : Int) (lv : Value) (l : List Pair) (p : Pair) (w : World) (h : Sl All w encPair 2 lv l) (hT : Tab w) (hb : l.length * 16 ≤ 140737488355328) :
    Pur Tryd.prog 3 [.int .i64 n, lv, .agg #[.int .i64 p.A, .int .i64 p.B]] w fun _ v _ => v = .bool true := by
  have hle := h.le
  refine enter_pur Tryd.func3 Tryd.ntmps3 rfl rfl ?_
  repeat (first | (show KP _ (wpList _ _ _ (⟨some _, _, _, _, _, none⟩ :: _)) _ _; refine wl_a (next := ?_)) | (show KP _ (wpList _ _ _ (⟨some _, _, _, _, _, some _⟩ :: _)) _ _; refine wl_ag (next := ?_)) | refine wl_nil ?_ | refine po_then ?_ | refine wc_seq ?_ | refine wc_region ?_ | refine wc_block ?_ | refine po_block ?_ | refine wc_ret ?_ | refine po_then_ret ?_ | refine po_block_ret ?_ | refine wc_exit ?_ | refine po_then_exit ?_ | refine po_block_exit ?_ | refine po_block_pass rfl ?_ | refine wc_skip ?_)
  refine wl_fx (fx_box (next := ?_)); intro bp
  repeat (first | (show KP _ (wpList _ _ _ (⟨some _, _, _, _, _, none⟩ :: _)) _ _; refine wl_a (next := ?_)) | (show KP _ (wpList _ _ _ (⟨some _, _, _, _, _, some _⟩ :: _)) _ _; refine wl_ag (next := ?_)) | refine wl_nil ?_ | refine po_then ?_ | refine wc_seq ?_ | refine wc_region ?_ | refine wc_block ?_ | refine po_block ?_ | refine wc_ret ?_ | refine po_then_ret ?_ | refine po_block_ret ?_ | refine wc_exit ?_ | refine po_then_exit ?_ | refine po_block_exit ?_ | refine po_block_pass rfl ?_ | refine wc_skip ?_)
  refine kp_nil 24 2 encPair ?_
  repeat (first | (show KP _ (wpList _ _ _ (⟨some _, _, _, _, _, none⟩ :: _)) _ _; refine wl_a (next := ?_)) | (show KP _ (wpList _ _ _ (⟨some _, _, _, _, _, some _⟩ :: _)) _ _; refine wl_ag (next := ?_)) | refine wl_nil ?_ | refine po_then ?_ | refine wc_seq ?_ | refine wc_region ?_ | refine wc_block ?_ | refine po_block ?_ | refine wc_ret ?_ | refine po_then_ret ?_ | refine po_block_ret ?_ | refine wc_exit ?_ | refine po_then_exit ?_ | refine po_block_exit ?_ | refine po_block_pass rfl ?_ | refine wc_skip ?_)
  refine wl_fx (fx_append_base (k := 0) (hk := rfl) (hlen := by simp; omega) (next := ?_)); intro v1 hv1
  rw [List.nil_append]
  repeat (first | (show KP _ (wpList _ _ _ (⟨some _, _, _, _, _, none⟩ :: _)) _ _; refine wl_a (next := ?_)) | (show KP _ (wpList _ _ _ (⟨some _, _, _, _, _, some _⟩ :: _)) _ _; refine wl_ag (next := ?_)) | refine wl_nil ?_ | refine po_then ?_ | refine wc_seq ?_ | refine wc_region ?_ | refine wc_block ?_ | refine po_block ?_ | refine wc_ret ?_ | refine po_then_ret ?_ | refine po_block_ret ?_ | refine wc_exit ?_ | refine po_then_exit ?_ | refine po_block_exit ?_ | refine po_block_pass rfl ?_ | refine wc_skip ?_)
  refine wl_fx (fx_call_mk (spec := fun w' hw => of_all n v1 l w' (hw.lend (.head _))) (next := ?_))
  rintro v n1 es w1 ⟨sr, hsr, rfl, rfl⟩
  repeat (first | (show KP _ (wpList _ _ _ (⟨some _, _, _, _, _, none⟩ :: _)) _ _; refine wl_a (next := ?_)) | (show KP _ (wpList _ _ _ (⟨some _, _, _, _, _, some _⟩ :: _)) _ _; refine wl_ag (next := ?_)) | refine wl_nil ?_ | refine po_then ?_ | refine wc_seq ?_ | refine wc_region ?_ | refine wc_block ?_ | refine po_block ?_ | refine wc_ret ?_ | refine po_then_ret ?_ | refine po_block_ret ?_ | refine wc_exit ?_ | refine po_then_exit ?_ | refine po_block_exit ?_ | refine po_block_pass rfl ?_ | refine wc_skip ?_)
  refine wl_fx (fx_alloc (next := ?_)); intro br
  repeat (first | (show KP _ (wpList _ _ _ (⟨some _, _, _, _, _, none⟩ :: _)) _ _; refine wl_a (next := ?_)) | (show KP _ (wpList _ _ _ (⟨some _, _, _, _, _, some _⟩ :: _)) _ _; refine wl_ag (next := ?_)) | refine wl_nil ?_ | refine po_then ?_ | refine wc_seq ?_ | refine wc_region ?_ | refine wc_block ?_ | refine po_block ?_ | refine wc_ret ?_ | refine po_then_ret ?_ | refine po_block_ret ?_ | refine wc_exit ?_ | refine po_then_exit ?_ | refine po_block_exit ?_ | refine po_block_pass rfl ?_ | refine wc_skip ?_)
  refine wl_fx (fx_store_box (i := 0) (hi := rfl) (next := ?_))
  repeat (first | (show KP _ (wpList _ _ _ (⟨some _, _, _, _, _, none⟩ :: _)) _ _; refine wl_a (next := ?_)) | (show KP _ (wpList _ _ _ (⟨some _, _, _, _, _, some _⟩ :: _)) _ _; refine wl_ag (next := ?_)) | refine wl_nil ?_ | refine po_then ?_ | refine wc_seq ?_ | refine wc_region ?_ | refine wc_block ?_ | refine po_block ?_ | refine wc_ret ?_ | refine po_then_ret ?_ | refine po_block_ret ?_ | refine wc_exit ?_ | refine po_then_exit ?_ | refine po_block_exit ?_ | refine po_block_pass rfl ?_ | refine wc_skip ?_)
  refine wl_fx (fx_call_mk (spec := fun w' hw => rof_all n lv l w' (hw.now h (.tail _ (.head _)))) (next := ?_))
  rintro v n2 es w2 ⟨sw, hsw, rfl, rfl⟩
  repeat (first | (show KP _ (wpList _ _ _ (⟨some _, _, _, _, _, none⟩ :: _)) _ _; refine wl_a (next := ?_)) | (show KP _ (wpList _ _ _ (⟨some _, _, _, _, _, some _⟩ :: _)) _ _; refine wl_ag (next := ?_)) | refine wl_nil ?_ | refine po_then ?_ | refine wc_seq ?_ | refine wc_region ?_ | refine wc_block ?_ | refine po_block ?_ | refine wc_ret ?_ | refine po_then_ret ?_ | refine po_block_ret ?_ | refine wc_exit ?_ | refine po_then_exit ?_ | refine po_block_exit ?_ | refine po_block_pass rfl ?_ | refine wc_skip ?_)
  refine wl_fx (fx_alloc (next := ?_)); intro bw
  repeat (first | (show KP _ (wpList _ _ _ (⟨some _, _, _, _, _, none⟩ :: _)) _ _; refine wl_a (next := ?_)) | (show KP _ (wpList _ _ _ (⟨some _, _, _, _, _, some _⟩ :: _)) _ _; refine wl_ag (next := ?_)) | refine wl_nil ?_ | refine po_then ?_ | refine wc_seq ?_ | refine wc_region ?_ | refine wc_block ?_ | refine po_block ?_ | refine wc_ret ?_ | refine po_then_ret ?_ | refine po_block_ret ?_ | refine wc_exit ?_ | refine po_then_exit ?_ | refine po_block_exit ?_ | refine po_block_pass rfl ?_ | refine wc_skip ?_)
  refine wl_fx (fx_store_box (i := 0) (hi := rfl) (next := ?_))
  repeat (first | (show KP _ (wpList _ _ _ (⟨some _, _, _, _, _, none⟩ :: _)) _ _; refine wl_a (next := ?_)) | (show KP _ (wpList _ _ _ (⟨some _, _, _, _, _, some _⟩ :: _)) _ _; refine wl_ag (next := ?_)) | refine wl_nil ?_ | refine po_then ?_ | refine wc_seq ?_ | refine wc_region ?_ | refine wc_block ?_ | refine po_block ?_ | refine wc_ret ?_ | refine po_then_ret ?_ | refine po_block_ret ?_ | refine wc_exit ?_ | refine po_then_exit ?_ | refine po_block_exit ?_ | refine po_block_pass rfl ?_ | refine wc_skip ?_)
  refine wl_fx (fx_call_mk (spec := fun w' hw => pairs_all (ofN n l) sr (ofR n l) w' (hw.lend (.tail _ (.tail _ (.tail _ (.head _))))) (hT.now hw (.tail _ (.tail _ (.head _))))) (next := ?_))
  rintro v n3 es w3 ⟨pp, hpp, rfl, rfl⟩
  repeat (first | (show KP _ (wpList _ _ _ (⟨some _, _, _, _, _, none⟩ :: _)) _ _; refine wl_a (next := ?_)) | (show KP _ (wpList _ _ _ (⟨some _, _, _, _, _, some _⟩ :: _)) _ _; refine wl_ag (next := ?_)) | refine wl_nil ?_ | refine po_then ?_ | refine wc_seq ?_ | refine wc_region ?_ | refine wc_block ?_ | refine po_block ?_ | refine wc_ret ?_ | refine po_then_ret ?_ | refine po_block_ret ?_ | refine wc_exit ?_ | refine po_then_exit ?_ | refine po_block_exit ?_ | refine po_block_pass rfl ?_ | refine wc_skip ?_)
  refine wl_fx (fx_call_mk (spec := fun w' hw => rpairs_all (ofN n l) sw (ofR n l) w' (hw.lend (.tail _ (.tail _ (.head _))))) (next := ?_))
  rintro v n4 es w4 ⟨pq, hpq, rfl, rfl⟩
  repeat (first | (show KP _ (wpList _ _ _ (⟨some _, _, _, _, _, none⟩ :: _)) _ _; refine wl_a (next := ?_)) | (show KP _ (wpList _ _ _ (⟨some _, _, _, _, _, some _⟩ :: _)) _ _; refine wl_ag (next := ?_)) | refine wl_nil ?_ | refine po_then ?_ | refine wc_seq ?_ | refine wc_region ?_ | refine wc_block ?_ | refine po_block ?_ | refine wc_ret ?_ | refine po_then_ret ?_ | refine po_block_ret ?_ | refine wc_exit ?_ | refine po_then_exit ?_ | refine po_block_exit ?_ | refine po_block_pass rfl ?_ | refine wc_skip ?_)
  refine wc_draw [0, 1, 2, 3, 4, 5, 6, 7, 8, 9, 10, 11, 12, 13, 14, 15, 16, 17, 18, 19, 20, 21, 22, 23, 25, 26, 27, 28, 29, 24, 30, 31, 32, 33, 34, 35, 36, 37, 38, 39, 40, 41] mixed ?_
  repeat (first | refine kg_a (next := ?_) | refine kg_ag (next := ?_) | refine kg_end (h := ?_))
  refine kg_gx (h := gx_call (spec := fun _ w' hw => same_spec _ _ sr sw (ofR n l) (ofR n l) w' (hw.lend (.tail _ (.tail _ (.tail _ (.tail _ (.tail _ (.head _))))))) (hw.lend (.tail _ (.tail _ (.tail _ (.head _))))))) (next := ?_)
  repeat (first | refine kg_a (next := ?_) | refine kg_ag (next := ?_) | refine kg_end (h := ?_))
  refine kg_gx (h := gx_call (spec := fun _ w' hw => samePairs_spec pp pq (pairsS (ofN n l) (ofR n l)) (pairsS (ofN n l) (ofR n l)) w' (hw.lend (.tail _ (.head _))) (hw.lend (.head _)))) (next := ?_)
  repeat (first | refine kg_a (next := ?_) | refine kg_ag (next := ?_) | refine kg_end (h := ?_))
  refine kg_gx (h := gx_call (spec := fun _ w' hw => has_spec _ sr (ofR n l) p.A p.B w' (hw.lend (.tail _ (.tail _ (.tail _ (.tail _ (.tail _ (.head _))))))))) (next := ?_)
  repeat (first | refine kg_a (next := ?_) | refine kg_ag (next := ?_) | refine kg_end (h := ?_))
  refine kg_gx (h := gx_call (spec := fun _ w' hw => rhas_spec _ sw (ofR n l) p.A p.B w' (hw.lend (.tail _ (.tail _ (.tail _ (.head _))))))) (next := ?_)
  repeat (first | refine kg_a (next := ?_) | refine kg_ag (next := ?_) | refine kg_end (h := ?_))
  refine kg_gx (h := gx_call (spec := fun _ w' hw => samePairs_spec v1 lv l l w' (hw.lend (.tail _ (.tail _ (.tail _ (.tail _ (.tail _ (.tail _ (.head _)))))))) (hw.now h (.tail _ (.tail _ (.tail _ (.tail _ (.head _)))))))) (next := ?_)
  repeat (first | refine kg_a (next := ?_) | refine kg_ag (next := ?_) | refine kg_end (h := ?_))
  refine kg_gx (h := gx_call (spec := fun _ w' hw => awake_spec w')) (next := ?_)
  repeat (first | refine kg_a (next := ?_) | refine kg_ag (next := ?_) | refine kg_end (h := ?_))
  repeat (first | (show KP _ (wpList _ _ _ (⟨some _, _, _, _, _, none⟩ :: _)) _ _; refine wl_a (next := ?_)) | (show KP _ (wpList _ _ _ (⟨some _, _, _, _, _, some _⟩ :: _)) _ _; refine wl_ag (next := ?_)) | refine wl_nil ?_ | refine po_then ?_ | refine wc_seq ?_ | refine wc_region ?_ | refine wc_block ?_ | refine po_block ?_ | refine wc_ret ?_ | refine po_then_ret ?_ | refine po_block_ret ?_ | refine wc_exit ?_ | refine po_then_exit ?_ | refine po_block_exit ?_ | refine po_block_pass rfl ?_ | refine wc_skip ?_)
  refine pur_ret Tryd.results3 (.tmp rfl .nil) (.tail _ (.tail _ (.tail _ (.tail _ (.head _))))) fun w' hw => ?_
  show Value.bool _ = Value.bool true
  simp [dc_eq]
end Go.Proofs.YtpncpbdfomgcgaaDoor
