/- Contracts in one form, whatever comes in; the law RelMakes, walked. -/
import Derived.Test.YtpncpbdfomgcgaaRelH
import Derived.Test.YtpncpbdfomgcgaaRelU
namespace Go.Eng
open Go Go.RowKit
theorem Mem.nilOwn {τ : Type} {bs : List Base} {H : List Ent} {w : World} (e sz : Nat) (enc : τ → List Value) (hw : Mem bs H w) : Mem bs (.own (.slice none 0 0) e sz enc [] :: H) w := by
  refine hw.new rfl rfl rfl (Nat.le_refl _) (fun _ _ => rfl) ⟨by simp, .inl ⟨rfl, rfl⟩⟩ (fun k hk => ?_) (fun k hk => ?_) <;> simp [Ent.fp, Value.ownBlock] at hk

/-- an answer without entries, as one of an empty slice -/
theorem Mk.nilled {τ : Type} {P : Program} {k : FuncId} {args : List Value} {w : World} {Ψ Ψ' : Nat → Value → List Ent → World → Prop} (e sz : Nat) (enc : τ → List Value) (h : Mk P k args w Ψ)
    (hi : ∀ n v es w', Ψ n v es w' → Ψ' n v es w' ∨ (es = [] ∧ Ψ' n v [.own (.slice none 0 0) e sz enc []] w')) : Mk P k args w Ψ' :=
  Calls.mono h fun x w' h' => by
    unfold MkR at h' ⊢
    obtain ⟨v, es, h1, h2, h3⟩ := h'
    rcases hi _ v es w' h2 with h4 | ⟨rfl, h4⟩
    · exact ⟨v, es, h1, h4, h3⟩
    · exact ⟨v, _, h1, h4, h3.nilOwn e sz enc⟩
end Go.Eng
namespace Go.Rl
open Go Go.Eng
/-- of a relation: its number of things, its rows, the error -/
def ofN (n : Int) (l : List Pair) : Int := if (ofS n l).isSome = true then n else 0
def ofR (n : Int) (l : List Pair) : List W := (ofS n l).getD []
def pairsS (n : Int) (rows : List W) : List Pair := if relOk n rows = true then pairsL n.toNat rows else []
def plusS (n : Int) (rows : List W) : List W := if relOk n rows = true then closedL n.toNat rows else []
end Go.Rl
namespace Go.Proofs.Ytpncpbdfomgcgaa
open Go Go.Eng Go.Rl
attribute [local irreducible] wpList Code.wp bodyPost Exit.then Exit.inBlock Calls

def OfΨ (n : Int) (l : List Pair) : Nat → Value → List Ent → World → Prop := fun _ v es _ => ∃ sv, SV sv ∧ v = .tuple #[.agg #[.int .i64 (ofN n l), sv], .int .i64 (erOf (ofS n l).isSome)] ∧ es = [ownW sv (ofR n l)]
theorem sv_nil : SV (.slice none 0 0) := ⟨_, _, _, rfl⟩

theorem of_all (n : Int) (lv : Value) (l : List Pair) (w : World) (h : Sl All w encPair 2 lv l) : Mk Try.prog 28 [.int .i64 n, lv] w (OfΨ n l) :=
  (of_spec n lv l w h).nilled 42 1 encW fun _ v es _ hΨ => by
    unfold OfΨ ofN ofR
    cases hs : ofS n l with
    | none => rw [hs] at hΨ; obtain ⟨rfl, rfl⟩ := hΨ; exact .inr ⟨rfl, _, sv_nil, rfl, rfl⟩
    | some rows => rw [hs] at hΨ; obtain ⟨sv, hsv, rfl, rfl⟩ := hΨ; exact .inl ⟨sv, hsv, rfl, rfl⟩

def PairsΨ (n : Int) (rows : List W) : Nat → Value → List Ent → World → Prop := fun _ v es _ => ∃ pv, SV pv ∧ v = .tuple #[pv, .int .i64 (erOf (relOk n rows))] ∧ es = [ownP pv (pairsS n rows)]
end Go.Proofs.Ytpncpbdfomgcgaa
