/- The walks: Back, Pick (both), two (both). -/
import Derived.Test.YtpncpbdfomgcgaaRelK
import Derived.Test.YtpncpbdfomgcgaaRelU
namespace Go.Rl
open Go.Eng
theorem backRow_bit (rows : List W) (i : Nat) (hi : i < 64) (n j : Nat) (hn : n ≤ 64) : (Go.Proofs.Ytpncpbdfomgcgaa.backRow rows i n).getLsbD j = (decide (j < n) && bt rows j i) := by
  induction n with
  | zero => simp [Go.Proofs.Ytpncpbdfomgcgaa.backRow]
  | succ n ih =>
    rw [Go.Proofs.Ytpncpbdfomgcgaa.backRow_succ, BitVec.getLsbD_or, ih (by omega)]
    have h1 : ((rows.getD n default >>> i &&& 1#64) <<< n).getLsbD j = (decide (j = n) && bt rows n i) := by
      rw [BitVec.getLsbD_shiftLeft, BitVec.getLsbD_and, BitVec.getLsbD_ushiftRight, BitVec.getLsbD_one]
      by_cases hj : j = n
      · subst hj; simp [bt]; omega
      · by_cases hlt : j < n
        · simp [hlt, hj]
        · simp [hj]; omega
    rw [h1]
    by_cases hj : j = n
    · subst hj; simp
    · rw [show decide (j < n + 1) = decide (j < n) from decide_eq_decide.2 (by omega)]; simp [hj]
end Go.Rl
namespace Go.Proofs.Ytpncpbdfomgcgaa
open Go Go.Eng Go.Rl
attribute [local irreducible] wpList Code.wp bodyPost Exit.then Exit.inBlock Calls

/-- a relation of the call's own, and an error -/
def RelΨ (n : Int) (rows : List W) (e : Int) : Nat → Value → List Ent → World → Prop := fun _ v es _ => ∃ sv, SV sv ∧ v = .tuple #[.agg #[.int .i64 n, sv], .int .i64 e] ∧ es = [ownW sv rows]

end Go.Proofs.Ytpncpbdfomgcgaa
