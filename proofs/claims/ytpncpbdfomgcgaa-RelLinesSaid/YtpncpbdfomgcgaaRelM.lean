/- The walks: mixed, Union, Both, Less, Then, Within (both). -/
import Derived.Test.YtpncpbdfomgcgaaRelL
namespace Go.Rl
open Go.Eng
def thenRow (x : W) (rb : List W) : W := (bitsOf x).foldl (fun r j => r ||| rb.getD j default) 0#64
theorem foldl_or_bit (rb : List W) (js : List Nat) (r : W) (k : Nat) : (js.foldl (fun r j => r ||| rb.getD j default) r).getLsbD k = (r.getLsbD k || js.any fun j => bt rb j k) := by
  induction js generalizing r with
  | nil => simp
  | cons j js ih => rw [List.foldl_cons, ih, BitVec.getLsbD_or, List.any_cons, Bool.or_assoc]; rfl
theorem thenRow_bit (x : W) (rb : List W) (m k : Nat) (h : ∀ j, x.getLsbD j = true → j < m) : (thenRow x rb).getLsbD k = (List.range m).any fun j => x.getLsbD j && bt rb j k := by
  unfold thenRow
  rw [foldl_or_bit, BitVec.getLsbD_zero, Bool.false_or, Bool.eq_iff_iff, List.any_eq_true, List.any_eq_true]
  constructor
  · rintro ⟨j, hj, hb⟩
    rw [mem_bits] at hj
    exact ⟨j, List.mem_range.2 (h j hj), by rw [hj, hb]; rfl⟩
  · rintro ⟨j, _, hb⟩
    rw [Bool.and_eq_true] at hb
    exact ⟨j, (mem_bits x j).2 hb.1, hb.2⟩
def howB (how : Int) (x y : Bool) : Bool := (decide (how = 1) && (x || y)) || (decide (how = 2) && x && y) || (decide (how = 3) && x && !y)
end Go.Rl
namespace Go.Proofs.Ytpncpbdfomgcgaa
open Go Go.Eng Go.Rl
attribute [local irreducible] wpList Code.wp bodyPost Exit.then Exit.inBlock Calls

theorem getLsb_not_high (ra : List W) (m i j : Nat) (h : relOk m ra = true) : (ra.getD i default).getLsbD j = (decide (j < m) && (ra.getD i default).getLsbD j) := by
  by_cases hj : j < m
  · simp [hj]
  · have := relOk_bt h i j (by omega); unfold bt at this; rw [this]; simp

end Go.Proofs.Ytpncpbdfomgcgaa
