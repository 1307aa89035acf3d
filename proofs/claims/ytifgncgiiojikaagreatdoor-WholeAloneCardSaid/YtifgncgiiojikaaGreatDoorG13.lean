import Derived.Test.YtifgncgiiojikaaGreatDoorG12
import Derived.Test.YtifgncgiiojikaaGreatDoorG10
set_option linter.unusedSimpArgs false
set_option linter.unusedVariables false
section
/- The walks: Back (both), Pick (both). -/
namespace Go.Proofs.YtifgncgiiojikaaGreatDoor
open Go Go.Eng Go.Rl
attribute [local irreducible] wpList Code.wp bodyPost Exit.then Exit.inBlock Calls

def backL (m : Nat) (rows : List W) : List W := relOf m fun a b => bt rows b a

def backRow (rows : List W) (i : Nat) (n : Nat) : W := (List.range n).foldl (fun r j => r ||| (rows.getD j default >>> i &&& 1#64) <<< j) 0#64
theorem backRow_succ (rows : List W) (i n : Nat) : backRow rows i (n + 1) = backRow rows i n ||| (rows.getD n default >>> i &&& 1#64) <<< n := by
  unfold backRow; rw [List.range_succ, List.foldl_append]; rfl

end Go.Proofs.YtifgncgiiojikaaGreatDoor
end

section
/- The walks: Back, Pick (both), two (both). -/
namespace Go.Rl
open Go.Eng
theorem backRow_bit (rows : List W) (i : Nat) (hi : i < 64) (n j : Nat) (hn : n ≤ 64) : (Go.Proofs.YtifgncgiiojikaaGreatDoor.backRow rows i n).getLsbD j = (decide (j < n) && bt rows j i) := by
  induction n with
  | zero => simp [Go.Proofs.YtifgncgiiojikaaGreatDoor.backRow]
  | succ n ih =>
    rw [Go.Proofs.YtifgncgiiojikaaGreatDoor.backRow_succ, BitVec.getLsbD_or, ih (by omega)]
    have h1 : ((rows.getD n default >>> i &&& 1#64) <<< n).getLsbD j = (decide (j = n) && bt rows n i) := by
      rw [BitVec.getLsbD_shiftLeft, BitVec.getLsbD_and, BitVec.getLsbD_ushiftRight, BitVec.getLsbD_one]
      by_cases hj : j = n
      · subst hj; simp [bt]; omega
      · by_cases hlt : j < n
        · simp [hlt, hj]
        · simp [hj]; omega
    rw [h1]
    by_cases hj : j = n
    · subst hj; simp
    · rw [show decide (j < n + 1) = decide (j < n) from decide_eq_decide.2 (by omega)]; simp [hj]
end Go.Rl
namespace Go.Proofs.YtifgncgiiojikaaGreatDoor
open Go Go.Eng Go.Rl
attribute [local irreducible] wpList Code.wp bodyPost Exit.then Exit.inBlock Calls

/-- a relation of the call's own, and an error -/
def RelΨ (n : Int) (rows : List W) (e : Int) : Nat → Value → List Ent → World → Prop := fun _ v es _ => ∃ sv, SV sv ∧ v = .tuple #[.agg #[.int .i64 n, sv], .int .i64 e] ∧ es = [ownW sv rows]

set_option maxHeartbeats 800000 in
theorem pick1_spec (i m : Nat) (bf ba bt' : Nat) (f t : W) (sv : Value) (rows : List W) (w : World) (hi : i < rows.length) (h64 : i < 64)
    (hf : Bx All w bf [u64 f]) (ha : Bx All w ba [.int .i64 m, sv]) (ht : Bx All w bt' [u64 t]) (h : Sl All w encW 1 sv rows) :
    Pur Tryz.prog 110 [.int .i64 i, .pointer (some ⟨bf, 0, none⟩), .pointer (some ⟨ba, 0, none⟩), .pointer (some ⟨bt', 0, none⟩)] w fun _ v _ => v = u64 (if f.getLsbD i = true then rows.getD i default &&& t else 0#64) := by
  refine enter_pur Tryz.func110 Tryz.ntmps110 rfl rfl ?_
  refine gO_ ?_
  refine wc_cond rfl (fun h1 => ?_) (fun h1 => ?_)
  · rw [dc_eq, nobit_eq _ i h64] at h1
    refine gO_ ?_
    refine pur_ret Tryz.results110 (.tmp rfl .nil) (.head _) fun w' hw => ?_
    rw [if_neg (by simpa using h1)]; rfl
  · rw [dc_eq, nobit_eq _ i h64] at h1
    refine gO_ ?_
    refine wc_draw [0, 1, 2, 3, 4, 5, 6, 7] mixed ?_
    refine kG_ ?_
    refine gO_ ?_
    refine pur_ret Tryz.results110 (.tmp rfl .nil) (.head _) fun w' hw => ?_
    rw [if_pos (by simpa using h1)]; rfl

set_option maxHeartbeats 800000 in
theorem pick_all (n : Int) (sv : Value) (f t : W) (rows : List W) (w : World) (h : Sl All w encW 1 sv rows) :
    Mk Tryz.prog 97 [.agg #[.int .i64 n, sv], u64 f, u64 t] w (RelΨ (nOf (relOk n rows) n) (pickS n rows f t) (erOf (relOk n rows))) := by
  unfold nOf erOf pickS
  refine enter_mk Tryz.func97 Tryz.ntmps97 rfl rfl ?_
  refine gO_ ?_
  refine wl_fx (fx_box (next := ?_)); intro ba
  refine gO_ ?_
  refine wl_fx (fx_box (next := ?_)); intro bf
  refine gO_ ?_
  refine wl_fx (fx_box (next := ?_)); intro bt'
  refine gO_ ?_
  refine wl_fx (fx_alloc (next := ?_)); intro br
  refine gO_ ?_
  refine wl_fx (fx_call (spec := fun w' hw => check_spec n sv rows w' (hw.now h (.head _))) (next := ?_))
  rintro v n1 w1 rfl hn1
  by_cases hok : relOk n rows = true
  · simp only [if_pos hok]
    obtain ⟨m, rfl, hm64, hlen⟩ := relOk_nat hok
    refine gO_ ?_
    refine wc_cond rfl (fun h1 => by simp [dc_eq] at h1) (fun _ => ?_)
    refine gO_ ?_
    refine wl_fx (fx_call_mk (spec := fun w' hw => made_spec m 110 [.pointer (some ⟨bf, 0, none⟩), .pointer (some ⟨ba, 0, none⟩), .pointer (some ⟨bt', 0, none⟩)] (fun i => if f.getLsbD i = true then rows.getD i default &&& t else 0#64) w' hm64 (fun i w2 hi hw2 =>
      pick1_spec i m bf ba bt' f t sv rows w2 (by omega) (by omega) ((hw.bx (.tail _ (.tail _ (.head _))) trivial).mono (hw2.base _ (.head _)) (fun _ => trivial)) ((hw.bx (.tail _ (.tail _ (.tail _ (.head _)))) trivial).mono (hw2.base _ (.head _)) (fun _ => trivial))
        ((hw.bx (.tail _ (.head _)) trivial).mono (hw2.base _ (.head _)) (fun _ => trivial)) (hw2.now (hw.now h (.tail _ (.head _))) (.head _)))) (next := ?_))
    rintro v n es w1 ⟨s1, hs1, rfl, rfl⟩
    refine gO_ ?_
    refine wl_fx (fx_store_box (i := 1) (hi := rfl) (next := ?_))
    refine gO_ ?_
    refine mk_ret Tryz.results97 (.cellN inferInstance rfl (.tail _ (.head _)) rfl (.tmp rfl .nil)) (.tail _ (.tail _ (.head _))) [ownW s1 _] [0] rfl (by decide) fun w' hw => ?_
    refine ⟨s1, hs1, rfl, ?_⟩
    rw [map_relOf m _ (fun a b => bt rows a b && f.getLsbD a && t.getLsbD b) hm64 (fun i j hi _ => ?_)]; rfl
    have hb := relOk_bt hok i j
    unfold bt at hb ⊢
    by_cases hf : f.getLsbD i = true
    · rw [if_pos hf, BitVec.getLsbD_and, hf, Bool.and_true]
      by_cases hj : j < m
      · simp [hj]
      · rw [hb (by omega)]; simp
    · rw [if_neg hf]
      simp [hf]
  · simp only [if_neg hok]
    refine gO_ ?_
    refine wc_cond rfl (fun _ => ?_) (fun h1 => by simp [dc_eq] at h1)
    refine gO_ ?_
    refine wl_fx (fx_store_box (i := 0) (hi := rfl) (next := ?_))
    refine gO_ ?_
    refine kp_nil 113 1 encW ?_
    refine mk_ret Tryz.results97 (.cellN inferInstance rfl (.tail _ (.head _)) rfl (.tmp rfl .nil)) (.tail _ (.head _)) [_] [0] rfl (by decide) fun w' hw => ?_
    exact ⟨_, sv_nil, rfl, rfl⟩

set_option maxHeartbeats 800000 in
theorem two_spec (a : Int) (sa : Value) (ra : List W) (b : Int) (sb : Value) (rb : List W) (w : World) (ha : Sl All w encW 1 sa ra) (hb : Sl All w encW 1 sb rb) :
    Pur Tryz.prog 83 [.agg #[.int .i64 a, sa], .agg #[.int .i64 b, sb]] w fun _ v _ => v = .int .i64 (erTwo a ra b rb) := by
  unfold erTwo
  refine enter_pur Tryz.func83 Tryz.ntmps83 rfl rfl ?_
  refine gO_ ?_
  refine wl_fx (fx_box (next := ?_)); intro ba
  refine gO_ ?_
  refine wl_fx (fx_box (next := ?_)); intro bb
  refine gO_ ?_
  refine wl_fx (fx_call (spec := fun w' hw => check_spec a sa ra w' (hw.now ha (.head _))) (next := ?_))
  rintro v n1 w1 rfl hn1
  refine gO_ ?_
  refine wl_gx (h := gx_call (spec := fun _ w' hw => check_spec b sb rb w' (hw.now hb (.tail _ (.head _))))) (next := ?_)
  refine gO_ ?_
  have e1 : ∀ x : Bool, dc ((if x = true then (0 : Int) else 10) = 0) = x := fun x => by cases x <;> simp [dc_eq]
  refine wc_cond rfl (fun h1 => ?_) (fun h1 => ?_)
  · rw [e1, e1] at h1
    refine gO_ ?_
    refine pur_ret Tryz.results83 (.tmp rfl .nil) (.tail _ (.head _)) fun w' hw => ?_
    rw [if_neg (by simp only [Bool.or_eq_true, Bool.not_eq_true'] at h1; rcases h1 with h1 | h1 <;> simp [h1])]; rfl
  · rw [e1, e1] at h1
    have h1' : (relOk a ra && relOk b rb) = true := by simp only [Bool.or_eq_false_iff, Bool.not_eq_false'] at h1; simp [h1]
    refine gO_ ?_
    refine wc_cond rfl (fun h2 => ?_) (fun h2 => ?_)
    · refine gO_ ?_
      refine pur_ret Tryz.results83 (.tmp rfl .nil) (.tail _ (.head _)) fun w' hw => ?_
      rw [if_pos h1', if_neg (by simpa [dc_eq] using h2)]; rfl
    · refine gO_ ?_
      refine pur_ret Tryz.results83 (.tmp rfl .nil) (.tail _ (.head _)) fun w' hw => ?_
      rw [if_pos h1', if_pos (by simpa [dc_eq] using h2)]; rfl

end Go.Proofs.YtifgncgiiojikaaGreatDoor
end

section
/- The walks: mixed, Union, Both, Less, Then, Within (both). -/
namespace Go.Rl
open Go.Eng
def thenRow (x : W) (rb : List W) : W := (bitsOf x).foldl (fun r j => r ||| rb.getD j default) 0#64
theorem foldl_or_bit (rb : List W) (js : List Nat) (r : W) (k : Nat) : (js.foldl (fun r j => r ||| rb.getD j default) r).getLsbD k = (r.getLsbD k || js.any fun j => bt rb j k) := by
  induction js generalizing r with
  | nil => simp
  | cons j js ih => rw [List.foldl_cons, ih, BitVec.getLsbD_or, List.any_cons, Bool.or_assoc]; rfl
theorem thenRow_bit (x : W) (rb : List W) (m k : Nat) (h : ∀ j, x.getLsbD j = true → j < m) : (thenRow x rb).getLsbD k = (List.range m).any fun j => x.getLsbD j && bt rb j k := by
  unfold thenRow
  rw [foldl_or_bit, BitVec.getLsbD_zero, Bool.false_or, Bool.eq_iff_iff, List.any_eq_true, List.any_eq_true]
  constructor
  · rintro ⟨j, hj, hb⟩
    rw [mem_bits] at hj
    exact ⟨j, List.mem_range.2 (h j hj), by rw [hj, hb]; rfl⟩
  · rintro ⟨j, _, hb⟩
    rw [Bool.and_eq_true] at hb
    exact ⟨j, (mem_bits x j).2 hb.1, hb.2⟩
def howB (how : Int) (x y : Bool) : Bool := (decide (how = 1) && (x || y)) || (decide (how = 2) && x && y) || (decide (how = 3) && x && !y)
end Go.Rl
namespace Go.Proofs.YtifgncgiiojikaaGreatDoor
open Go Go.Eng Go.Rl
attribute [local irreducible] wpList Code.wp bodyPost Exit.then Exit.inBlock Calls

set_option maxHeartbeats 800000 in
theorem mixed1_spec (i : Nat) (a b : Int) (sa sb : Value) (ra rb : List W) (kf : Nat) [FN Tryz.prog kf] (cap : List Value) (z : W) (bf ba bb : Nat) (w : World) (hia : i < ra.length) (hib : i < rb.length) 
    (hf : Bx All w bf [.func (.func kf) #[] cap.toArray]) (hba : Bx All w ba [.int .i64 a, sa]) (hbb : Bx All w bb [.int .i64 b, sb]) (ha : Sl All w encW 1 sa ra) (hb : Sl All w encW 1 sb rb)
    (hk : ∀ w', Mem [(w, All)] [] w' → Pur Tryz.prog kf (u64 (ra.getD i default) :: u64 (rb.getD i default) :: cap) w' fun _ v _ => v = u64 z) :
    Pur Tryz.prog 85 [.int .i64 i, .pointer (some ⟨bf, 0, none⟩), .pointer (some ⟨ba, 0, none⟩), .pointer (some ⟨bb, 0, none⟩)] w fun _ v _ => v = u64 z := by
  refine enter_pur Tryz.func85 Tryz.ntmps85 rfl rfl ?_
  refine gO_ ?_
  refine wc_draw [0, 1, 2, 3, 4, 5, 6, 7, 8, 9, 10, 11, 12] mixed ?_
  refine kG_ ?_
  refine kg_f _ (h := fx_call (spec := fun w' hw' => hk w' hw') (next := ?_)) (hSS := fun _ h => h)
  rintro v n2 w2 rfl hn2
  refine kp_S ?_ (fun _ h => h.tailB)
  refine kG_ ?_
  refine gO_ ?_
  exact pur_ret Tryz.results85 (.tmp rfl .nil) (.tail _ (.head _)) fun w' hw => rfl

set_option maxHeartbeats 800000 in
theorem mixed_spec (a : Int) (sa : Value) (ra : List W) (b : Int) (sb : Value) (rb : List W) (kf : Nat) [FN Tryz.prog kf] (cap : List Value) (f : Nat → W) (p : Nat → Nat → Bool) (w : World) (ha : Sl All w encW 1 sa ra) (hb : Sl All w encW 1 sb rb)
    (hp : erTwo a ra b rb = 0 → ∀ i j, i < a.toNat → j < 64 → (f i).getLsbD j = (decide (j < a.toNat) && p i j))
    (hk : erTwo a ra b rb = 0 → ∀ i w', i < a.toNat → Mem [(w, All)] [] w' → Pur Tryz.prog kf (u64 (ra.getD i default) :: u64 (rb.getD i default) :: cap) w' fun _ v _ => v = u64 (f i)) :
    Mk Tryz.prog 65 [.agg #[.int .i64 a, sa], .agg #[.int .i64 b, sb], .func (.func kf) #[] cap.toArray] w (RelΨ (n2 (erTwo a ra b rb) a) (if erTwo a ra b rb = 0 then relOf a.toNat p else []) (erTwo a ra b rb)) := by
  refine enter_mk Tryz.func65 Tryz.ntmps65 rfl rfl ?_
  refine gO_ ?_
  refine wl_fx (fx_box (next := ?_)); intro ba
  refine gO_ ?_
  refine wl_fx (fx_box (next := ?_)); intro bb
  refine gO_ ?_
  refine wl_fx (fx_box (next := ?_)); intro bf
  refine gO_ ?_
  refine wl_fx (fx_alloc (next := ?_)); intro br
  refine gO_ ?_
  refine wl_fx (fx_call (spec := fun w' hw => two_spec a sa ra b sb rb w' (hw.now ha (.head _)) (hw.now hb (.head _))) (next := ?_))
  rintro v n1 w1 rfl hn1
  refine gO_ ?_
  refine wc_cond rfl (fun h1 => ?_) (fun h1 => ?_)
  · have h1' : ¬ erTwo a ra b rb = 0 := by simpa [dc_eq] using h1
    rw [if_neg h1', n2, if_neg h1']
    refine gO_ ?_
    refine wl_fx (fx_store_box (i := 0) (hi := rfl) (next := ?_))
    refine gO_ ?_
    refine kp_nil 113 1 encW ?_
    refine mk_ret Tryz.results65 (.cellN inferInstance rfl (.tail _ (.head _)) rfl (.tmp rfl .nil)) (.tail _ (.head _)) [_] [0] rfl (by decide) fun w' hw => ?_
    exact ⟨_, sv_nil, rfl, rfl⟩
  · have h1' : erTwo a ra b rb = 0 := by simpa [dc_eq] using h1
    rw [if_pos h1', n2, if_pos h1', h1']
    have hp2 := hp h1'
    have hk2 := hk h1'
    clear hp hk
    obtain ⟨hoa, hob, rfl⟩ := erTwo_zero h1'
    obtain ⟨m, rfl, hm64, hlen⟩ := relOk_nat hoa
    obtain ⟨m', hm', _, hlen'⟩ := relOk_nat hob
    obtain rfl : m = m' := by omega
    rw [Int.toNat_natCast] at hp2 hk2 ⊢
    refine gO_ ?_
    refine wl_fx (fx_call_mk (spec := fun w' hw => made_spec m 85 [.pointer (some ⟨bf, 0, none⟩), .pointer (some ⟨ba, 0, none⟩), .pointer (some ⟨bb, 0, none⟩)] f w' hm64 (fun i w2 hi hw2 =>
      mixed1_spec i m m sa sb ra rb kf cap (f i) bf ba bb w2 (by omega) (by omega) ((hw.bx (.tail _ (.head _)) trivial).mono (hw2.base _ (.head _)) (fun _ => trivial)) ((hw.bx (.tail _ (.tail _ (.tail _ (.head _)))) trivial).mono (hw2.base _ (.head _)) (fun _ => trivial))
        ((hw.bx (.tail _ (.tail _ (.head _))) trivial).mono (hw2.base _ (.head _)) (fun _ => trivial)) (hw2.now (hw.now ha (.tail _ (.head _))) (.head _)) (hw2.now (hw.now hb (.tail _ (.head _))) (.head _))
        (fun w3 hw3 => hk2 i w3 hi (mem_trans (hw.last rfl) hw2 hw3)))) (next := ?_))
    rintro v n es w1 ⟨s1, hs1, rfl, rfl⟩
    refine gO_ ?_
    refine wl_fx (fx_store_box (i := 1) (hi := rfl) (next := ?_))
    refine gO_ ?_
    refine mk_ret Tryz.results65 (.cellN inferInstance rfl (.tail _ (.head _)) rfl (.tmp rfl .nil)) (.tail _ (.tail _ (.head _))) [ownW s1 _] [0] rfl (by decide) fun w' hw => ?_
    refine ⟨s1, hs1, rfl, ?_⟩
    rw [map_relOf m f p hm64 hp2]

theorem union1_spec (x y : W) (w : World) : Pur Tryz.prog 66 [u64 x, u64 y] w fun _ v _ => v = u64 (x ||| y) := by
  refine enter_pur Tryz.func66 Tryz.ntmps66 rfl rfl ?_
  refine gO_ ?_
  exact pur_ret Tryz.results66 (.tmp rfl .nil) (.head _) fun w' hw => rfl
theorem less1_spec (x y : W) (w : World) : Pur Tryz.prog 111 [u64 x, u64 y] w fun _ v _ => v = u64 (x &&& ~~~ y) := by
  refine enter_pur Tryz.func111 Tryz.ntmps111 rfl rfl ?_
  refine gO_ ?_
  exact pur_ret Tryz.results111 (.tmp rfl .nil) (.head _) fun w' hw => rfl

theorem getLsb_not_high (ra : List W) (m i j : Nat) (h : relOk m ra = true) : (ra.getD i default).getLsbD j = (decide (j < m) && (ra.getD i default).getLsbD j) := by
  by_cases hj : j < m
  · simp [hj]
  · have := relOk_bt h i j (by omega); unfold bt at this; rw [this]; simp

set_option maxHeartbeats 800000 in
theorem union_all (a : Int) (sa : Value) (ra : List W) (b : Int) (sb : Value) (rb : List W) (w : World) (ha : Sl All w encW 1 sa ra) (hb : Sl All w encW 1 sb rb) :
    Mk Tryz.prog 42 [.agg #[.int .i64 a, sa], .agg #[.int .i64 b, sb]] w (RelΨ (n2 (erTwo a ra b rb) a) (mixS (· || ·) a ra b rb) (erTwo a ra b rb)) := by
  refine enter_mk Tryz.func42 Tryz.ntmps42 rfl rfl ?_
  refine gO_ ?_
  refine wl_fx (fx_box (next := ?_)); intro ba
  refine gO_ ?_
  refine wl_fx (fx_box (next := ?_)); intro bb
  refine gO_ ?_
  refine wl_fx (fx_alloc (next := ?_)); intro br
  refine gO_ ?_
  refine wl_fx (fx_call_mk (cap := []) (spec := fun w' hw => mixed_spec a sa ra b sb rb 66 [] (fun i => ra.getD i default ||| rb.getD i default) (fun i j => (· || ·) (bt ra i j) (bt rb i j)) w' (hw.now ha (.head _)) (hw.now hb (.head _)) (fun he i j hi hj => ?_) (fun _ i w2 _ _ => union1_spec _ _ w2)) (next := ?_))
  · obtain ⟨h1, h2, rfl⟩ := erTwo_zero he
    obtain ⟨m, rfl, hm64, hlen⟩ := relOk_nat h1
    rw [Int.toNat_natCast]
    simp only [bt]
    by_cases hj2 : j < m
    · simp [hj2, hj]
    · have e1 := getLsb_not_high ra m i j h1
      have e2 := getLsb_not_high rb m i j h2
      simp only [hj2, decide_false, Bool.false_and] at e1 e2
      simp only [BitVec.getLsbD_or, BitVec.getLsbD_and, BitVec.getLsbD_not, e1, e2, hj2]; simp
  rintro v n1 es w1 ⟨s1, hs1, rfl, rfl⟩
  refine gO_ ?_
  refine wl_fx (fx_store_box (i := 1) (hi := rfl) (next := ?_))
  refine gO_ ?_
  exact mk_ret Tryz.results42 (.cellN inferInstance rfl (.tail _ (.head _)) rfl (.tmp rfl .nil)) (.tail _ (.head _)) [ownW s1 _] [0] rfl (by decide) fun w' hw => ⟨s1, hs1, rfl, rfl⟩

set_option maxHeartbeats 800000 in
theorem less_all (a : Int) (sa : Value) (ra : List W) (b : Int) (sb : Value) (rb : List W) (w : World) (ha : Sl All w encW 1 sa ra) (hb : Sl All w encW 1 sb rb) :
    Mk Tryz.prog 98 [.agg #[.int .i64 a, sa], .agg #[.int .i64 b, sb]] w (RelΨ (n2 (erTwo a ra b rb) a) (mixS (fun x y => x && !y) a ra b rb) (erTwo a ra b rb)) := by
  refine enter_mk Tryz.func98 Tryz.ntmps98 rfl rfl ?_
  refine gO_ ?_
  refine wl_fx (fx_box (next := ?_)); intro ba
  refine gO_ ?_
  refine wl_fx (fx_box (next := ?_)); intro bb
  refine gO_ ?_
  refine wl_fx (fx_alloc (next := ?_)); intro br
  refine gO_ ?_
  refine wl_fx (fx_call_mk (cap := []) (spec := fun w' hw => mixed_spec a sa ra b sb rb 111 [] (fun i => ra.getD i default &&& ~~~ rb.getD i default) (fun i j => (fun x y => x && !y) (bt ra i j) (bt rb i j)) w' (hw.now ha (.head _)) (hw.now hb (.head _)) (fun he i j hi hj => ?_) (fun _ i w2 _ _ => less1_spec _ _ w2)) (next := ?_))
  · obtain ⟨h1, h2, rfl⟩ := erTwo_zero he
    obtain ⟨m, rfl, hm64, hlen⟩ := relOk_nat h1
    rw [Int.toNat_natCast]
    simp only [bt]
    by_cases hj2 : j < m
    · simp [hj2, hj]
    · have e1 := getLsb_not_high ra m i j h1
      have e2 := getLsb_not_high rb m i j h2
      simp only [hj2, decide_false, Bool.false_and] at e1 e2
      simp only [BitVec.getLsbD_or, BitVec.getLsbD_and, BitVec.getLsbD_not, e1, e2, hj2]; simp
  rintro v n1 es w1 ⟨s1, hs1, rfl, rfl⟩
  refine gO_ ?_
  refine wl_fx (fx_store_box (i := 1) (hi := rfl) (next := ?_))
  refine gO_ ?_
  exact mk_ret Tryz.results98 (.cellN inferInstance rfl (.tail _ (.head _)) rfl (.tmp rfl .nil)) (.tail _ (.head _)) [ownW s1 _] [0] rfl (by decide) fun w' hw => ⟨s1, hs1, rfl, rfl⟩

end Go.Proofs.YtifgncgiiojikaaGreatDoor
end
