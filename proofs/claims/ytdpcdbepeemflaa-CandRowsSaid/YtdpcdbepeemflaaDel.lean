/- The library's Clone and Delete of integers by their contracts. -/
import Derived.Test.YtdpcdbepeemflaaG08
import Derived.Test.YtdpcdbepeemflaaLays2
import Derived.Test.YtdpcdbepeemflaaPak
set_option linter.unusedSimpArgs false
set_option linter.unusedVariables false
namespace Go.Proofs.Ytdpcdbepeemflaa
open Go Go.Eng Go.Tc Go.Proofs Go.RowKit Go.Sort

theorem mkI_of {w w' : World} {v : Value} {xs : List Int} (ho : World.ownsRow w' w.heap.size 3 1 v xs.length (xs.map (Value.int .i64))) (hb : Below w.heap.size w w') : MkR w (fun _ r es _ => SV r ∧ es = [.own r 3 1 Eng.encI xs]) (.returned v) w' := by
  unfold MkR
  have hsv : SV v := by
    rcases ho.2 with ⟨rfl, _⟩ | ⟨g, cap, cur, rfl, _⟩ <;> exact ⟨_, _, _, rfl⟩
  refine ⟨v, _, rfl, ⟨hsv, rfl⟩, ?_⟩
  refine (mem_start w).new (e' := .own v 3 1 Eng.encI xs) hb.os hb.tape hb.output hb.size (fun k hk => hb.block k hk) ?_ (fun k hk => ?_) (fun k hk => ?_)
  · show World.ownsRow w' 0 3 1 v xs.length (xs.flatMap Eng.encI)
    rw [flat_encI]
    exact ⟨ho.1, ho.2.imp id fun ⟨g, cap, cur, a, _, r⟩ => ⟨g, cap, cur, a, Nat.zero_le _, r⟩⟩
  · rcases ho.2 with ⟨rfl, _⟩ | ⟨g, cap, cur, rfl, hg, hh, _⟩
    · simp [Ent.fp, Value.ownBlock] at hk
    · simp only [Ent.fp, Value.ownBlock, Option.mem_toList, Option.mem_some_iff] at hk
      obtain rfl : g = k := Option.some.inj hk
      exact (Array.getElem?_eq_some_iff.1 hh).1
  · rcases ho.2 with ⟨rfl, _⟩ | ⟨g, cap, cur, rfl, hg, hh, _⟩
    · simp [Ent.fp, Value.ownBlock] at hk
    · simp only [Ent.fp, Value.ownBlock, Option.mem_toList, Option.mem_some_iff] at hk
      obtain rfl : g = k := Option.some.inj hk
      exact hg

theorem sclone_spec (v : Value) (xs : List Int) (w : World) (hs : Sl All w Eng.encI 1 v xs) (hx : xs.length * 8 ≤ 140737488351232) :
    Mk Try.prog 62 [v] w fun _ r es _ => SV r ∧ es = [.own r 3 1 Eng.encI xs] := by
  unfold Mk
  rcases inSl_of hs with ⟨a, cap, rfl, rfl⟩ | ⟨b, off, cap, rfl, hb, hc⟩
  · cases a with
    | none =>
      refine (Any.slices_Clone_int_nil lays15 0 cap w).mono ?_
      rintro e w' ⟨rfl, rfl⟩
      exact mkI_of (World.ownsRow_nil _ _ _ _) (Below.refl _ _)
    | some A =>
      refine (Any.slices_Clone_int_zero lays15 A cap w).mono ?_
      rintro e w' ⟨v', rfl, ho, _, hb⟩
      exact mkI_of ho hb
  · refine (Any.slices_Clone_int lays15 b off xs.length cap xs w (Nat.le_refl _) (by omega) (fun j hj => by rw [hc j hj]; simp [List.getD_eq_getElem?_getD])).mono ?_
    rintro e w' ⟨v', rfl, ho, _, hb'⟩
    rw [List.take_of_length_le (Nat.le_refl _)] at ho
    exact mkI_of ho hb'

theorem sdelete_spec (v : Value) (xs : List Int) (i : Nat) (w : World) (hi : i < xs.length) (hw : Mem [] [.own v 3 1 Eng.encI xs] w) :
    Mu Try.prog 63 [v, .int .i64 i, .int .i64 ((i : Int) + 1)] (.own v 3 1 Eng.encI xs) w fun _ r e' _ => SV r ∧ e' = .own r 3 1 Eng.encI (xs.eraseIdx i) := by
  have hin := hw.inb _ (.head _)
  obtain ⟨hl, ho⟩ := hw.own _ (.head _)
  unfold Mu
  rcases ho with ⟨rfl, h0⟩ | ⟨g, cap, cur, rfl, hg, hh, hn, hm, hsz, htk⟩
  · omega
  · have htk' : cur.toList.take xs.length = xs.map (Value.int .i64) := by rw [Nat.mul_one] at htk; rw [htk, flat_encI]
    refine (Any.slices_Delete_int lays23 g 0 cap i (i + 1) xs w (holds_of_blockI hh htk') hn (by unfold maxLen at hm; omega) (by omega) (by omega)).mono ?_
    rintro e w' ⟨rfl, q, rfl⟩
    unfold MuR
    have e1 : xs.length - (i + 1 - i) = (xs.eraseIdx i).length := by rw [List.length_eraseIdx, if_pos hi]; omega
    have e2 : xs.take i ++ xs.drop (i + 1) = xs.eraseIdx i := (List.eraseIdx_eq_take_drop_succ xs i).symm
    have e3 : (i + 1 - i) = 1 := by omega
    rw [e2, e3, show xs.length - 1 = (xs.eraseIdx i).length by omega]
    have hlt : (xs.eraseIdx i ++ List.replicate 1 (0 : Int)).length = xs.length := by rw [List.length_append, ← e1, List.length_replicate]; omega
    have hgb := grownBy_sortedI (w := w) (g := g) (n := q) (os := #[]) (xs.eraseIdx i ++ List.replicate 1 (0 : Int)).toArray
    have hrow := ownsRow_sortedI (base := 0) (n := q) (os := #[]) (ts := xs.eraseIdx i ++ List.replicate 1 (0 : Int)) hlt (Nat.zero_le _) hh hn hm hsz
    rw [Go.Sort.grow_empty] at hgb hrow
    have hfull : (Ent.own (.slice (some ⟨g, 0, none⟩) xs.length cap) 3 1 Eng.encI (xs.eraseIdx i ++ List.replicate 1 (0 : Int))).ok (putRow (Value.int .i64) (Sort.ahead w q) g 0 (xs.eraseIdx i ++ List.replicate 1 (0 : Int)).toArray) := by
      show World.ownsRow _ 0 3 1 _ (xs.eraseIdx i ++ List.replicate 1 (0 : Int)).length ((xs.eraseIdx i ++ List.replicate 1 (0 : Int)).flatMap Eng.encI)
      rw [flat_encI, hlt]
      exact hrow
    have hmem := (mem_mu hw).upd (i := 0) (e' := .own (.slice (some ⟨g, 0, none⟩) xs.length cap) 3 1 Eng.encI (xs.eraseIdx i ++ List.replicate 1 (0 : Int))) rfl hgb.os hgb.tape hgb.output hgb.size (fun k hk hne => hgb.block k hk (fun e => hne (by simp [Ent.fp, Value.ownBlock]; cases e; rfl))) hfull (fun k hk => Nat.lt_of_lt_of_le (hin k hk) hgb.size) (fun k hk => .inl hk)
    have hcut := hmem.cutMine (τ := Int) 0 rfl (xs.eraseIdx i).length (by rw [List.length_append]; omega)
    rw [List.take_left' rfl] at hcut
    exact ⟨_, _, rfl, ⟨⟨_, _, _, rfl⟩, rfl⟩, hcut⟩
end Go.Proofs.Ytdpcdbepeemflaa
