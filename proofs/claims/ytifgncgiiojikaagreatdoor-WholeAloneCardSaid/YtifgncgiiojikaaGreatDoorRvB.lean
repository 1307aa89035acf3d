/- The walks: rvwmo's asked: of the pairs of the program order those of which something holds (printed by gen_rv.py). -/
import Derived.Test.YtifgncgiiojikaaGreatDoorRvA
import Derived.Test.YtifgncgiiojikaaGreatDoorMap
import Derived.Test.YtifgncgiiojikaaGreatDoorTsE
set_option linter.unusedSimpArgs false
set_option linter.unusedVariables false
namespace Go.Proofs.YtifgncgiiojikaaGreatDoor
open Go Go.Eng Go.Tc Go.Rl Go.Vw
attribute [local irreducible] wpList Code.wp bodyPost Exit.then Exit.inBlock Calls
/-- what is known of a candidate, in memory -/
structure AkIn (w : World) (ba : Nat) (lv iv ev bv av dv cv tv nv fv ov s1 s2 s3 s4 s5 s6 s7 s8 s9 sf sa sd sc : Value) (t : Tr) (c : Cd) : Prop where
  bx : Bx All w ba (lv :: iv :: ev :: bv :: av :: dv :: cv :: tv :: nv :: fv :: ov :: .int .i64 t.evs.length :: s1 :: .int .i64 t.evs.length :: s2 :: .int .i64 t.evs.length :: s3 :: .int .i64 t.evs.length :: s4 :: .int .i64 t.evs.length :: s5 :: .int .i64 t.evs.length :: s6 :: .int .i64 t.evs.length :: s7 :: .int .i64 t.evs.length :: s8 :: .int .i64 t.evs.length :: s9 :: .int .i64 t.evs.length :: sf :: .int .i64 t.evs.length :: sa :: .int .i64 t.evs.length :: sd :: .int .i64 t.evs.length :: sc :: [])
  tr : TrIn All w lv iv ev bv av dv cv tv nv t
  cd : CdIn All w fv ov c
  z : cdE t c = 0
  r4 : Sl All w encW 1 s4 (relOf t.evs.length (exP t (rfP t c)))
  r5 : Sl All w encW 1 s5 (relOf t.evs.length (coP t c))
  r7 : Sl All w encW 1 s7 (relOf t.evs.length (frP t c))
  rf : Sl All w encW 1 sf (relOf t.evs.length (fnP t))
  ra : Sl All w encW 1 sa (relOf t.evs.length (memb t.addr))
  rd : Sl All w encW 1 sd (relOf t.evs.length (memb t.data))
  rc : Sl All w encW 1 sc (relOf t.evs.length (memb t.ctrl))
theorem AkIn.now {w w' : World} {lv iv ev bv av dv cv tv nv fv ov s1 s2 s3 s4 s5 s6 s7 s8 s9 sf sa sd sc : Value} {t : Tr} {c : Cd} {ba : Nat} {bs : List Base} {H : List Ent} (h : AkIn w ba lv iv ev bv av dv cv tv nv fv ov s1 s2 s3 s4 s5 s6 s7 s8 s9 sf sa sd sc t c) (hw : Mem bs H w') (hB : (w, All) ∈ bs) : AkIn w' ba lv iv ev bv av dv cv tv nv fv ov s1 s2 s3 s4 s5 s6 s7 s8 s9 sf sa sd sc t c :=
  ⟨h.bx.mono (hw.base _ hB) fun _ => trivial, h.tr.now hw hB, h.cd.now hw hB, h.z, hw.now h.r4 hB, hw.now h.r5 hB, hw.now h.r7 hB, hw.now h.rf hB, hw.now h.ra hB, hw.now h.rd hB, hw.now h.rc hB⟩

set_option maxHeartbeats 3200000 in
theorem writes_spec {lv iv ev bv av dv cv tv nv fv ov s1 s2 s3 s4 s5 s6 s7 s8 s9 sf sa sd sc : Value} {t : Tr} {c : Cd} {ba : Nat} (i : Nat) (w : World) (h : AkIn w ba lv iv ev bv av dv cv tv nv fv ov s1 s2 s3 s4 s5 s6 s7 s8 s9 sf sa sd sc t c) (hi : i < t.evs.length) :
    Pur Tryz.prog 113 [.pointer (some ⟨ba, 0, none⟩), .int .i64 i] w fun _ v _ => v = .bool (decide ((evi t i).dir = 2)) := by
  have hbx := h.bx
  have hE := h.tr.evs; have hEl := hE.le
  refine enter_pur Tryz.func113 Tryz.ntmps113 rfl rfl ?_
  (refine gO_ ?_; repeat ((first | refine wl_a (h := qy_nilCheck) (next := ?_) | refine wl_ag (h := qy_nilCheck) (next := ?_)); refine gO_ ?_))
  refine pur_ret Tryz.results113 (.tmp rfl .nil) (.head _) fun w' hw => ?_
  rw [dc_eq]; rfl

set_option maxHeartbeats 3200000 in
theorem alike_ok {lv iv ev bv av dv cv tv nv fv ov s1 s2 s3 s4 s5 s6 s7 s8 s9 sf sa sd sc : Value} {t : Tr} {c : Cd} {ba : Nat} (i j : Nat) (w : World) (h : AkIn w ba lv iv ev bv av dv cv tv nv fv ov s1 s2 s3 s4 s5 s6 s7 s8 s9 sf sa sd sc t c) (hi : i < t.evs.length) (hj : j < t.evs.length) :
    Pur Tryz.prog 114 [.pointer (some ⟨ba, 0, none⟩), .int .i64 i, .int .i64 j] w fun _ v _ => v = .bool (lcB t i j) := by
  have hbx := h.bx
  have hE := h.tr.evs; have hEl := hE.le
  refine enter_pur Tryz.func114 Tryz.ntmps114 rfl rfl ?_
  refine gO_ ?_
  refine wc_draw [0, 1, 2, 3, 4, 5, 6, 7, 8, 9, 10, 11, 12, 13, 14, 15, 16, 17, 18, 19] mixed ?_
  (refine kG_ ?_; repeat ((first | refine kg_a (h := qy_nilCheck) (next := ?_) | refine kg_ag (h := qy_nilCheck) (next := ?_)); refine kG_ ?_))
  refine gO_ ?_
  refine pur_ret Tryz.results114 (.tmp rfl .nil) (.head _) fun w' hw => ?_
  rw [dc_eq]; rfl

set_option maxHeartbeats 6400000 in
theorem rvpairs_spec {lv iv ev bv av dv cv tv nv fv ov s1 s2 s3 s4 s5 s6 s7 s8 s9 sf sa sd sc : Value} {t : Tr} {c : Cd} {ba : Nat} (kf : Nat) [FN Tryz.prog kf] (cap : List Value) (f : Nat → Nat → Bool) (w : World) (h : AkIn w ba lv iv ev bv av dv cv tv nv fv ov s1 s2 s3 s4 s5 s6 s7 s8 s9 sf sa sd sc t c)
    (hk : ∀ i j w', i < j → j < t.evs.length → Vw.thB t i j = true → Mem [(w, All)] [] w' → Pur Tryz.prog kf ([.int .i64 i, .int .i64 j] ++ cap) w' fun _ v _ => v = .bool (f i j)) :
    Mk Tryz.prog 89 [.pointer (some ⟨ba, 0, none⟩), .func (.func kf) #[] cap.toArray] w (Rel1Ψ t.evs.length (relOf t.evs.length fun i j => poP t i j && f i j)) := by
  have hbx := h.bx
  have hE := h.tr.evs; have hEl := hE.le
  have ht := (cdE_ok h.z).1
  have hb := (trOk_lens ht).1
  generalize hq : (fun i j => poP t i j && f i j) = q
  have hqa : ∀ a b, q a b = (poP t a b && f a b) := fun a b => by rw [← hq]
  refine enter_mk Tryz.func89 Tryz.ntmps89 rfl rfl ?_
  refine gO_ ?_
  refine wl_fx (fx_alloc (next := ?_)); intro b4
  (refine gO_ ?_; repeat ((first | refine wl_a (h := qy_nilCheck) (next := ?_) | refine wl_ag (h := qy_nilCheck) (next := ?_)); refine gO_ ?_))
  refine kp_nil 83 2 encPair ?_
  refine wc_loop (fun s : Nat × Value × List Pair => s.1 ≤ t.evs.length ∧ SV s.2.1 ∧ s.2.2 = lisTo q t.evs.length s.1) (fun s => [(18, true, .int .i64 s.1), (17, true, .int .i64 t.evs.length), (6, true, .int .i64 t.evs.length), (5, true, s.2.1), (4, true, .pointer (some ⟨b4, 0, none⟩)), (1, true, .func (.func kf) #[] cap.toArray), (0, true, .pointer (some ⟨ba, 0, none⟩))])
    (fun s => Mem [(w, All)] [.own s.2.1 83 2 encPair s.2.2, .box b4 [.int .i64 0, .slice none 0 0] 60]) (fun s => t.evs.length - s.1) (0, .slice none 0 0, []) ⟨Nat.zero_le _, sv_nil, rfl⟩ ⟨rfl, rfl, rfl, rfl, rfl, rfl, rfl, trivial⟩ (fun _ h => h) ?_
  rintro ⟨i, v1, xs⟩ ⟨hi, hv1, hxs⟩
  dsimp only at hi hv1 hxs ⊢
  refine gO_ ?_
  refine wc_cond rfl (fun h2 => ?_) (fun h2 => ?_)
  · have h2' : i < t.evs.length := by rw [dc_true] at h2; omega
    refine gO_ ?_
    refine wc_loop (fun s : Nat × Value × List Pair => i < s.1 ∧ s.1 ≤ t.evs.length ∧ SV s.2.1 ∧ s.2.2 = lisTo q t.evs.length i ++ rowTo q i s.1) (fun s => [(8, true, .int .i64 s.1), (7, true, .int .i64 i), (18, true, .int .i64 i), (17, true, .int .i64 t.evs.length), (6, true, .int .i64 t.evs.length), (5, true, s.2.1), (4, true, .pointer (some ⟨b4, 0, none⟩)), (1, true, .func (.func kf) #[] cap.toArray), (0, true, .pointer (some ⟨ba, 0, none⟩))])
      (fun s => Mem [(w, All)] [.own s.2.1 83 2 encPair s.2.2, .box b4 [.int .i64 0, .slice none 0 0] 60]) (fun s => t.evs.length - s.1) (i + 1, v1, xs) ⟨Nat.lt_succ_self i, by dsimp only; omega, hv1, ?_⟩ ⟨rfl, rfl, rfl, rfl, rfl, rfl, rfl, rfl, rfl, trivial⟩ (fun _ h => h) ?_
    · dsimp only
      rw [hxs, show rowTo q i (i + 1) = [] from ?_, List.append_nil]
      unfold rowTo
      rw [List.flatMap_eq_nil_iff]
      intro j hj
      rw [List.mem_range] at hj
      rw [if_neg]
      rw [hqa, po_lt ht h2' (by omega), decide_eq_false (by omega)]; simp
    rintro ⟨j, v2, ys⟩ ⟨hij, hj, hv2, hys⟩
    dsimp only at hij hj hv2 hys ⊢
    have hyl : ys.length ≤ 8192 := by
      rw [hys, List.length_append]
      have g1 := lisTo_len q t.evs.length i
      have g2 := rowTo_len q i j
      have g3 : i * t.evs.length ≤ 64 * 64 := Nat.mul_le_mul (by omega) hb
      omega
    refine gO_ ?_
    refine wc_cond rfl (fun h3 => ?_) (fun h3 => ?_)
    · have h3' : j < t.evs.length := by rw [dc_true] at h3; omega
      have hqij : (dc ((evi t i).thread = (evi t j).thread) && f i j) = q i j := by
        rw [hqa, dc_eq, po_lt ht h2' h3', decide_eq_true hij]; rfl
      refine gO_ ?_
      refine wc_draw [0, 1, 2, 3, 4, 5, 6, 7, 8, 9, 10, 11, 12, 13, 14, 15, 16, 17, 18, 19, 20, 21, 22, 23, 24] mixed ?_
      (refine kG_ ?_; repeat ((first | refine kg_a (h := qy_nilCheck) (next := ?_) | refine kg_ag (h := qy_nilCheck) (next := ?_)); refine kG_ ?_))
      refine kg_gx (h := gx_call (spec := fun hg w' hw => hk i j w' hij h3' (by rw [dc_true] at hg; exact decide_eq_true hg) (hw.sel [] rfl (by decide)))) (next := ?_)
      refine kG_ ?_
      refine gO_ ?_
      refine wc_cond rfl (fun h4 => ?_) (fun h4 => ?_)
      · have h4 : q i j = true := by rw [← hqij]; exact h4
        refine gO_ ?_
        refine wl_fx (fx_lit (next := ?_))
        intro v5 hv5
        refine gO_ ?_
        refine wl_fx (fx_append_own (k := 1) (hk := rfl) (hlen := by simp; omega) (next := ?_))
        intro v6 hv6
        refine gO_ ?_
        refine po_loop (j + 1, v6, ys ++ [(⟨(i : Int), (j : Int)⟩ : Pair)]) ⟨by dsimp only; omega, by dsimp only; omega, hv6, by dsimp only; rw [hys, rowTo_succ, if_pos h4, List.append_assoc]⟩ (by dsimp only; omega) ⟨rfl, rfl, rfl, rfl, rfl, rfl, rfl, rfl, rfl, trivial⟩ (fun _ h => h.tail)
      · have h4 : q i j = false := by rw [← hqij]; exact h4
        refine gO_ ?_
        exact po_loop (j + 1, v2, ys) ⟨by dsimp only; omega, by dsimp only; omega, hv2, by dsimp only; rw [hys, rowTo_succ, if_neg (by rw [h4]; simp), List.append_nil]⟩ (by dsimp only; omega) ⟨rfl, rfl, rfl, rfl, rfl, rfl, rfl, rfl, rfl, trivial⟩ (fun _ h => h)
    · have hjn : j = t.evs.length := by rw [dc_false] at h3; omega
      refine gO_ ?_
      exact po_loop (i + 1, v2, ys) ⟨by dsimp only; omega, hv2, by dsimp only; rw [hys, lisTo_succ, hjn]⟩ (by dsimp only; omega) ⟨rfl, rfl, rfl, rfl, rfl, rfl, rfl, trivial⟩ (fun _ h => h)
  · have hin : i = t.evs.length := by rw [dc_false] at h2; omega
    refine gO_ ?_
    refine wl_fx (fx_call_mk (spec := fun w' hw => of_ok hb v1 xs w' (hw.lend (.head _)) (by rw [hxs, hin]; exact lisTo_inR q _)) (next := ?_))
    rintro v n3 es w3 ⟨sv, hsv, rfl, rfl⟩
    refine gO_ ?_
    refine wl_fx (fx_alloc (next := ?_)); intro b9
    refine gO_ ?_
    refine wl_fx (fx_store_box (i := 0) (hi := rfl) (next := ?_))
    refine gO_ ?_
    refine wl_fx (fx_store_box (i := 3) (hi := rfl) (next := ?_))
    refine gO_ ?_
    refine mk_ret Tryz.results89 (.cellN inferInstance rfl (.tail _ (.tail _ (.tail _ (.head _)))) rfl .nil) (.tail _ (.head _)) [_] [1] rfl (by decide) fun w' hw => ?_
    refine ⟨sv, hsv, rfl, ?_⟩
    rw [relOf_ext (q := q) fun a b ha hb => by rw [hxs, hin]; exact memb_lisTo q _ a b ha hb]

end Go.Proofs.YtifgncgiiojikaaGreatDoor
