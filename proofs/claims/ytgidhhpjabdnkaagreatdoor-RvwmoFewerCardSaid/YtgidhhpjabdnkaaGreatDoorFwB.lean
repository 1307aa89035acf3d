/- The walks: alembicref15.Copy; alembicref20.fewer, Fewer, Happens. -/
import Derived.Test.YtgidhhpjabdnkaaGreatDoorFwA
import Derived.Test.YtgidhhpjabdnkaaGreatDoorG25
import Derived.Test.YtgidhhpjabdnkaaGreatDoorRvH
set_option linter.unusedSimpArgs false
set_option linter.unusedVariables false
namespace Go.Proofs.YtgidhhpjabdnkaaGreatDoor
open Go Go.Eng Go.Tc Go.Rl Go.Vw
attribute [local irreducible] wpList Code.wp bodyPost Exit.then Exit.inBlock Calls

set_option maxHeartbeats 3200000 in
theorem rcopy15_spec {lv iv ev bv av dv cv tv nv : Value} {t : Tr} (w : World) (h : TrIn All w lv iv ev bv av dv cv tv nv t) (hB : TrBig t) :
    Mk Tryz.prog 41 [.agg #[lv, iv, ev, bv, av, dv, cv, tv, nv]] w fun _ v es _ => ∃ u1 u2 u3 u4 u5 u6 u7 u8 u9, (SV u1 ∧ SV u2 ∧ SV u3 ∧ SV u4 ∧ SV u5 ∧ SV u6 ∧ SV u7 ∧ SV u8 ∧ SV u9) ∧ v = .agg #[u1, u2, u3, u4, u5, u6, u7, u8, u9] ∧ es = [.own u1 9 1 encT t.locs, .own u2 3 1 Eng.encI t.init, .own u3 76 6 encEv t.evs, .own u4 87 3 encBar t.bars, .own u5 93 2 encPair t.addr, .own u6 93 2 encPair t.data, .own u7 93 2 encPair t.ctrl, .own u8 124 3 encThing t.things, .own u9 126 2 encEnd t.ends] := by
  refine enter_mk Tryz.func41 Tryz.ntmps41 rfl rfl ?_
  refine gO_ ?_
  refine wl_fx (fx_box (next := ?_)); intro bT
  refine gO_ ?_
  refine wl_fx (fx_alloc (next := ?_)); intro b2
  refine gO_ ?_
  refine wl_fx (fx_alloc (next := ?_)); intro b3
  refine gO_ ?_
  have z1 := hB.locs
  have y1 := (h.locs).le
  refine kp_nil 9 1 encT ?_
  refine wl_fx (fx_append_base (k := 0) (hk := rfl) (h := h.locs) (hlen := by simp only [List.length_nil, Nat.zero_add]; omega) (next := ?_)); intro u1 hu1
  refine gO_ ?_
  refine wl_fx (fx_store_box (i := 1) (hi := rfl) (next := ?_))
  refine kp_mem (A' := Mem [(w, All)] [.own u1 9 1 encT t.locs, .box b3 [u1, .slice none 0 0, .slice none 0 0, .slice none 0 0, .slice none 0 0, .slice none 0 0, .slice none 0 0, .slice none 0 0, .slice none 0 0] 30, .box b2 [.slice none 0 0, .slice none 0 0, .slice none 0 0, .slice none 0 0, .slice none 0 0, .slice none 0 0, .slice none 0 0, .slice none 0 0, .slice none 0 0] 30, .box bT [lv, iv, ev, bv, av, dv, cv, tv, nv] 30]) (fun _ h => h) ?_
  refine gO_ ?_
  have z2 := hB.init
  have y2 := (h.init).le
  refine kp_nil 3 1 Eng.encI ?_
  refine wl_fx (fx_append_base (k := 0) (hk := rfl) (h := h.init) (hlen := by simp only [List.length_nil, Nat.zero_add]; omega) (next := ?_)); intro u2 hu2
  refine gO_ ?_
  refine wl_fx (fx_store_box (i := 2) (hi := rfl) (next := ?_))
  refine kp_mem (A' := Mem [(w, All)] [.own u2 3 1 Eng.encI t.init, .own u1 9 1 encT t.locs, .box b3 [u1, u2, .slice none 0 0, .slice none 0 0, .slice none 0 0, .slice none 0 0, .slice none 0 0, .slice none 0 0, .slice none 0 0] 30, .box b2 [.slice none 0 0, .slice none 0 0, .slice none 0 0, .slice none 0 0, .slice none 0 0, .slice none 0 0, .slice none 0 0, .slice none 0 0, .slice none 0 0] 30, .box bT [lv, iv, ev, bv, av, dv, cv, tv, nv] 30]) (fun _ h => h) ?_
  refine gO_ ?_
  have z3 := hB.evs
  have y3 := (h.evs).le
  refine kp_nil 76 6 encEv ?_
  refine wl_fx (fx_append_base (k := 0) (hk := rfl) (h := h.evs) (hlen := by simp only [List.length_nil, Nat.zero_add]; omega) (next := ?_)); intro u3 hu3
  refine gO_ ?_
  refine wl_fx (fx_store_box (i := 3) (hi := rfl) (next := ?_))
  refine kp_mem (A' := Mem [(w, All)] [.own u3 76 6 encEv t.evs, .own u2 3 1 Eng.encI t.init, .own u1 9 1 encT t.locs, .box b3 [u1, u2, u3, .slice none 0 0, .slice none 0 0, .slice none 0 0, .slice none 0 0, .slice none 0 0, .slice none 0 0] 30, .box b2 [.slice none 0 0, .slice none 0 0, .slice none 0 0, .slice none 0 0, .slice none 0 0, .slice none 0 0, .slice none 0 0, .slice none 0 0, .slice none 0 0] 30, .box bT [lv, iv, ev, bv, av, dv, cv, tv, nv] 30]) (fun _ h => h) ?_
  refine gO_ ?_
  have z4 := hB.bars
  have y4 := (h.bars).le
  refine kp_nil 87 3 encBar ?_
  refine wl_fx (fx_append_base (k := 0) (hk := rfl) (h := h.bars) (hlen := by simp only [List.length_nil, Nat.zero_add]; omega) (next := ?_)); intro u4 hu4
  refine gO_ ?_
  refine wl_fx (fx_store_box (i := 4) (hi := rfl) (next := ?_))
  refine kp_mem (A' := Mem [(w, All)] [.own u4 87 3 encBar t.bars, .own u3 76 6 encEv t.evs, .own u2 3 1 Eng.encI t.init, .own u1 9 1 encT t.locs, .box b3 [u1, u2, u3, u4, .slice none 0 0, .slice none 0 0, .slice none 0 0, .slice none 0 0, .slice none 0 0] 30, .box b2 [.slice none 0 0, .slice none 0 0, .slice none 0 0, .slice none 0 0, .slice none 0 0, .slice none 0 0, .slice none 0 0, .slice none 0 0, .slice none 0 0] 30, .box bT [lv, iv, ev, bv, av, dv, cv, tv, nv] 30]) (fun _ h => h) ?_
  refine gO_ ?_
  have z5 := hB.addr
  have y5 := (h.addr).le
  refine kp_nil 93 2 encPair ?_
  refine wl_fx (fx_append_base (k := 0) (hk := rfl) (h := h.addr) (hlen := by simp only [List.length_nil, Nat.zero_add]; omega) (next := ?_)); intro u5 hu5
  refine gO_ ?_
  refine wl_fx (fx_store_box (i := 5) (hi := rfl) (next := ?_))
  refine kp_mem (A' := Mem [(w, All)] [.own u5 93 2 encPair t.addr, .own u4 87 3 encBar t.bars, .own u3 76 6 encEv t.evs, .own u2 3 1 Eng.encI t.init, .own u1 9 1 encT t.locs, .box b3 [u1, u2, u3, u4, u5, .slice none 0 0, .slice none 0 0, .slice none 0 0, .slice none 0 0] 30, .box b2 [.slice none 0 0, .slice none 0 0, .slice none 0 0, .slice none 0 0, .slice none 0 0, .slice none 0 0, .slice none 0 0, .slice none 0 0, .slice none 0 0] 30, .box bT [lv, iv, ev, bv, av, dv, cv, tv, nv] 30]) (fun _ h => h) ?_
  refine gO_ ?_
  have z6 := hB.data
  have y6 := (h.data).le
  refine kp_nil 93 2 encPair ?_
  refine wl_fx (fx_append_base (k := 0) (hk := rfl) (h := h.data) (hlen := by simp only [List.length_nil, Nat.zero_add]; omega) (next := ?_)); intro u6 hu6
  refine gO_ ?_
  refine wl_fx (fx_store_box (i := 6) (hi := rfl) (next := ?_))
  refine kp_mem (A' := Mem [(w, All)] [.own u6 93 2 encPair t.data, .own u5 93 2 encPair t.addr, .own u4 87 3 encBar t.bars, .own u3 76 6 encEv t.evs, .own u2 3 1 Eng.encI t.init, .own u1 9 1 encT t.locs, .box b3 [u1, u2, u3, u4, u5, u6, .slice none 0 0, .slice none 0 0, .slice none 0 0] 30, .box b2 [.slice none 0 0, .slice none 0 0, .slice none 0 0, .slice none 0 0, .slice none 0 0, .slice none 0 0, .slice none 0 0, .slice none 0 0, .slice none 0 0] 30, .box bT [lv, iv, ev, bv, av, dv, cv, tv, nv] 30]) (fun _ h => h) ?_
  refine gO_ ?_
  have z7 := hB.ctrl
  have y7 := (h.ctrl).le
  refine kp_nil 93 2 encPair ?_
  refine wl_fx (fx_append_base (k := 0) (hk := rfl) (h := h.ctrl) (hlen := by simp only [List.length_nil, Nat.zero_add]; omega) (next := ?_)); intro u7 hu7
  refine gO_ ?_
  refine wl_fx (fx_store_box (i := 7) (hi := rfl) (next := ?_))
  refine kp_mem (A' := Mem [(w, All)] [.own u7 93 2 encPair t.ctrl, .own u6 93 2 encPair t.data, .own u5 93 2 encPair t.addr, .own u4 87 3 encBar t.bars, .own u3 76 6 encEv t.evs, .own u2 3 1 Eng.encI t.init, .own u1 9 1 encT t.locs, .box b3 [u1, u2, u3, u4, u5, u6, u7, .slice none 0 0, .slice none 0 0] 30, .box b2 [.slice none 0 0, .slice none 0 0, .slice none 0 0, .slice none 0 0, .slice none 0 0, .slice none 0 0, .slice none 0 0, .slice none 0 0, .slice none 0 0] 30, .box bT [lv, iv, ev, bv, av, dv, cv, tv, nv] 30]) (fun _ h => h) ?_
  refine gO_ ?_
  have z8 := hB.things
  have y8 := (h.things).le
  refine kp_nil 124 3 encThing ?_
  refine wl_fx (fx_append_base (k := 0) (hk := rfl) (h := h.things) (hlen := by simp only [List.length_nil, Nat.zero_add]; omega) (next := ?_)); intro u8 hu8
  refine gO_ ?_
  refine wl_fx (fx_store_box (i := 8) (hi := rfl) (next := ?_))
  refine kp_mem (A' := Mem [(w, All)] [.own u8 124 3 encThing t.things, .own u7 93 2 encPair t.ctrl, .own u6 93 2 encPair t.data, .own u5 93 2 encPair t.addr, .own u4 87 3 encBar t.bars, .own u3 76 6 encEv t.evs, .own u2 3 1 Eng.encI t.init, .own u1 9 1 encT t.locs, .box b3 [u1, u2, u3, u4, u5, u6, u7, u8, .slice none 0 0] 30, .box b2 [.slice none 0 0, .slice none 0 0, .slice none 0 0, .slice none 0 0, .slice none 0 0, .slice none 0 0, .slice none 0 0, .slice none 0 0, .slice none 0 0] 30, .box bT [lv, iv, ev, bv, av, dv, cv, tv, nv] 30]) (fun _ h => h) ?_
  refine gO_ ?_
  have z9 := hB.ends
  have y9 := (h.ends).le
  refine kp_nil 126 2 encEnd ?_
  refine wl_fx (fx_append_base (k := 0) (hk := rfl) (h := h.ends) (hlen := by simp only [List.length_nil, Nat.zero_add]; omega) (next := ?_)); intro u9 hu9
  refine gO_ ?_
  refine wl_fx (fx_store_box (i := 9) (hi := rfl) (next := ?_))
  refine kp_mem (A' := Mem [(w, All)] [.own u9 126 2 encEnd t.ends, .own u8 124 3 encThing t.things, .own u7 93 2 encPair t.ctrl, .own u6 93 2 encPair t.data, .own u5 93 2 encPair t.addr, .own u4 87 3 encBar t.bars, .own u3 76 6 encEv t.evs, .own u2 3 1 Eng.encI t.init, .own u1 9 1 encT t.locs, .box b3 [u1, u2, u3, u4, u5, u6, u7, u8, u9] 30, .box b2 [.slice none 0 0, .slice none 0 0, .slice none 0 0, .slice none 0 0, .slice none 0 0, .slice none 0 0, .slice none 0 0, .slice none 0 0, .slice none 0 0] 30, .box bT [lv, iv, ev, bv, av, dv, cv, tv, nv] 30]) (fun _ h => h) ?_
  refine gO_ ?_
  refine wl_fx (fx_store_box (i := 10) (hi := rfl) (next := ?_))
  refine gO_ ?_
  exact mk_ret Tryz.results41 (.cellN inferInstance rfl (.tail _ (.tail _ (.tail _ (.tail _ (.tail _ (.tail _ (.tail _ (.tail _ (.tail _ (.tail _ (.head _))))))))))) rfl .nil) (.head _) [_, _, _, _, _, _, _, _, _] [8, 7, 6, 5, 4, 3, 2, 1, 0] rfl (by decide) fun w' hw => ⟨u1, u2, u3, u4, u5, u6, u7, u8, u9, ⟨hu1, hu2, hu3, hu4, hu5, hu6, hu7, hu8, hu9⟩, rfl, rfl⟩


theorem ofI_nat {j : Nat} (h : j < 64) : (BitVec.ofInt 64 (j : Int)).toNat = j := by
  rw [BitVec.ofInt_natCast, BitVec.toNat_ofNat]; omega

set_option maxHeartbeats 3200000 in
theorem fewer20_spec (lv : Value) (l : List Pair) (mask : W) (w : World) (hl : Sl All w encPair 2 lv l) (hb : l.length * 16 ≤ 140737488351232) :
    Mk Tryz.prog 42 [lv, u64 mask] w fun _ v es _ => SV v ∧ es = [.own v 93 2 encPair (few 8 l mask)] := by
  have hls := hl.sv
  have hLl := hl.le
  refine enter_mk Tryz.func42 Tryz.ntmps42 rfl rfl ?_
  refine gO_ ?_
  refine kp_nil 93 2 encPair ?_
  refine wc_loop (fun s : Nat × Value => s.1 ≤ l.length ∧ SV s.2) (fun s => [(6, true, .int .i64 s.1), (5, true, s.2), (1, true, u64 mask), (0, true, lv)])
    (fun s => Mem [(w, All)] [.own s.2 93 2 encPair (fewTo 8 l mask s.1)]) (fun s => l.length - s.1) (0, .slice none 0 0) ⟨Nat.zero_le _, sv_nil⟩ ⟨rfl, rfl, rfl, rfl, trivial⟩ (fun _ h => h) ?_
  rintro ⟨i, out⟩ ⟨hi, hout⟩
  dsimp only at hi hout ⊢
  have hfl := fewTo_len 8 l mask i
  refine gO_ ?_
  refine wc_cond rfl (fun h1 => ?_) (fun h1 => ?_)
  · have h1' : i < l.length := by rw [dc_true] at h1; omega
    refine gO_ ?_
    refine wl_a (v := .int .i64 ((i % 8 : Nat) : Int)) (h := ?_) (next := ?_)
    · exact qy_remI i 8 (hm := rfl) (hn := rfl) (hb := by omega)
    refine gO_ ?_
    rw [ofI_nat (show i % 8 < 64 by omega)]
    refine wc_cond rfl (fun h2 => ?_) (fun h2 => ?_)
    · have hy := fewTo_yes (l := l) (mask := mask) (k := i) (m := 8) (by rw [dc_eq] at h2; exact h2)
      refine gO_ ?_
      refine wl_fx (fx_lit (next := ?_))
      intro v25 hv25
      refine gO_ ?_
      refine wl_fx (fx_append_own (k := 1) (hk := rfl) (hm := .head _) (hlen := by simp only [List.length_map, List.length_cons, List.length_nil]; omega) (next := ?_))
      intro v26 hv26
      refine gO_ ?_
      refine po_loop (i + 1, v26) ⟨by dsimp only; omega, hv26⟩ (by dsimp only; omega) ⟨rfl, rfl, rfl, rfl, trivial⟩ (fun _ h => ?_)
      dsimp only
      rw [hy]
      exact h.sel [1] rfl (by decide)
    · have hy := fewTo_no (l := l) (mask := mask) (k := i) (m := 8) (by rw [dc_eq] at h2; exact h2)
      refine gO_ ?_
      refine po_loop (i + 1, out) ⟨by dsimp only; omega, hout⟩ (by dsimp only; omega) ⟨rfl, rfl, rfl, rfl, trivial⟩ (fun _ h => ?_)
      dsimp only
      rw [hy]
      exact h
  · obtain rfl : i = l.length := by rw [dc_false] at h1; omega
    refine gO_ ?_
    exact mk_ret Tryz.results42 (.tmp rfl .nil) (.head _) [_] [0] rfl (by decide) fun w' hw => ⟨hout, rfl⟩
set_option maxRecDepth 8000 in
set_option maxHeartbeats 12800000 in
theorem fewer_spec {lv iv ev bv av dv cv tv nv : Value} {t : Tr} (mask : W) (w : World) (h : TrIn All w lv iv ev bv av dv cv tv nv t) (hB : TrBig t) :
    Pur Tryz.prog 11 [.agg #[lv, iv, ev, bv, av, dv, cv, tv, nv], u64 mask] w fun m v w' => ∃ lv' iv' ev' bv' av' dv' cv' tv' nv', v = .agg #[lv', iv', ev', bv', av', dv', cv', tv', nv'] ∧ TrIn (Fr m) w' lv' iv' ev' bv' av' dv' cv' tv' nv' (fewT t mask) := by
  have hbl := hB.bars; have hbl2 := hB.addr; have hbl3 := hB.data; have hbl4 := hB.ctrl
  have hbb := h.bars; have hbbl := hbb.le
  have haa := h.addr; have hdd := h.data; have hcc := h.ctrl
  refine enter_pur Tryz.func11 Tryz.ntmps11 rfl rfl ?_
  refine gO_ ?_
  refine wl_fx (fx_box (next := ?_)); intro bT
  refine gO_ ?_
  refine wl_fx (fx_alloc (next := ?_)); intro b4
  refine gO_ ?_
  refine wl_fx (fx_call_mk (spec := fun w' hw => rcopy15_spec w' (h.now hw (.head _)) hB) (next := ?_))
  rintro v n1 es w1 ⟨u1, u2, u3, u4, u5, u6, u7, u8, u9, ⟨hu1, hu2, hu3, hu4, hu5, hu6, hu7, hu8, hu9⟩, rfl, rfl⟩
  refine gO_ ?_
  refine wl_fx (fx_alloc (next := ?_)); intro b5
  refine gO_ ?_
  refine wl_fx (fx_store_box (i := 0) (hi := rfl) (next := ?_))
  refine gO_ ?_
  refine kp_nil 87 3 encBar ?_
  refine wc_loop (fun s : Nat × Value => s.1 ≤ t.bars.length ∧ SV s.2) (fun s => [(7, true, .int .i64 s.1), (6, true, s.2), (5, true, .pointer (some ⟨b5, 0, none⟩)), (4, true, .pointer (some ⟨b4, 0, none⟩)), (2, true, .pointer (some ⟨bT, 0, none⟩)), (1, true, u64 mask)])
    (fun s => Mem [(w, All)] [.own s.2 87 3 encBar (fewTo 16 t.bars mask s.1), .box b5 [u1, u2, u3, u4, u5, u6, u7, u8, u9] 30, .own u1 9 1 encT t.locs, .own u2 3 1 Eng.encI t.init, .own u3 76 6 encEv t.evs, .own u8 124 3 encThing t.things, .own u9 126 2 encEnd t.ends, .box b4 [.slice none 0 0, .slice none 0 0, .slice none 0 0, .slice none 0 0, .slice none 0 0, .slice none 0 0, .slice none 0 0, .slice none 0 0, .slice none 0 0] 30, .box bT [lv, iv, ev, bv, av, dv, cv, tv, nv] 30]) (fun s => t.bars.length - s.1) (0, .slice none 0 0) ⟨Nat.zero_le _, sv_nil⟩ ⟨rfl, rfl, rfl, rfl, rfl, rfl, trivial⟩ (fun _ h => (h.last rfl).sel [0, 1, 2, 3, 4, 9, 10, 11, 12] rfl (by decide)) ?_
  rintro ⟨i, out⟩ ⟨hi, hout⟩
  dsimp only at hi hout ⊢
  have hfl := fewTo_len 16 t.bars mask i
  refine gO_ ?_
  refine wc_cond rfl (fun h1 => ?_) (fun h1 => ?_)
  · have h1' : i < t.bars.length := by rw [dc_true] at h1; omega
    refine gO_ ?_
    refine wl_a (v := .int .i64 ((i % 16 : Nat) : Int)) (h := ?_) (next := ?_)
    · exact qy_remI i 16 (hm := rfl) (hn := rfl) (hb := by omega)
    refine gO_ ?_
    rw [ofI_nat (show i % 16 < 64 by omega)]
    refine wc_cond rfl (fun h2 => ?_) (fun h2 => ?_)
    · have hy := fewTo_yes (l := t.bars) (mask := mask) (k := i) (m := 16) (by rw [dc_eq] at h2; exact h2)
      refine gO_ ?_
      refine wl_fx (fx_lit (next := ?_))
      intro v25 hv25
      refine gO_ ?_
      refine wl_fx (fx_append_own (k := 1) (hk := rfl) (hm := .head _) (hlen := by simp only [List.length_map, List.length_cons, List.length_nil]; omega) (next := ?_))
      intro v26 hv26
      refine gO_ ?_
      refine po_loop (i + 1, v26) ⟨by dsimp only; omega, hv26⟩ (by dsimp only; omega) ⟨rfl, rfl, rfl, rfl, rfl, rfl, trivial⟩ (fun _ h => ?_)
      dsimp only
      rw [hy]
      exact h.sel [1, 2, 3, 4, 5, 6, 7, 8, 9] rfl (by decide)
    · have hy := fewTo_no (l := t.bars) (mask := mask) (k := i) (m := 16) (by rw [dc_eq] at h2; exact h2)
      refine gO_ ?_
      refine po_loop (i + 1, out) ⟨by dsimp only; omega, hout⟩ (by dsimp only; omega) ⟨rfl, rfl, rfl, rfl, rfl, rfl, trivial⟩ (fun _ h => ?_)
      dsimp only
      rw [hy]
      exact h
  · obtain rfl : i = t.bars.length := by rw [dc_false] at h1; omega
    refine gO_ ?_
    refine wl_fx (fx_store_box (i := 1) (hi := rfl) (next := ?_))
    refine gO_ ?_
    refine wl_fx (fx_call_mk (spec := fun w' hw => fewer20_spec av t.addr _ w' (hw.now haa (.head _)) hbl2) (next := ?_))
    rintro q1 n2 es w2 ⟨hq1, rfl⟩
    refine gO_ ?_
    refine wl_fx (fx_store_box (i := 2) (hi := rfl) (next := ?_))
    refine gO_ ?_
    refine wl_fx (fx_call_mk (spec := fun w' hw => fewer20_spec dv t.data _ w' (hw.now hdd (.tail _ (.head _))) hbl3) (next := ?_))
    rintro q2 n3 es w3 ⟨hq2, rfl⟩
    refine gO_ ?_
    refine wl_fx (fx_store_box (i := 3) (hi := rfl) (next := ?_))
    refine gO_ ?_
    refine wl_fx (fx_call_mk (spec := fun w' hw => fewer20_spec cv t.ctrl _ w' (hw.now hcc (.tail _ (.tail _ (.head _)))) hbl4) (next := ?_))
    rintro q3 n4 es w4 ⟨hq3, rfl⟩
    refine gO_ ?_
    refine wl_fx (fx_store_box (i := 4) (hi := rfl) (next := ?_))
    refine gO_ ?_
    refine wl_fx (fx_store_box (i := 10) (hi := rfl) (next := ?_))
    refine gO_ ?_
    refine pur_ret Tryz.results11 (.cellN inferInstance rfl (.tail _ (.tail _ (.tail _ (.tail _ (.tail _ (.tail _ (.tail _ (.tail _ (.tail _ (.tail _ (.head _))))))))))) rfl .nil) (.tail _ (.tail _ (.tail _ (.head _)))) fun w' hw => ?_
    exact ⟨_, _, _, _, _, _, _, _, _, rfl, hw.give (.tail _ (.tail _ (.tail _ (.tail _ (.tail _ (.head _)))))) (.tail _ (.tail _ (.tail _ (.head _)))), hw.give (.tail _ (.tail _ (.tail _ (.tail _ (.tail _ (.tail _ (.head _))))))) (.tail _ (.tail _ (.tail _ (.head _)))), hw.give (.tail _ (.tail _ (.tail _ (.tail _ (.tail _ (.tail _ (.tail _ (.head _)))))))) (.tail _ (.tail _ (.tail _ (.head _)))), hw.give (.tail _ (.tail _ (.tail _ (.head _)))) (.tail _ (.tail _ (.tail _ (.head _)))), hw.give (.tail _ (.tail _ (.head _))) (.tail _ (.tail _ (.tail _ (.head _)))), hw.give (.tail _ (.head _)) (.tail _ (.tail _ (.tail _ (.head _)))), hw.give (.head _) (.tail _ (.tail _ (.tail _ (.head _)))), hw.give (.tail _ (.tail _ (.tail _ (.tail _ (.tail _ (.tail _ (.tail _ (.tail _ (.head _))))))))) (.tail _ (.tail _ (.tail _ (.head _)))), hw.give (.tail _ (.tail _ (.tail _ (.tail _ (.tail _ (.tail _ (.tail _ (.tail _ (.tail _ (.head _)))))))))) (.tail _ (.tail _ (.tail _ (.head _))))⟩
end Go.Proofs.YtgidhhpjabdnkaaGreatDoor
