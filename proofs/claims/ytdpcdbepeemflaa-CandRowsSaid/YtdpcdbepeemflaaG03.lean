import Derived.Test.YtdpcdbepeemflaaG02
set_option linter.unusedSimpArgs false
set_option linter.unusedVariables false
section
/- Plain: traces in Lean; which may be. -/
namespace Go.Tc
open Go.Eng

structure Tr where
  locs : List ByteArray
  init : List Int
  evs : List Ev
  bars : List Bar
  addr : List Pair
  data : List Pair
  ctrl : List Pair
  things : List Thing
  ends : List EndT

def numB (n : Int) : Bool := decide (-2147483648 ≤ n) && decide (n ≤ 2147483647)
def letB (b : Nat) : Bool := (decide (97 ≤ b) && decide (b ≤ 122)) || (decide (65 ≤ b) && decide (b ≤ 90))
def digB (b : Nat) : Bool := (decide (48 ≤ b) && decide (b ≤ 57)) || decide (b = 95)
def chB (s : ByteArray) (i : Nat) : Bool := letB (byteT s i) || (decide (0 < i) && digB (byteT s i))
def nameB (s : ByteArray) : Bool := decide (1 ≤ s.size) && decide (s.size ≤ 32) && (List.range s.size).all (chB s)
def placedB (th pl : Int) : Bool := decide (0 ≤ th) && decide (th < 16) && decide (0 ≤ pl) && decide (pl < 256)
def aheadP (a p b q : Int) : Bool := decide (a < b) || (decide (a = b) && decide (p < q))

def locAt (t : Tr) (i : Nat) : Bool := nameB (t.locs.getD i default) && (decide (i = 0) || ltT (t.locs.getD (i - 1) default) (t.locs.getD i default)) && numB (t.init.getD i default)
def locatedB (t : Tr) : Bool := decide (t.locs.length ≤ 64) && decide (t.init.length = t.locs.length) && (List.range t.locs.length).all (locAt t)
def dirB (x : Ev) : Bool := (decide (x.dir = 1) && decide (x.value = 0)) || (decide (x.dir = 2) && decide (x.reg = 0))
def evOne (t : Tr) (x : Ev) : Bool := placedB x.thread x.place && decide (0 ≤ x.loc) && decide (x.loc < t.locs.length) && numB x.value && decide (0 ≤ x.reg) && decide (x.reg ≤ 31) && dirB x
def evAt (t : Tr) (i : Nat) : Bool := evOne t (t.evs.getD i default) && (decide (i = 0) || aheadP (t.evs.getD (i - 1) default).thread (t.evs.getD (i - 1) default).place (t.evs.getD i default).thread (t.evs.getD i default).place)
def eventedB (t : Tr) : Bool := decide (t.evs.length ≤ 64) && (List.range t.evs.length).all (evAt t)
def barOff (t : Tr) (b : Bar) : Bool := (List.range t.evs.length).all fun k => !(decide ((t.evs.getD k default).thread = b.thread) && decide ((t.evs.getD k default).place = b.place))
def barAt (t : Tr) (i : Nat) : Bool := placedB (t.bars.getD i default).thread (t.bars.getD i default).place && decide (1 ≤ (t.bars.getD i default).fence) && decide ((t.bars.getD i default).fence ≤ 11) &&
  (decide (i = 0) || aheadP (t.bars.getD (i - 1) default).thread (t.bars.getD (i - 1) default).place (t.bars.getD i default).thread (t.bars.getD i default).place) && barOff t (t.bars.getD i default)
def barsOkB (t : Tr) : Bool := decide (t.bars.length ≤ 4096) && (List.range t.bars.length).all (barAt t)
def ev (t : Tr) (n : Int) : Ev := t.evs.getD n.toNat default
def pairOne (t : Tr) (w : Bool) (p : Pair) : Bool := decide (0 ≤ p.A) && decide (p.A < p.B) && decide (p.B < t.evs.length) && decide ((ev t p.A).dir = 1) && decide ((ev t p.A).thread = (ev t p.B).thread) && (!w || decide ((ev t p.B).dir = 2))
def pairAt (t : Tr) (l : List Pair) (w : Bool) (i : Nat) : Bool := pairOne t w (l.getD i default) && (decide (i = 0) || aheadP (l.getD (i - 1) default).A (l.getD (i - 1) default).B (l.getD i default).A (l.getD i default).B)
def pairedB (t : Tr) (l : List Pair) (w : Bool) : Bool := (List.range l.length).all (pairAt t l w)
def endB (t : Tr) (x : Thing) (e : EndT) : Bool := (decide (e.kind = 1) && numB e.n) || (decide (e.kind = 2) && decide (0 ≤ e.n) && decide (e.n < t.evs.length) && decide ((ev t e.n).dir = 1) && decide ((ev t e.n).thread = x.thread))
def locEnd (t : Tr) (x : Thing) (e : EndT) : Bool := match t.locs.findIdx? (fun s => decide (s = x.loc)) with
  | some k => decide (x.reg = 0) && decide (e.kind = 3) && decide (e.n = (k : Int))
  | none => false
def thingB (t : Tr) (x : Thing) (e : EndT) : Bool := if x.thread = -1 then locEnd t x e else decide (0 ≤ x.thread) && decide (x.thread < 16) && decide (0 ≤ x.reg) && decide (x.reg ≤ 31) && decide (x.loc = ByteArray.empty) && endB t x e
def aheadT (a b : Thing) : Bool := if a.thread = -1 ∨ b.thread = -1 then !decide (a.thread = -1) || (decide (b.thread = -1) && ltT a.loc b.loc) else if a.thread = b.thread then decide (a.reg < b.reg) else decide (a.thread < b.thread)
def thingAt (t : Tr) (i : Nat) : Bool := thingB t (t.things.getD i default) (t.ends.getD i default) && (decide (i = 0) || aheadT (t.things.getD (i - 1) default) (t.things.getD i default))
def thingsB (t : Tr) : Bool := decide (t.things.length = t.ends.length) && decide (t.things.length ≤ 1024) && (List.range t.things.length).all (thingAt t)
def trOk (t : Tr) : Bool := locatedB t && eventedB t && barsOkB t && pairedB t t.addr false && pairedB t t.data true && pairedB t t.ctrl false && thingsB t
end Go.Tc
end

section
/- The walks: trace.isName, isNumber, placed, located, evented. -/
namespace Go.Tc
open Go Go.Eng
structure TrIn (S : Nat → Prop) (w : World) (lv iv ev bv av dv cv tv nv : Value) (t : Tr) : Prop where
  locs : Sl S w encT 1 lv t.locs
  init : Sl S w encI 1 iv t.init
  evs : Sl S w encEv 6 ev t.evs
  bars : Sl S w encBar 3 bv t.bars
  addr : Sl S w encPair 2 av t.addr
  data : Sl S w encPair 2 dv t.data
  ctrl : Sl S w encPair 2 cv t.ctrl
  things : Sl S w encThing 3 tv t.things
  ends : Sl S w encEnd 2 nv t.ends
theorem TrIn.now {S : Nat → Prop} {B w' : World} {lv iv ev bv av dv cv tv nv : Value} {t : Tr} {bs : List Base} {H : List Ent} (h : TrIn S B lv iv ev bv av dv cv tv nv t) (hw : Mem bs H w') (hB : (B, S) ∈ bs) : TrIn All w' lv iv ev bv av dv cv tv nv t :=
  ⟨hw.now h.locs hB, hw.now h.init hB, hw.now h.evs hB, hw.now h.bars hB, hw.now h.addr hB, hw.now h.data hB, hw.now h.ctrl hB, hw.now h.things hB, hw.now h.ends hB⟩
theorem all_range {n : Nat} {p : Nat → Bool} : (List.range n).all p = true ↔ ∀ i, i < n → p i = true := by simp
theorem all_range_f {n : Nat} {p : Nat → Bool} {i : Nat} (hi : i < n) (h : p i = false) : (List.range n).all p = false := by
  rw [List.all_eq_false]; exact ⟨i, List.mem_range.2 hi, by simp [h]⟩
theorem pred_nat (i : Nat) : ((i : Int) - 1).toNat = i - 1 := by omega
theorem dc0 (i : Nat) : dc (0 < (i : Int)) = !decide (i = 0) := by
  rw [dc_eq]; by_cases h : i = 0
  · simp [h]
  · have : 0 < (i : Int) := by omega
    simp [h]; omega
/-- one more is seen -/
theorem seenT {p : Nat → Bool} {i : Nat} (h : ∀ j, j < i → p j = true) (hp : p i = true) : ∀ j, j < i + 1 → p j = true := fun j hj => by
  by_cases hji : j < i
  · exact h j hji
  · obtain rfl : j = i := by omega
    exact hp
theorem locAt_not (t : Tr) (i : Nat) : (!nameB (t.locs.getD i default) || dc (0 < (i : Int)) && !ltT (t.locs.getD ((i : Int) - 1).toNat default) (t.locs.getD i default) || !numB (t.init.getD i default)) = !locAt t i := by
  unfold locAt
  rw [pred_nat, dc0]
  cases nameB _ <;> cases decide (i = 0) <;> cases ltT _ _ <;> cases numB _ <;> rfl
theorem aheadN (a p b q : Int) : (dc (b < a) || dc (a = b) && dc (q ≤ p)) = !aheadP a p b q := by
  rw [Bool.eq_iff_iff]
  simp only [aheadP, Bool.or_eq_true, Bool.and_eq_true, Bool.not_eq_true', Bool.or_eq_false_iff, Bool.and_eq_false_iff, dc_true, decide_eq_false_iff_not]
  omega
theorem ahead_not (i : Nat) (a p b q : Int) : (dc (0 < (i : Int)) && (dc (b < a) || dc (a = b) && dc (q ≤ p))) = !(decide (i = 0) || aheadP a p b q) := by
  rw [aheadN, dc0, Bool.not_or]
theorem evOne_not (t : Tr) (x : Ev) : ((!placedB x.thread x.place || dc (x.loc < 0) || dc ((t.locs.length : Int) ≤ x.loc) || !numB x.value || dc (x.reg < 0) || dc (31 < x.reg)) || (!dc (x.dir = 1) && !dc (x.dir = 2) || dc (x.dir = 1) && !dc (x.value = 0) || dc (x.dir = 2) && !dc (x.reg = 0))) = !evOne t x := by
  rw [Bool.eq_iff_iff]
  simp only [evOne, dirB, Bool.or_eq_true, Bool.and_eq_true, Bool.not_eq_true', Bool.or_eq_false_iff, Bool.and_eq_false_iff, dc_true, dc_false, decide_eq_false_iff_not]
  cases placedB x.thread x.place <;> cases numB x.value <;> simp <;> omega
end Go.Tc
namespace Go.Proofs.Ytdpcdbepeemflaa
open Go Go.Eng Go.Tc
attribute [local irreducible] wpList Code.wp bodyPost Exit.then Exit.inBlock Calls

set_option maxHeartbeats 800000 in
theorem tisName_spec (s : ByteArray) (w : World)  :
    Pur Try.prog 64 [.string s] w fun _ v _ => v = .bool (nameB s) := by
  refine enter_pur Try.func64 Try.ntmps64 rfl rfl ?_
  refine gO_ ?_
  refine wc_cond rfl (fun h1 => ?_) (fun h1 => ?_)
  · refine gO_ ?_
    refine pur_ret Try.results64 (.tmp rfl .nil) (.head _) fun w' hw => ?_
    have : nameB s = false := by
      simp only [Bool.or_eq_true, dc_true] at h1
      simp only [nameB, Bool.and_eq_false_iff, decide_eq_false_iff_not]
      omega
    rw [this]; rfl
  · refine gO_ ?_
    simp only [Bool.or_eq_false_iff, dc_false] at h1
    refine wc_loop (fun i : Nat => i ≤ s.size ∧ ∀ j, j < i → chB s j = true) (fun s' => [(3, true, .int .i64 s'), (0, true, .string s)])
      (fun _ => Mem [(w, All)] []) (fun i => s.size - i) (0) ⟨by omega, fun j hj => by omega⟩ ⟨rfl, rfl, trivial⟩ (fun _ h => h.last rfl) ?_
    rintro i ⟨hi, hall⟩
    refine gO_ ?_
    refine wc_cond rfl (fun h2 => ?_) (fun h2 => ?_)
    · have h2' : i < s.size := by rw [dc_true] at h2; omega
      refine gO_ ?_
      refine wc_cond rfl (fun h3 => ?_) (fun h3 => ?_)
      · refine gO_ ?_
        refine pur_ret Try.results64 (.tmp rfl .nil) (.head _) fun w' hw => ?_
        have : nameB s = false := by
          have : chB s i = false := by
            simp only [Bool.or_eq_false_iff, Bool.and_eq_false_iff, Bool.not_eq_true', dc_false] at h3
            simp only [chB, letB, digB, Bool.or_eq_false_iff, Bool.and_eq_false_iff, decide_eq_false_iff_not]
            omega
          simp [nameB, all_range_f h2' this]
        rw [this]; rfl
      · refine gO_ ?_
        refine po_loop ((i + 1)) ⟨by omega, fun j hj => ?_⟩ (by omega) ⟨rfl, rfl, trivial⟩ (fun _ h => h.last rfl)
        by_cases hji : j < i
        · exact hall j hji
        · obtain rfl : j = i := by omega
          simp only [Bool.or_eq_true, Bool.and_eq_true, Bool.not_eq_false', dc_true] at h3
          simp only [chB, letB, digB, Bool.or_eq_true, Bool.and_eq_true, decide_eq_true_eq]
          omega
    · refine gO_ ?_
      refine pur_ret Try.results64 (.tmp rfl .nil) (.head _) fun w' hw => ?_
      have : nameB s = true := by
        rw [dc_false] at h2
        simp only [nameB, Bool.and_eq_true, decide_eq_true_eq, all_range]
        exact ⟨⟨by omega, by omega⟩, fun j hj => hall j (by omega)⟩
      rw [this]; rfl

set_option maxHeartbeats 800000 in
theorem tisNumber_spec (n : Int) (w : World)  :
    Pur Try.prog 65 [.int .i64 n] w fun _ v _ => v = .bool (numB n) := by
  refine enter_pur Try.func65 Try.ntmps65 rfl rfl ?_
  refine gO_ ?_
  refine pur_ret Try.results65 (.tmp rfl .nil) (.head _) fun w' hw => ?_
  simp only [numB, dc_eq]; rfl

set_option maxHeartbeats 800000 in
theorem tplaced_spec (thread : Int) (place : Int) (w : World)  :
    Pur Try.prog 66 [.int .i64 thread, .int .i64 place] w fun _ v _ => v = .bool (placedB thread place) := by
  refine enter_pur Try.func66 Try.ntmps66 rfl rfl ?_
  refine gO_ ?_
  refine pur_ret Try.results66 (.tmp rfl .nil) (.head _) fun w' hw => ?_
  simp only [placedB, dc_eq]; rfl

end Go.Proofs.Ytdpcdbepeemflaa
namespace Go.Proofs.Ytdpcdbepeemflaa
open Go Go.Eng Go.Tc
attribute [local irreducible] wpList Code.wp bodyPost Exit.then Exit.inBlock Calls
set_option maxHeartbeats 1600000 in
theorem tlocated_spec {lv iv ev bv av dv cv tv nv : Value} {t : Tr} (w : World) (h : TrIn All w lv iv ev bv av dv cv tv nv t) :
    Pur Try.prog 46 [.agg #[lv, iv, ev, bv, av, dv, cv, tv, nv]] w fun _ v _ => v = .bool (locatedB t) := by
  have hL := h.locs; have hI := h.init
  have hll := hL.le; have hil := hI.le
  refine enter_pur Try.func46 Try.ntmps46 rfl rfl ?_
  refine gO_ ?_
  refine wl_fx (fx_box (next := ?_)); intro bt
  refine gO_ ?_
  refine wc_cond rfl (fun h1 => ?_) (fun h1 => ?_)
  · refine gO_ ?_
    refine pur_ret Try.results46 (.tmp rfl .nil) (.head _) fun w' hw => ?_
    have : locatedB t = false := by
      simp only [Bool.or_eq_true, Bool.not_eq_true', dc_true, dc_false] at h1
      simp only [locatedB, Bool.and_eq_false_iff, decide_eq_false_iff_not]
      omega
    rw [this]; rfl
  · simp only [Bool.or_eq_false_iff, Bool.not_eq_false', dc_false, dc_true] at h1
    refine gO_ ?_
    refine wc_loop (fun i : Nat => i ≤ t.locs.length ∧ ∀ j, j < i → locAt t j = true) (fun s => [(21, true, .int .i64 s), (20, true, .int .i64 t.locs.length), (19, true, lv), (1, true, .pointer (some ⟨bt, 0, none⟩))])
      (fun s => Mem [(w, All)] [.box bt [lv, iv, ev, bv, av, dv, cv, tv, nv] 30]) (fun i => t.locs.length - i) (0) ⟨by omega, fun j hj => by omega⟩ ⟨rfl, rfl, rfl, rfl, trivial⟩ (fun _ h => h.last rfl) ?_
    rintro i ⟨hi, hall⟩
    refine gO_ ?_
    refine wc_cond rfl (fun h2 => ?_) (fun h2 => ?_)
    · have h2' : i < t.locs.length := by rw [dc_true] at h2; omega
      refine gO_ ?_
      refine wl_fx (fx_call (spec := fun w' hw => tisName_spec _ w') (next := ?_))
      rintro v n1 w1 rfl hn1
      refine gO_ ?_
      refine wl_gx (h := gx_call (spec := fun _ w' hw => tisNumber_spec _ w')) (next := ?_)
      refine gO_ ?_
      refine wc_cond rfl (fun h3 => ?_) (fun h3 => ?_)
      · refine gO_ ?_
        refine pur_ret Try.results46 (.tmp rfl .nil) (.tail _ (.head _)) fun w' hw => ?_
        rw [locAt_not, Bool.not_eq_true'] at h3
        have : locatedB t = false := by simp [locatedB, all_range_f h2' h3]
        rw [this]; rfl
      · refine gO_ ?_
        rw [locAt_not, Bool.not_eq_false'] at h3
        exact po_loop ((i + 1)) ⟨by omega, seenT hall h3⟩ (by omega) ⟨rfl, rfl, rfl, rfl, trivial⟩ (fun _ h => h.last rfl)
    · refine gO_ ?_
      refine pur_ret Try.results46 (.tmp rfl .nil) (.head _) fun w' hw => ?_
      have : locatedB t = true := by
        rw [dc_false] at h2
        simp only [locatedB, Bool.and_eq_true, decide_eq_true_eq, all_range]
        exact ⟨⟨by omega, by omega⟩, fun j hj => hall j (by omega)⟩
      rw [this]; rfl
end Go.Proofs.Ytdpcdbepeemflaa
namespace Go.Proofs.Ytdpcdbepeemflaa
open Go Go.Eng Go.Tc
attribute [local irreducible] wpList Code.wp bodyPost Exit.then Exit.inBlock Calls
set_option maxHeartbeats 1600000 in
theorem tevented_spec {lv iv ev bv av dv cv tv nv : Value} {t : Tr} (w : World) (h : TrIn All w lv iv ev bv av dv cv tv nv t) :
    Pur Try.prog 47 [.agg #[lv, iv, ev, bv, av, dv, cv, tv, nv]] w fun _ v _ => v = .bool (eventedB t) := by
  have hL := h.locs; have hE := h.evs
  have hll := hL.le; have hel := hE.le
  refine enter_pur Try.func47 Try.ntmps47 rfl rfl ?_
  refine gO_ ?_
  refine wl_fx (fx_box (next := ?_)); intro bt
  refine gO_ ?_
  refine wc_cond rfl (fun h1 => ?_) (fun h1 => ?_)
  · refine gO_ ?_
    refine pur_ret Try.results47 (.tmp rfl .nil) (.head _) fun w' hw => ?_
    have : eventedB t = false := by
      rw [dc_true] at h1
      simp only [eventedB, Bool.and_eq_false_iff, decide_eq_false_iff_not]
      omega
    rw [this]; rfl
  · rw [dc_false] at h1
    refine gO_ ?_
    refine wc_loop (fun i : Nat => i ≤ t.evs.length ∧ ∀ j, j < i → evAt t j = true) (fun s => [(12, true, .int .i64 s), (11, true, .int .i64 t.evs.length), (10, true, ev), (1, true, .pointer (some ⟨bt, 0, none⟩))])
      (fun s => Mem [(w, All)] [.box bt [lv, iv, ev, bv, av, dv, cv, tv, nv] 30]) (fun s => t.evs.length - s) (0) ⟨by omega, fun j hj => by omega⟩ ⟨rfl, rfl, rfl, rfl, trivial⟩ (fun _ h => h.last rfl) ?_
    rintro i ⟨hi, hall⟩
    refine gO_ ?_
    refine wc_cond rfl (fun h2 => ?_) (fun h2 => ?_)
    · have h2' : i < t.evs.length := by rw [dc_true] at h2; omega
      refine gO_ ?_
      refine wl_fx (fx_alloc (next := ?_)); intro be
      refine gO_ ?_
      refine wl_fx (fx_store_box (i := 0) (hi := rfl) (next := ?_))
      refine gO_ ?_
      refine wl_fx (fx_call (spec := fun w' hw => tplaced_spec _ _ w') (next := ?_))
      rintro v n1 w1 rfl hn1
      refine gO_ ?_
      refine wl_gx (h := gx_call (spec := fun _ w' hw => tisNumber_spec _ w')) (next := ?_)
      refine gO_ ?_
      refine wc_cond rfl (fun h3 => ?_) (fun h3 => ?_)
      · refine gO_ ?_
        refine pur_ret Try.results47 (.tmp rfl .nil) (.tail _ (.head _)) fun w' hw => ?_
        have he := evOne_not t (t.evs.getD i default)
        rw [h3, Bool.true_or] at he
        have he' : evAt t i = false := by rw [evAt, show evOne t (t.evs.getD i default) = false by simpa using he.symm, Bool.false_and]
        have : eventedB t = false := by simp [eventedB, all_range_f h2' he']
        rw [this]; rfl
      · refine gO_ ?_
        refine wc_cond rfl (fun h4 => ?_) (fun h4 => ?_)
        · refine gO_ ?_
          refine pur_ret Try.results47 (.tmp rfl .nil) (.tail _ (.head _)) fun w' hw => ?_
          have he := evOne_not t (t.evs.getD i default)
          rw [h4, Bool.or_true] at he
          have he' : evAt t i = false := by rw [evAt, show evOne t (t.evs.getD i default) = false by simpa using he.symm, Bool.false_and]
          have : eventedB t = false := by simp [eventedB, all_range_f h2' he']
          rw [this]; rfl
        · refine gO_ ?_
          refine wc_draw [0, 1, 2, 3, 4, 5, 6, 7, 8, 9, 10, 11, 12, 13, 14, 15, 16, 17, 18, 19, 20, 21, 22, 23, 24, 25, 26, 27, 28, 29, 30, 31, 32, 33, 34, 35, 36, 37] mixed ?_
          refine kG_ ?_
          refine gO_ ?_
          refine wc_cond rfl (fun h5 => ?_) (fun h5 => ?_)
          · refine gO_ ?_
            refine pur_ret Try.results47 (.tmp rfl .nil) (.tail _ (.head _)) fun w' hw => ?_
            rw [pred_nat, ahead_not, Bool.not_eq_true'] at h5
            have he' : evAt t i = false := by rw [evAt, h5, Bool.and_false]
            have : eventedB t = false := by simp [eventedB, all_range_f h2' he']
            rw [this]; rfl
          · refine gO_ ?_
            have he := evOne_not t (t.evs.getD i default)
            rw [h3, h4, Bool.or_false, Bool.false_eq, Bool.not_eq_false'] at he
            rw [pred_nat, ahead_not, Bool.not_eq_false'] at h5
            exact po_loop ((i + 1)) ⟨by omega, seenT hall (by rw [evAt, he, h5]; rfl)⟩ (by omega) ⟨rfl, rfl, rfl, rfl, trivial⟩ (fun _ h => (h.last rfl).sel [1] rfl (by decide))
    · refine gO_ ?_
      refine pur_ret Try.results47 (.tmp rfl .nil) (.head _) fun w' hw => ?_
      have : eventedB t = true := by
        rw [dc_false] at h2
        simp only [eventedB, Bool.and_eq_true, decide_eq_true_eq, all_range]
        exact ⟨by omega, fun j hj => hall j (by omega)⟩
      rw [this]; rfl
end Go.Proofs.Ytdpcdbepeemflaa
end

section
/- The walks: trace.barred, paired. -/
namespace Go.Tc
open Go Go.Eng
theorem barOne_not (x : Bar) : (!placedB x.thread x.place || dc (x.fence < 1) || dc (11 < x.fence)) = !(placedB x.thread x.place && decide (1 ≤ x.fence) && decide (x.fence ≤ 11)) := by
  rw [Bool.eq_iff_iff]
  simp only [Bool.or_eq_true, Bool.and_eq_true, Bool.not_eq_true', Bool.or_eq_false_iff, Bool.and_eq_false_iff, dc_true, dc_false, decide_eq_false_iff_not]
  cases placedB x.thread x.place <;> simp <;> omega
def offAt (t : Tr) (b : Bar) (k : Nat) : Bool := !(decide ((t.evs.getD k default).thread = b.thread) && decide ((t.evs.getD k default).place = b.place))
theorem barOff_eq (t : Tr) (b : Bar) : barOff t b = (List.range t.evs.length).all (offAt t b) := rfl
theorem offAt_not (t : Tr) (b : Bar) (k : Nat) : (dc ((t.evs.getD k default).thread = b.thread) && dc ((t.evs.getD k default).place = b.place)) = !offAt t b k := by
  rw [offAt, Bool.not_not, dc_eq, dc_eq]
theorem pairOne_not (t : Tr) (w : Bool) (p : Pair) : (dc (p.A < 0) || dc (p.B ≤ p.A) || dc ((t.evs.length : Int) ≤ p.B) || !dc ((t.evs.getD p.A.toNat default).dir = 1) || !dc ((t.evs.getD p.A.toNat default).thread = (t.evs.getD p.B.toNat default).thread) || w && !dc ((t.evs.getD p.B.toNat default).dir = 2)) = !pairOne t w p := by
  rw [Bool.eq_iff_iff]
  simp only [pairOne, ev, Bool.or_eq_true, Bool.and_eq_true, Bool.not_eq_true', Bool.or_eq_false_iff, Bool.and_eq_false_iff, dc_true, dc_false, decide_eq_false_iff_not]
  cases w <;> simp <;> omega
end Go.Tc
namespace Go.Proofs.Ytdpcdbepeemflaa
open Go Go.Eng Go.Tc
attribute [local irreducible] wpList Code.wp bodyPost Exit.then Exit.inBlock Calls

set_option maxHeartbeats 1600000 in
theorem tbarred_spec {lv iv ev bv av dv cv tv nv : Value} {t : Tr} (w : World) (h : TrIn All w lv iv ev bv av dv cv tv nv t) :
    Pur Try.prog 48 [.agg #[lv, iv, ev, bv, av, dv, cv, tv, nv]] w fun _ v _ => v = .bool (barsOkB t) := by
  have hB := h.bars; have hE := h.evs
  have hbl := hB.le; have hel := hE.le
  refine enter_pur Try.func48 Try.ntmps48 rfl rfl ?_
  refine gO_ ?_
  refine wl_fx (fx_box (next := ?_)); intro bt
  refine gO_ ?_
  refine wc_cond rfl (fun h1 => ?_) (fun h1 => ?_)
  · refine gO_ ?_
    refine pur_ret Try.results48 (.tmp rfl .nil) (.head _) fun w' hw => ?_
    have : barsOkB t = false := by
      rw [dc_true] at h1
      simp only [barsOkB, Bool.and_eq_false_iff, decide_eq_false_iff_not]
      omega
    rw [this]; rfl
  · rw [dc_false] at h1
    refine gO_ ?_
    refine wc_loop (fun i : Nat => i ≤ t.bars.length ∧ ∀ j, j < i → barAt t j = true) (fun s => [(14, true, .int .i64 s), (13, true, .int .i64 t.bars.length), (12, true, bv), (1, true, .pointer (some ⟨bt, 0, none⟩))])
      (fun s => Mem [(w, All)] [.box bt [lv, iv, ev, bv, av, dv, cv, tv, nv] 30]) (fun s => t.bars.length - s) (0) ⟨by omega, fun j hj => by omega⟩ ⟨rfl, rfl, rfl, rfl, trivial⟩ (fun _ h => h.last rfl) ?_
    rintro i ⟨hi, hall⟩
    refine gO_ ?_
    refine wc_cond rfl (fun h2 => ?_) (fun h2 => ?_)
    · have h2' : i < t.bars.length := by rw [dc_true] at h2; omega
      refine gO_ ?_
      refine wl_fx (fx_alloc (next := ?_)); intro bb
      refine gO_ ?_
      refine wl_fx (fx_store_box (i := 0) (hi := rfl) (next := ?_))
      refine gO_ ?_
      refine wl_fx (fx_call (spec := fun w' hw => tplaced_spec _ _ w') (next := ?_))
      rintro v n1 w1 rfl hn1
      refine gO_ ?_
      refine wc_cond rfl (fun h3 => ?_) (fun h3 => ?_)
      · refine gO_ ?_
        refine pur_ret Try.results48 (.tmp rfl .nil) (.tail _ (.head _)) fun w' hw => ?_
        rw [barOne_not, Bool.not_eq_true'] at h3
        have he' : barAt t i = false := by rw [barAt, h3, Bool.false_and, Bool.false_and]
        have : barsOkB t = false := by simp [barsOkB, all_range_f h2' he']
        rw [this]; rfl
      · rw [barOne_not, Bool.not_eq_false'] at h3
        refine gO_ ?_
        refine wc_draw [0, 1, 2, 3, 4, 5, 6, 7, 8, 9, 10, 11, 12, 13, 14, 15, 16, 17, 18, 19, 20, 21, 22, 23, 24, 25, 26, 27, 28, 29, 30, 31, 32, 33, 34, 35, 36, 37] mixed ?_
        refine kG_ ?_
        refine gO_ ?_
        refine wc_cond rfl (fun h4 => ?_) (fun h4 => ?_)
        · refine gO_ ?_
          refine pur_ret Try.results48 (.tmp rfl .nil) (.tail _ (.head _)) fun w' hw => ?_
          rw [pred_nat, ahead_not, Bool.not_eq_true'] at h4
          have he' : barAt t i = false := by rw [barAt, h4, Bool.and_false, Bool.false_and]
          have : barsOkB t = false := by simp [barsOkB, all_range_f h2' he']
          rw [this]; rfl
        · rw [pred_nat, ahead_not, Bool.not_eq_false'] at h4
          refine gO_ ?_
          refine wc_loop (fun k : Nat => k ≤ t.evs.length ∧ ∀ j, j < k → offAt t (t.bars.getD i default) j = true) (fun s => [(76, true, .int .i64 s), (75, true, .int .i64 t.evs.length), (74, true, ev), (14, true, .int .i64 i), (13, true, .int .i64 t.bars.length), (12, true, bv), (4, true, .pointer (some ⟨bb, 0, none⟩)), (1, true, .pointer (some ⟨bt, 0, none⟩))])
            (fun s => Mem [(w, All)] [.box bb [.int .i64 (t.bars.getD i default).thread, .int .i64 (t.bars.getD i default).place, .int .i64 (t.bars.getD i default).fence] 98, .box bt [lv, iv, ev, bv, av, dv, cv, tv, nv] 30]) (fun s => t.evs.length - s) (0) ⟨by omega, fun j hj => by omega⟩ ⟨rfl, rfl, rfl, rfl, rfl, rfl, rfl, rfl, trivial⟩ (fun _ h => h.last rfl) ?_
          rintro k ⟨hk, hoff⟩
          refine gO_ ?_
          refine wc_cond rfl (fun h5 => ?_) (fun h5 => ?_)
          · have h5' : k < t.evs.length := by rw [dc_true] at h5; omega
            refine gO_ ?_
            refine wl_fx (fx_alloc (next := ?_)); intro be
            refine gO_ ?_
            refine wl_fx (fx_store_box (i := 0) (hi := rfl) (next := ?_))
            refine gO_ ?_
            refine wc_cond rfl (fun h6 => ?_) (fun h6 => ?_)
            · refine gO_ ?_
              refine pur_ret Try.results48 (.tmp rfl .nil) (.head _) fun w' hw => ?_
              rw [offAt_not, Bool.not_eq_true'] at h6
              have he' : barAt t i = false := by rw [barAt, barOff_eq, all_range_f h5' h6, Bool.and_false]
              have : barsOkB t = false := by simp [barsOkB, all_range_f h2' he']
              rw [this]; rfl
            · rw [offAt_not, Bool.not_eq_false'] at h6
              refine gO_ ?_
              exact po_loop ((k + 1)) ⟨by omega, seenT hoff h6⟩ (by omega) ⟨rfl, rfl, rfl, rfl, rfl, rfl, rfl, rfl, trivial⟩ (fun _ h => h.sel [1, 2] rfl (by decide))
          · rw [dc_false] at h5
            have he : barAt t i = true := by
              rw [barAt, h3, h4, barOff_eq, all_range.2 fun j hj => hoff j (by omega)]; rfl
            refine gO_ ?_
            exact po_loop ((i + 1)) ⟨by omega, seenT hall he⟩ (by omega) ⟨rfl, rfl, rfl, rfl, trivial⟩ (fun _ h => (h.last rfl).sel [1] rfl (by decide))
    · refine gO_ ?_
      refine pur_ret Try.results48 (.tmp rfl .nil) (.head _) fun w' hw => ?_
      have : barsOkB t = true := by
        rw [dc_false] at h2
        simp only [barsOkB, Bool.and_eq_true, decide_eq_true_eq, all_range]
        exact ⟨by omega, fun j hj => hall j (by omega)⟩
      rw [this]; rfl

set_option maxHeartbeats 1600000 in
theorem tpaired_spec {lv iv ev bv av dv cv tv nv : Value} {t : Tr} (pv : Value) (l : List Pair) (wr : Bool) (w : World) (h : TrIn All w lv iv ev bv av dv cv tv nv t) (hl : Sl All w encPair 2 pv l) :
    Pur Try.prog 49 [.agg #[lv, iv, ev, bv, av, dv, cv, tv, nv], pv, .bool wr] w fun _ v _ => v = .bool (pairedB t l wr) := by
  have hE := h.evs
  have hel := hE.le; have hll := hl.le
  refine enter_pur Try.func49 Try.ntmps49 rfl rfl ?_
  refine gO_ ?_
  refine wl_fx (fx_box (next := ?_)); intro bt
  refine gO_ ?_
  refine wc_loop (fun i : Nat => i ≤ l.length ∧ ∀ j, j < i → pairAt t l wr j = true) (fun s => [(15, true, .int .i64 s), (14, true, .int .i64 l.length), (13, true, pv), (7, true, .int .i64 t.evs.length), (3, true, .pointer (some ⟨bt, 0, none⟩)), (2, true, .bool wr), (1, true, pv)])
    (fun s => Mem [(w, All)] [.box bt [lv, iv, ev, bv, av, dv, cv, tv, nv] 30]) (fun s => l.length - s) (0) ⟨by omega, fun j hj => by omega⟩ ⟨rfl, rfl, rfl, rfl, rfl, rfl, rfl, trivial⟩ (fun _ h => h.last rfl) ?_
  rintro i ⟨hi, hall⟩
  refine gO_ ?_
  refine wc_cond rfl (fun h1 => ?_) (fun h1 => ?_)
  · have h1' : i < l.length := by rw [dc_true] at h1; omega
    refine gO_ ?_
    refine wl_fx (fx_alloc (next := ?_)); intro bp
    refine gO_ ?_
    refine wl_fx (fx_store_box (i := 0) (hi := rfl) (next := ?_))
    refine gO_ ?_
    refine wc_draw [0, 1, 2, 3, 4, 5, 6, 7, 8, 9, 10, 11, 12, 13, 14, 15, 16, 17, 18, 19, 20, 21, 22, 23, 24, 25, 26, 27, 28, 29, 30, 31, 32, 33, 34, 35, 36, 37, 38, 39, 40, 41, 42, 43, 44, 45, 46, 47, 48, 49, 50, 51, 52, 53, 54, 55] mixed ?_
    refine kG_ ?_
    refine gO_ ?_
    refine wc_cond rfl (fun h2 => ?_) (fun h2 => ?_)
    · refine gO_ ?_
      refine pur_ret Try.results49 (.tmp rfl .nil) (.head _) fun w' hw => ?_
      rw [pairOne_not, Bool.not_eq_true'] at h2
      have he' : pairAt t l wr i = false := by rw [pairAt, h2, Bool.false_and]
      have : pairedB t l wr = false := by simp [pairedB, all_range_f h1' he']
      rw [this]; rfl
    · rw [pairOne_not, Bool.not_eq_false'] at h2
      refine gO_ ?_
      refine wc_draw [0, 1, 2, 3, 4, 5, 6, 7, 8, 9, 10, 11, 12, 13, 14, 15, 16, 17, 18, 19, 20, 21, 22, 23, 24, 25, 26, 27, 28, 29, 30, 31, 32, 33, 34] mixed ?_
      refine kG_ ?_
      refine gO_ ?_
      refine wc_cond rfl (fun h3 => ?_) (fun h3 => ?_)
      · refine gO_ ?_
        refine pur_ret Try.results49 (.tmp rfl .nil) (.head _) fun w' hw => ?_
        rw [pred_nat, ahead_not, Bool.not_eq_true'] at h3
        have he' : pairAt t l wr i = false := by rw [pairAt, h3, Bool.and_false]
        have : pairedB t l wr = false := by simp [pairedB, all_range_f h1' he']
        rw [this]; rfl
      · rw [pred_nat, ahead_not, Bool.not_eq_false'] at h3
        refine gO_ ?_
        exact po_loop ((i + 1)) ⟨by omega, seenT hall (by rw [pairAt, h2, h3]; rfl)⟩ (by omega) ⟨rfl, rfl, rfl, rfl, rfl, rfl, rfl, trivial⟩ (fun _ h => h.sel [1] rfl (by decide))
  · refine gO_ ?_
    refine pur_ret Try.results49 (.tmp rfl .nil) (.head _) fun w' hw => ?_
    have : pairedB t l wr = true := by
      rw [dc_false] at h1
      simp only [pairedB, all_range]
      exact fun j hj => hall j (by omega)
    rw [this]; rfl
end Go.Proofs.Ytdpcdbepeemflaa
end

section
/- The walks: BinarySearch of names, trace.ahead, ended. -/
namespace Go.Tc
open Go Go.Eng
theorem bl_irrefl : ∀ x : List UInt8, Op.bytesLess x x = false
  | [] => rfl
  | a :: x => by simp [Op.bytesLess, bl_irrefl x, UInt8.lt_irrefl]
theorem bl_trans : ∀ x y z : List UInt8, Op.bytesLess x y = true → Op.bytesLess y z = true → Op.bytesLess x z = true
  | [], [], _, h, _ => by simp [Op.bytesLess] at h
  | [], _ :: _, [], _, h => by simp [Op.bytesLess] at h
  | [], _ :: _, _ :: _, _, _ => by simp [Op.bytesLess]
  | _ :: _, [], _, h, _ => by simp [Op.bytesLess] at h
  | _ :: _, _ :: _, [], _, h => by simp [Op.bytesLess] at h
  | a :: x, b :: y, c :: z, h1, h2 => by
    simp only [Op.bytesLess, Bool.or_eq_true, Bool.and_eq_true, decide_eq_true_eq, beq_iff_eq] at h1 h2 ⊢
    rcases h1 with h1 | ⟨rfl, h1⟩
    · rcases h2 with h2 | ⟨rfl, h2⟩
      · exact .inl (UInt8.lt_trans h1 h2)
      · exact .inl h1
    · rcases h2 with h2 | ⟨rfl, h2⟩
      · exact .inl h2
      · exact .inr ⟨rfl, bl_trans x y z h1 h2⟩
theorem ltT_irrefl (s : ByteArray) : ltT s s = false := bl_irrefl _
theorem ltT_trans {s u v : ByteArray} (h1 : ltT s u = true) (h2 : ltT u v = true) : ltT s v = true := bl_trans _ _ _ h1 h2
def Up (xs : List ByteArray) : Prop := ∀ i, 0 < i → i < xs.length → ltT (xs.getD (i - 1) default) (xs.getD i default) = true
theorem Up.lt {xs : List ByteArray} (h : Up xs) (i : Nat) : ∀ j, i < j → j < xs.length → ltT (xs.getD i default) (xs.getD j default) = true
  | 0, hij, _ => by omega
  | j + 1, hij, hj => by
    have h1 := h (j + 1) (by omega) hj
    by_cases he : i = j
    · subst he; exact h1
    · exact ltT_trans (h.lt i j (by omega) (by omega)) h1
theorem Up.uniq {xs : List ByteArray} (h : Up xs) {i j : Nat} {s : ByteArray} (hi : i < xs.length) (hj : j < xs.length) (h1 : xs.getD i default = s) (h2 : xs.getD j default = s) : i = j := by
  rcases Nat.lt_trichotomy i j with h3 | h3 | h3
  · have := h.lt i j h3 hj; rw [h1, h2, ltT_irrefl] at this; cases this
  · exact h3
  · have := h.lt j i h3 hi; rw [h1, h2, ltT_irrefl] at this; cases this
theorem locatedB_up {t : Tr} (h : locatedB t = true) : Up t.locs ∧ t.locs.length ≤ 64 := by
  simp only [locatedB, Bool.and_eq_true, decide_eq_true_eq, all_range] at h
  refine ⟨fun i h0 hi => ?_, h.1.1⟩
  have := h.2 i hi
  simp only [locAt, Bool.and_eq_true, Bool.or_eq_true, decide_eq_true_eq] at this
  rcases this.1.2 with h1 | h1
  · omega
  · exact h1
/-- where a name stands -/
def Stands (xs : List ByteArray) (s : ByteArray) (k : Nat) (b : Bool) : Prop := (b = true → k < xs.length ∧ xs.getD k default = s) ∧ (b = false → ∀ q, q < xs.length → xs.getD q default ≠ s)
theorem stands {xs : List ByteArray} {s : ByteArray} (hu : Up xs) {i : Nat} (hi : i ≤ xs.length) (h1 : ∀ q, q < i → ltT (xs.getD q default) s = true) (h2 : ∀ q, i ≤ q → q < xs.length → ltT (xs.getD q default) s = false) :
    Stands xs s i (dc ((i : Int) < (xs.length : Int)) && (dc (xs.getD i default = s) || false && false)) := by
  refine ⟨fun h => ?_, fun h q hq he => ?_⟩
  · simp only [Bool.and_eq_true, Bool.or_eq_true, dc_true] at h
    exact ⟨by omega, h.2.resolve_right (by simp)⟩
  · simp only [Bool.and_eq_false_iff, Bool.or_eq_false_iff, dc_false] at h
    rcases Nat.lt_trichotomy q i with h3 | h3 | h3
    · have := h1 q h3; rw [he, ltT_irrefl] at this; cases this
    · subst h3
      rcases h with h | h
      · omega
      · exact h.1 he
    · have h4 := h2 i (Nat.le_refl _) (by omega)
      have h5 := hu.lt i q h3 hq
      rw [he, h4] at h5; cases h5
theorem locEnd_eq {t : Tr} (hu : Up t.locs) (x : Thing) (e : EndT) {k : Nat} {b : Bool} (h : Stands t.locs x.loc k b) :
    (b && dc (x.reg = 0) && dc (e.kind = 3) && dc (e.n = (k : Int))) = locEnd t x e := by
  unfold locEnd
  cases hb : t.locs.findIdx? (fun s => decide (s = x.loc)) with
  | none =>
    cases b with
    | false => rfl
    | true =>
      obtain ⟨h1, h2⟩ := h.1 rfl
      rw [List.findIdx?_eq_none_iff] at hb
      have := hb _ (List.mem_of_getElem? (getD_some h1))
      rw [h2] at this; simp at this
  | some q =>
    rw [List.findIdx?_eq_some_iff_getElem] at hb
    obtain ⟨h1, h2, h3⟩ := hb
    have hq : t.locs.getD q default = x.loc := by
      rw [List.getD_eq_getElem?_getD, List.getElem?_eq_getElem h1, Option.getD_some]; simpa using h2
    cases b with
    | false => exact absurd hq (h.2 rfl q h1)
    | true =>
      obtain ⟨h4, h5⟩ := h.1 rfl
      obtain rfl := hu.uniq h1 h4 hq h5
      simp only [Bool.true_and, dc_eq]
theorem mid_nat {i j : Nat} (h1 : i < j) (h2 : j ≤ 1000000) : (BitVec.ofInt 64 ((i : Int) + (j : Int)) >>> (1#64).toNat).toNat = (i + j) / 2 := by
  have : (BitVec.ofInt 64 ((i : Int) + (j : Int))).toNat = i + j := by simp; omega
  rw [BitVec.toNat_ushiftRight, this, Nat.shiftRight_eq_div_pow]; rfl
theorem aheadT_eq (a b : Thing) : (if (dc (a.thread = -1) || dc (b.thread = -1)) = true then !dc (a.thread = -1) || dc (b.thread = -1) && ltT a.loc b.loc else if dc (a.thread = b.thread) = true then dc (a.reg < b.reg) else dc (a.thread < b.thread)) = aheadT a b := by
  unfold aheadT
  simp only [Bool.or_eq_true, dc_eq, decide_eq_true_eq]
end Go.Tc
namespace Go.Proofs.Ytdpcdbepeemflaa
open Go Go.Eng Go.Tc
attribute [local irreducible] wpList Code.wp bodyPost Exit.then Exit.inBlock Calls

set_option maxHeartbeats 800000 in
theorem snan_spec (x : ByteArray) (w : World)  :
    Pur Try.prog 76 [.string x] w fun _ v _ => v = .bool false := by
  refine enter_pur Try.func76 Try.ntmps76 rfl rfl ?_
  refine gO_ ?_
  refine pur_ret Try.results76 (.tmp rfl .nil) (.head _) fun w' hw => ?_
  simp [dc_eq]; rfl
set_option maxHeartbeats 800000 in
theorem cnan_spec (x : ByteArray) (w : World)  :
    Pur Try.prog 82 [.string x] w fun _ v _ => v = .bool false := by
  refine enter_pur Try.func82 Try.ntmps82 rfl rfl ?_
  refine gO_ ?_
  refine pur_ret Try.results82 (.tmp rfl .nil) (.head _) fun w' hw => ?_
  simp [dc_eq]; rfl
set_option maxHeartbeats 800000 in
theorem cless_spec (x : ByteArray) (y : ByteArray) (w : World)  :
    Pur Try.prog 75 [.string x, .string y] w fun _ v _ => v = .bool (ltT x y) := by
  refine enter_pur Try.func75 Try.ntmps75 rfl rfl ?_
  refine gO_ ?_
  refine wl_fx (fx_call (spec := fun w' hw => cnan_spec _ w') (next := ?_))
  rintro v n1 w1 rfl hn1
  refine gO_ ?_
  refine wl_gx (h := gx_call (spec := fun _ w' hw => cnan_spec _ w')) (next := ?_)
  refine gO_ ?_
  refine pur_ret Try.results75 (.tmp rfl .nil) (.tail _ (.head _)) fun w' hw => ?_
  simp; rfl

set_option maxHeartbeats 800000 in
theorem bsearch_spec (xv : Value) (target : ByteArray) (xs : List ByteArray) (w : World) (hx : Sl All w encT 1 xv xs) (hu : Up xs) (hb : xs.length ≤ 1000000) :
    Pur Try.prog 67 [xv, .string target] w fun _ v _ => ∃ k : Nat, ∃ b : Bool, v = .tuple #[.int .i64 (k : Int), .bool b] ∧ Stands xs target k b := by
  have hl := hx.le
  refine enter_pur Try.func67 Try.ntmps67 rfl rfl ?_
  refine gO_ ?_
  refine wc_loop (fun s : Nat × Nat => s.2 ≤ s.1 ∧ s.1 ≤ xs.length ∧ (∀ q, q < s.2 → ltT (xs.getD q default) target = true) ∧ (∀ q, s.1 ≤ q → q < xs.length → ltT (xs.getD q default) target = false)) (fun s => [(8, true, .int .i64 s.1), (7, true, .int .i64 s.2), (6, true, .int .i64 xs.length), (1, true, .string target), (0, true, xv)])
    (fun s => Mem [(w, All)] []) (fun s => s.1 - s.2) (xs.length, 0) ⟨by omega, by omega, fun q hq => absurd hq (by simp), fun q hq hq' => absurd hq (by simp only; omega)⟩ ⟨rfl, rfl, rfl, rfl, rfl, trivial⟩ (fun _ h => h.last rfl) ?_
  rintro ⟨j, i⟩ ⟨hij, hj, hlo, hhi⟩
  dsimp only at hj hij hlo hhi ⊢
  refine gO_ ?_
  refine wc_cond rfl (fun h1 => ?_) (fun h1 => ?_)
  · rw [dc_true] at h1
    have hm := mid_nat (i := i) (j := j) (by omega) (by omega)
    have hm2 : (i + j) / 2 < xs.length := by omega
    have hm3 : (BitVec.ofInt 64 ((i : Int) + (j : Int)) >>> (1#64).toNat).toNat < 9223372036854775808 := by rw [hm]; omega
    have hm4 : (BitVec.ofInt 64 ((i : Int) + (j : Int)) >>> (1#64).toNat).toNat < xs.length := by rw [hm]; omega
    refine gO_ ?_
    refine wl_fx (fx_call (spec := fun w' hw => cless_spec _ _ w') (next := ?_))
    rintro v n1 w1 rfl hn1
    rw [hm]
    refine gO_ ?_
    refine wc_cond rfl (fun h2 => ?_) (fun h2 => ?_)
    · refine gO_ ?_
      refine po_loop (j, (i + j) / 2 + 1) ⟨by simp only; omega, hj, fun q hq => ?_, hhi⟩ (by omega) ⟨rfl, rfl, rfl, rfl, rfl, trivial⟩ (fun _ h => h.last rfl)
      simp only at hq
      by_cases hq2 : q = (i + j) / 2
      · rw [hq2]; exact h2
      · exact ltT_trans (hu.lt q _ (by omega) hm2) h2
    · refine gO_ ?_
      refine po_loop ((i + j) / 2, i) ⟨by simp only; omega, by simp only; omega, hlo, fun q hq hq' => ?_⟩ (by omega) ⟨rfl, rfl, rfl, rfl, rfl, trivial⟩ (fun _ h => h.last rfl)
      simp only at hq
      by_cases hq2 : q = (i + j) / 2
      · rw [hq2]; exact h2
      · refine Bool.eq_false_iff.2 fun h3 => ?_
        rw [ltT_trans (hu.lt _ q (by omega) hq') h3] at h2
        cases h2
  · rw [dc_false] at h1
    obtain rfl : i = j := by omega
    refine gO_ ?_
    refine wl_gx (h := gx_call (spec := fun _ w' hw => snan_spec _ w')) (next := ?_)
    refine gO_ ?_
    refine wl_gx (h := gx_call (spec := fun _ w' hw => snan_spec _ w')) (next := ?_)
    refine gO_ ?_
    refine pur_ret Try.results67 (.tmp rfl (.tmp rfl .nil)) (.head _) fun w' hw => ?_
    exact ⟨i, _, rfl, stands hu hj hlo hhi⟩

set_option maxHeartbeats 800000 in
theorem tahead_spec (a b : Thing) (w : World)  :
    Pur Try.prog 51 [.agg #[.int .i64 a.thread, .int .i64 a.reg, .string a.loc], .agg #[.int .i64 b.thread, .int .i64 b.reg, .string b.loc]] w fun _ v _ => v = .bool (aheadT a b) := by
  refine enter_pur Try.func51 Try.ntmps51 rfl rfl ?_
  refine gO_ ?_
  refine wl_fx (fx_box (next := ?_)); intro ba
  refine gO_ ?_
  refine wl_fx (fx_box (next := ?_)); intro bb
  refine gO_ ?_
  refine wc_cond rfl (fun h1 => ?_) (fun h1 => ?_)
  · refine gO_ ?_
    refine pur_ret Try.results51 (.tmp rfl .nil) (.head _) fun w' hw => ?_
    rw [← aheadT_eq, if_pos h1]; rfl
  · refine gO_ ?_
    refine wc_cond rfl (fun h2 => ?_) (fun h2 => ?_)
    · refine gO_ ?_
      refine pur_ret Try.results51 (.tmp rfl .nil) (.head _) fun w' hw => ?_
      rw [Bool.not_eq_true'] at h2
      rw [← aheadT_eq, if_neg (by rw [h1]; simp), if_neg (by rw [h2]; simp)]; rfl
    · refine gO_ ?_
      refine pur_ret Try.results51 (.tmp rfl .nil) (.head _) fun w' hw => ?_
      rw [Bool.not_eq_false'] at h2
      rw [← aheadT_eq, if_neg (by rw [h1]; simp), if_pos h2]; rfl
end Go.Proofs.Ytdpcdbepeemflaa
end
