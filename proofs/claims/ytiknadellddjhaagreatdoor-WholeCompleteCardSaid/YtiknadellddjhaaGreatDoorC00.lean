/- Lemmas for the law WholeComplete. -/
import Derived.WalkKit
import Derived.OrdersHeld
set_option linter.all false
namespace Go
def apD:=@Array.getElem?_eq_none
def aqe:=@Array.getElem?_eq_some_iff
def aqP:=@Array.getElem?_toList
def aqE:=@Array.length_toList
def aqb:=@BitVec.eq_of_getLsbD_eq
def aqc:=@BitVec.getLsbD_and
def aqa:=@BitVec.getLsbD_one
def ap2:=@BitVec.getLsbD_or
def apX:=@BitVec.getLsbD_shiftLeft
def ap5:=@BitVec.getLsbD_ushiftRight
def aqo:=@BitVec.getLsbD_zero
def aqv:=@BitVec.ofInt_natCast
def aq8:=@BitVec.toInt_ofInt
def apB:=@BitVec.zero_shiftLeft
def aoC:=@Bool.and_eq_false_iff
def aoo:=@Bool.and_eq_true
def apu:=@Bool.and_false
def aqx:=@Bool.and_true
def aoW:=@Bool.eq_false_iff
def aoR:=@Bool.eq_iff_iff
def apy:=@Bool.false_and
def aqL:=@Bool.false_eq_true
def apK:=@Bool.false_ne_true
def ap6:=@Bool.false_or
def aos:=@Bool.not_eq_false'
def apS:=@Bool.not_eq_true
def aoq:=@Bool.not_eq_true'
def aoz:=@Bool.or_eq_false_iff
def aox:=@Bool.or_eq_true
def aq1:=@Bool.or_false
def aqZ:=@Bool.or_true
def apE:=@Bool.true_and
def aqh:=@ByteArray.size_extract
def ao0:=@Classical.byContradiction
def aq5:=@Classical.epsilon_spec
def aoF:=@Int.toNat_natCast
def apL:=@List.Pairwise.filter
def ap1:=@List.Pairwise.imp
def apY:=@List.Pairwise.imp_of_mem
def apt:=@List.all_eq_true
def aqp:=@List.any_eq_false
def apH:=@List.any_eq_true
def aoP:=@List.append_assoc
def aoH:=@List.append_nil
def aqT:=@List.cons.injEq
def aqu:=@List.cons_append
def aqQ:=@List.drop_eq_getElem_cons
def apT:=@List.drop_length
def aqg:=@List.drop_of_length_le
def aqB:=@List.drop_zero
def aoY:=@List.eq_nil_of_length_eq_zero
def aqs:=@List.eq_of_mem_replicate
def aqq:=@List.eraseIdx_eq_take_drop_succ
def apq:=@List.ext_getElem
def aqm:=@List.ext_getElem?
def apl:=@List.filter_append
def apQ:=@List.filter_cons_of_neg
def ap3:=@List.filter_cons_of_pos
def apU:=@List.filter_eq_nil_iff
def apc:=@List.flatMap_append
def ao8:=@List.flatMap_cons
def aq7:=@List.flatMap_singleton
def ap9:=@List.foldl_append
def apR:=@List.foldl_cons
def aor:=@List.getD_eq_getElem?_getD
def aoT:=@List.getElem?_append_left
def aoS:=@List.getElem?_append_right
def ap4:=@List.getElem?_cons_succ
def apW:=@List.getElem?_drop
def aov:=@List.getElem?_eq_getElem
def aoV:=@List.getElem?_eq_none
def ao2:=@List.getElem?_eq_some_iff
def ao4:=@List.getElem?_map
def apF:=@List.getElem?_of_mem
def apk:=@List.getElem?_range
def apj:=@List.getElem?_replicate
def aqV:=@List.getElem?_set
def aqf:=@List.getElem?_set_self
def apV:=@List.getElem?_take
def aqU:=@List.getElem?_take_of_lt
def aq3:=@List.getElem_map
def apC:=@List.getElem_mem
def aqk:=@List.getElem_of_mem
def aqO:=@List.getElem_range
def aqK:=@List.getElem_set
def apO:=@List.idxOf_lt_length_of_mem
def aoy:=@List.length_append
def aoN:=@List.length_cons
def apG:=@List.length_drop
def apr:=@List.length_filter_le
def aoJ:=@List.length_map
def ao1:=@List.length_nil
def aqC:=@List.length_range
def aoX:=@List.length_replicate
def aoU:=@List.length_set
def aps:=@List.length_singleton
def ao3:=@List.length_take
def apm:=@List.map_append
def apP:=@List.map_congr_left
def apg:=@List.map_cons
def aq9:=@List.map_map
def aoG:=@List.mem_append
def aoK:=@List.mem_append_left
def apA:=@List.mem_append_right
def aoO:=@List.mem_cons
def apd:=@List.mem_filter
def api:=@List.mem_flatMap
def ao9:=@List.mem_map
def aoM:=@List.mem_of_getElem?
def aqr:=@List.mem_or_eq_of_mem_set
def aoQ:=@List.mem_range
def aoB:=@List.mem_singleton
def aql:=@List.mergeSort_perm
def apb:=@List.nil_append
def ard:=@List.nodup_append
def aqd:=@List.nodup_range
def aq2:=@List.not_mem_nil
def apz:=@List.pairwise_append
def apa:=@List.pairwise_cons
def aph:=@List.pairwise_iff_getElem
def aq6:=@List.pairwise_lt_range
def apI:=@List.pairwise_map
def aqy:=@List.pairwise_mergeSort
def apx:=@List.perm_append_comm
def aqJ:=@List.perm_ext_iff_of_nodup
def aq4:=@List.perm_middle
def ape:=@List.range_succ
def aq0:=@List.replicate_succ
def aqR:=@List.replicate_succ'
def ap8:=@List.size_toArray
def apn:=@List.take_add_one
def aqM:=@List.take_append_drop
def aoZ:=@List.take_length
def aqH:=@List.take_of_length_le
def aqi:=@Nat.add_mul
def aqD:=@Nat.add_one_mul
def aqz:=@Nat.add_sub_cancel_left
def apv:=@Nat.ble_eq
def apZ:=@Nat.eq_of_beq_eq_true
def aqI:=@Nat.le_mul_of_pos_left
def aqA:=@Nat.le_mul_of_pos_right
def aoL:=@Nat.le_refl
def arf:=@Nat.le_succ
def ao5:=@Nat.le_trans
def aqN:=@Nat.lt_irrefl
def apJ:=@Nat.lt_of_lt_of_le
def ao6:=@Nat.lt_or_ge
def apN:=@Nat.lt_succ_self
def arc:=@Nat.lt_trichotomy
def aqS:=@Nat.min_eq_left
def aqt:=@Nat.mod_eq_of_lt
def are:=@Nat.mod_lt
def apo:=@Nat.mul_le_mul_right
def ara:=@Nat.mul_one
def apw:=@Nat.not_lt_zero
def ap0:=@Nat.sub_self
def aqX:=@Nat.zero_add
def aoD:=@Nat.zero_le
def apM:=@Option.getD_some
def apf:=@Option.isSome_iff_exists
def aqG:=@Option.map_eq_some_iff
def aqF:=@Option.map_some
def aqW:=@Option.some.inj
def aqj:=@Option.some.injEq
def ap7:=@beq_iff_eq
def aoI:=@congrArg
def ao7:=@decide_eq_decide
def aoE:=@decide_eq_false
def aoA:=@decide_eq_false_iff_not
def aow:=@decide_eq_true
def aop:=@decide_eq_true_eq
def aqY:=@decide_false
def aqw:=@if_false
def aot:=@if_neg
def aou:=@if_pos
def arb:=@not_true
def aqn:=@of_decide_eq_true
end Go
namespace Go.gG
end Go.gG
namespace Go.bM
end Go.bM
namespace Go.fo
end Go.fo
namespace Go.b9
open Go Go.RowKit
abbrev dY:=List (Nat×Bool×Value)
def jB:dY->Nat->Option (Bool×Value)
 | [],_=>none
 | (k,p)::r,d=>bif Nat.beq k d then some p else jB r d
structure iG(N:Nat)(tm:dY)(a:Act):Prop where
 size:a.tmps.size=N
 A3:a.defers=[]
 get:∀d c v,jB tm d=some (c,v)->a.tmps[d]?=some (if c=true then v else undef)
def u64(x:BitVec 64):Value:=.int .u64 (x.toNat:Int)
def H0:Value->Value
 | .int .u64 (.ofNat m)=>bif Nat.blt m 18446744073709551616 then u64 (BitVec.ofNat 64 m)else .int .u64 (.ofNat m)
 | v=>v
def aI(tm:dY):Operand->Option (Bool×Value)
 | .tmp t=>jB tm t
 | .const v=>some (true,H0 v)
 | .global g=>some (true,.pointer (some ⟨g,0,none⟩))
 | .func f=>some (true,.func (.func f) #[] #[])
theorem ajl(m:Nat)(h:m<18446744073709551616):u64 (BitVec.ofNat 64 m)=.int .u64 (Int.ofNat m):=by unfold u64;rw[BitVec.toNat_ofNat,aqt (by omega)];rfl
theorem XS(v:Value):H0 v=v:=by
 unfold H0;split
 ·rename_i m;cases hm:Nat.blt m 18446744073709551616 with
  | true=>rw[cond_true];exact ajl m (apv.mp hm)
  | false=>rfl
 rfl
theorem iG.eval{N:Nat}{tm:dY}{a:Act}(h:iG N tm a){x:Operand}{c:Bool}{v:Value}(he:aI tm x=some (c,v))(ai:c=true):a.eval x=v:=by
 subst ai;cases x with
 | tmp t=>have:=h.get t true v he;simp only[Act.eval,Array.getD_eq_getD_getElem?,this];rfl
 | const u=>simp only[aI,XS]at he;injection he with he;injection he with _ he
 | global g=>simp only[aI]at he;injection he with he;injection he with _ he
 | func f=>simp only[aI]at he;injection he with he;injection he with _ he
theorem iG.put{N:Nat}{tm:dY}{a:Act}(h:iG N tm a){d:Nat}(hd:d<N)(c:Bool)(v:Value):iG N ((d,c,v)::tm) (a.put (some d) (if c=true then v else undef)):=by
 refine⟨by simp[Act.put,h.size],h.A3,?_⟩;intro H4 ye dG aL;simp only[jB]at aL;by_cases IX:d=H4
 ·subst IX;simp only[Nat.beq_refl,cond_true]at aL;injection aL with aL;injection aL with h1 h2;subst h1;subst h2;have aj:d<a.tmps.size:=by rw[h.size];exact hd
  simp[Act.put,aj]
 have hb:Nat.beq d H4=false:=by
  cases ba:Nat.beq d H4 with
  | true=>exact absurd (apZ ba) IX
  | false=>rfl
 rw[hb,cond_false]at aL;have:=h.get _ _ _ aL;simp only[Act.put,Array.getElem?_setIfInBounds_ne IX];exact this
def vw:dY->dY->Prop
 | [],_=>True
 | (d,p)::r,tm=>jB tm d=some p/\vw r tm
theorem vw.jB{t tm:dY}(h:vw t tm):∀{d:Nat} {p:Bool×Value},jB t d=some p->jB tm d=some p:=by
 induction t with
 | nil=>intro d p aL;cases aL
 | cons e r bP=>
  obtain⟨k,q⟩:=e;intro d p aL;simp only[b9.jB]at aL;cases hb:Nat.beq k d with
  | true=>rw[hb,cond_true]at aL;injection aL with aL;subst aL;have:=apZ hb;subst this;exact h.1
  | false=>rw[hb,cond_false]at aL;exact bP h.2 aL
theorem iG.sub{N:Nat}{t tm:dY}{a:Act}(h:iG N tm a)(aj:vw t tm):iG N t a:=⟨h.size,h.A3,λd c v aL=>h.get d c v (aj.jB aL)⟩
inductive aB:Type 1 where
 | box (b:Nat) (cs:List Value) (t:TypeId)
 | own {aX:Type} (v:Value) (t:TypeId) (sz:Nat) (enc:aX->List Value) (xs:List aX)
 | gen (cN:List Nat) (ok:World->Prop)
def aB.cN:aB->List Nat
 | .box b _ _=>[b]
 | .own v _ _ _ _=>v.ownBlock.toList
 | .gen cN _=>cN
def aB.ok:aB->World->Prop
 | .box b cs t,w=>w.heap[b]?=some (.cells cs.toArray t (0,0))
 | .own v t sz enc xs,w=>w.ownsRow 0 t sz v xs.length (xs.flatMap enc)
 | .gen cN ok,w=>∀I,(∀k,k∈cN->I.heap[k]?=w.heap[k]?)->ok I
theorem aB.Gn{e:aB}{w I:World}(h:e.ok w)(aj:∀k,k∈e.cN->I.heap[k]?=w.heap[k]?):e.ok I:=by
 cases e with
 | box b cs t=>simp only[aB.ok]at *;rw[aj b (by simp[aB.cN])];exact h
 | own v t sz enc xs=>
  obtain⟨h1,h2⟩:=h;refine⟨h1,?_⟩;rcases h2 with h2 | ⟨g,cap,cur,ax,az,eC,r⟩
  ·exact .inl h2
  exact .inr ⟨g,cap,cur,ax,az,by rw[aj g (by simp[aB.cN,ax,Value.ownBlock])];exact eC,r⟩
 | gen cN ok=>intro ajH qQ;exact h ajH λk hk=>(qQ k hk).trans (aj k hk)
structure kK(S:Nat->Prop)(B w:World):Prop where
 os:w.os=B.os
 tape:w.tape=B.tape
 output:w.output=B.output
 size:B.heap.size<=w.heap.size
 s9:∀k,k<B.heap.size->S k->w.heap[k]?=B.heap[k]?
theorem kK.refl(S:Nat->Prop)(w:World):kK S w w:=⟨rfl,rfl,rfl,aoL _,λ_ _ _=>rfl⟩
abbrev dm:=World×(Nat->Prop)
structure Mem(bs:List dm)(H:List aB)(w:World):Prop where
 base:∀B,B∈bs->kK B.2 B.1 w
 own:∀e,e∈H->e.ok w
 fC:∀e,e∈H->∀k,k∈e.cN->k<w.heap.size
 apart:∀B,B∈bs->∀e,e∈H->∀k,k∈e.cN->B.2 k->B.1.heap.size<=k
 il:∀(i j:Nat) (gh gr:aB),i≠j->H[i]?=some gh->H[j]?=some gr->∀k,k∈gh.cN->k∈gr.cN->False
theorem Mem.tail{bs:List dm}{e:aB}{H:List aB}{w:World}(h:Mem bs (e::H) w):Mem bs H w:=
 ⟨h.base,λe he=>h.own e (.tail _ he),λe he=>h.fC e (.tail _ he),λB hB e he=>h.apart B hB e (.tail _ he),λi j gh gr iw hi ae=>h.il (i+1) (j+1) gh gr (by omega) (by simpa using hi) (by simpa using ae)⟩
theorem Mem.cX{B:dm}{bs:List dm}{H:List aB}{w:World}(h:Mem (B::bs) H w):Mem bs H w:=⟨λB hB=>h.base B (.tail _ hB),h.own,h.fC,λB hB=>h.apart B (.tail _ hB),h.il⟩
theorem Mem.LF{bs:List dm}{H:List aB}{w:World}(h:Mem bs H w):Mem ((w,λk=>∀e,e∈H->k∉e.cN)::bs) H w:=by
 refine⟨λB hB=>?_,h.own,h.fC,λB hB e he k hk cG=>?_,h.il⟩
 ·rcases aoO.1 hB with rfl | hB
  ·exact kK.refl _ _
  exact h.base B hB
 rcases aoO.1 hB with rfl | hB
 ·exact absurd hk (cG e he)
 exact h.apart B hB e he k hk cG
theorem Mem.q9{bs:List dm}{H:List aB}{w I:World}(h:Mem bs H w){i:Nat}{e e':aB}(hi:H[i]?=some e) (nb:I.os=w.os) (JP:I.tape=w.tape) (hh:I.output=w.output) (ej:w.heap.size<=I.heap.size) (hblk:∀k,k<w.heap.size->k∉e.cN->I.heap[k]?=w.heap[k]?) (hok:e'.ok I) (Jh:∀k,k∈e'.cN->k<I.heap.size) (mE:∀k,k∈e'.cN->k∈e.cN\/w.heap.size<=k):Mem bs (H.set i e') I:=by
 have Jf:i<H.length:=by
  rcases ao6 i H.length with cm | cm
  ·exact cm
  simp[aoV cm]at hi
 have PZ:e∈H:=aoM hi;have mem:∀x,x∈H.set i e'->x=e'\/∃j,j≠i/\H[j]?=some x:=by
  intro x hx;obtain⟨j,ae⟩:=apF hx;by_cases kz:i=j
  ·subst kz;rw[aqf Jf]at ae;exact .inl (by injection ae with ae;exact ae.symm)
  rw[List.getElem?_set_ne kz]at ae;exact .inr ⟨j,λe=>kz e.symm,ae⟩
 have other:∀x j,j≠i->H[j]?=some x->∀k,k∈x.cN->k∉e.cN/\k<w.heap.size:=by intro x j ae hx k hk;exact⟨λnE=>h.il j i x e ae hx hi k hk nE,h.fC x (aoM hx) k hk⟩
 refine⟨λB hB=>?_,λx hx=>?_,λx hx k hk=>?_,λB hB x hx k hk cG=>?_,?_⟩
 ·have hb:=h.base B hB;refine⟨nb.trans hb.os,JP.trans hb.tape,hh.trans hb.output,ao5 hb.size ej,λk hk cG=>?_⟩;rw[hblk k (apJ hk hb.size) λnE=>by have:=h.apart B hB e PZ k nE cG;omega];exact hb.s9 k hk cG
 ·rcases mem x hx with rfl | ⟨j,ae,hx⟩
  ·exact hok
  exact aB.Gn (h.own x (aoM hx)) λk hk=>hblk k (other x j ae hx k hk).2 (other x j ae hx k hk).1
 ·rcases mem x hx with rfl | ⟨j,ae,hx⟩
  ·exact Jh k hk
  exact apJ (other x j ae hx k hk).2 ej
 ·rcases mem x hx with rfl | ⟨j,ae,hx⟩
  ·rcases mE k hk with fk | fk
   ·exact h.apart B hB e PZ k fk cG
   exact ao5 (h.base B hB).size fk
  exact h.apart B hB x (aoM hx) k hk cG
 have aux:∀j x,j≠i->H[j]?=some x->∀k,k∈x.cN->k∈e'.cN->False:=by
  intro j x ae hx k hk fk;have:=other x j ae hx k hk;rcases mE k fk with h1 | h1
  ·exact this.1 h1
  omega
 intro a b ti xi l8 ay hb k AB Jj;by_cases IK:i=a
 ·subst IK;rw[aqf Jf]at ay;injection ay with ay;subst ay;rw[List.getElem?_set_ne l8]at hb;exact aux b xi (λe=>l8 e.symm) hb k Jj AB
 rw[List.getElem?_set_ne IK]at ay;by_cases PS:i=b
 ·subst PS;rw[aqf Jf]at hb;injection hb with hb;subst hb;exact aux a ti (λe=>IK e.symm) ay k AB Jj
 rw[List.getElem?_set_ne PS]at hb;exact h.il a b ti xi l8 ay hb k AB Jj
theorem Mem.new{bs:List dm}{H:List aB}{w I:World}(h:Mem bs H w){e':aB} (nb:I.os=w.os) (JP:I.tape=w.tape) (hh:I.output=w.output) (ej:w.heap.size<=I.heap.size) (hblk:∀k,k<w.heap.size->I.heap[k]?=w.heap[k]?) (hok:e'.ok I) (Jh:∀k,k∈e'.cN->k<I.heap.size) (mE:∀k,k∈e'.cN->w.heap.size<=k):Mem bs (e'::H) I:=by
 have hH:Mem bs (.gen [] (λ_=>True)::H) w:=by
  refine⟨h.base,λx hx=>?_,λx hx k hk=>?_,λB hB x hx k hk cG=>?_,λi j gh gr iw hi ae k hk fk=>?_⟩
  ·rcases aoO.1 hx with rfl | hx
   ·exact λ_ _=>trivial
   exact h.own x hx
  ·rcases aoO.1 hx with rfl | hx
   ·simp[aB.cN]at hk
   exact h.fC x hx k hk
  ·rcases aoO.1 hx with rfl | hx
   ·simp[aB.cN]at hk
   exact h.apart B hB x hx k hk cG
  cases i with
  | zero=>simp at hi;subst hi;simp[aB.cN]at hk
  | succ i=>
   cases j with
   | zero=>simp at ae;subst ae;simp[aB.cN]at fk
   | succ j=>exact h.il i j gh gr (by omega) (by simpa using hi) (by simpa using ae) k hk fk
 exact hH.q9 (i:=0) (e':=e') rfl nb JP hh ej (λk hk _=>hblk k hk) hok Jh λk hk=>.inr (mE k hk)
theorem Mem.ext{bs:List dm}{H:List aB}{w I:World}(h:Mem bs H w)(hb:Below w.heap.size w I):Mem bs H I:=(h.new (e':=.gen [] (λ_=>True)) hb.os hb.tape hb.output hb.size hb.block (λ_ _=>trivial) (by simp[aB.cN]) (by simp[aB.cN])).tail
theorem Mem.drewN{bs:List dm}{H:List aB}{w:World}(h:Mem bs H w):Mem bs H w.drew:=h.ext (Below.refl _ _).drew
end Go.b9
namespace Go.b9
universe u
open Go Go.RowKit
def cR(N:Nat)(K:Act->World->Prop)(tm:dY)(A:World->Prop):Prop:=∀a w,iG N tm a->A w->K a w
abbrev fp(P:Program)(N:Nat)(c:Code)(Q:Exit->Act->World->Prop)(tm:dY)(A:World->Prop):Prop:=cR N (c.wp P Q) tm A
abbrev kN(P:Program)(N:Nat)(ops:Array Oper)(Q:Exit->Act->World->Prop)(l:List Oper)(tm:dY)(A:World->Prop):Prop:=cR N (wpList P ops Q l) tm A
abbrev gR(N:Nat)(e:Exit)(Q:Exit->Act->World->Prop)(tm:dY)(A:World->Prop):Prop:=cR N (Q e) tm A
section
variable {P:Program} {N:Nat} {Q pZ:Exit->Act->World->Prop} {tm:dY} {A BP:World->Prop} {ops:Array Oper} {rest:List Oper}
theorem aj5{x y:Code}(h:fp P N x (Exit.then (λa w=>y.wp P Q a w) Q) tm A):fp P N (.seq x y) Q tm A:=λa w aj hw=>wp_seq (h a w aj hw)
theorem aj6(h:gR N .normal Q tm A):fp P N .skip Q tm A:=λa w aj hw=>wp_skip (h a w aj hw)
theorem aj2(h:gR N .ret Q tm A):fp P N .ret Q tm A:=λa w aj hw=>wp_ret (h a w aj hw)
theorem ajZ{id:Nat}(h:gR N (.exit id) Q tm A):fp P N (.exit id) Q tm A:=λa w aj hw=>wp_exit (h a w aj hw)
theorem ajW{id:Nat}{c:Code}(h:fp P N c (Exit.inBlock id Q) tm A):fp P N (.block id c) Q tm A:=λa w aj hw=>wp_block (h a w aj hw)
theorem aeJ{y:Code}(h:fp P N y Q tm A):gR N .normal (Exit.then (λa w=>y.wp P Q a w) pZ) tm A:=h
theorem aeM{K:Act->World->Prop}(h:gR N .ret Q tm A):gR N .ret (Exit.then K Q) tm A:=h
theorem aeK{K:Act->World->Prop}{id:Nat}(h:gR N (.exit id) Q tm A):gR N (.exit id) (Exit.then K Q) tm A:=h
theorem aeE{id:Nat}(h:gR N .normal Q tm A):gR N .normal (Exit.inBlock id Q) tm A:=h
theorem aeH{id:Nat}(h:gR N .ret Q tm A):gR N .ret (Exit.inBlock id Q) tm A:=h
theorem aeF{id:Nat}(h:gR N .normal Q tm A):gR N (.exit id) (Exit.inBlock id Q) tm A:=λa w aj hw=>by show(if id=id then Q .normal a w else _);rw[aou rfl];exact h a w aj hw
theorem aeG{id tL:Nat}(dS:Nat.beq tL id=false)(h:gR N (.exit tL) Q tm A):gR N (.exit tL) (Exit.inBlock id Q) tm A:=λa w aj hw=>by show(if tL=id then Q .normal a w else Q (.exit tL) a w);rw[aot (Nat.ne_of_beq_eq_false dS)];exact h a w aj hw
theorem cM{x:Operand}{b:Bool}{c d:Code}(hx:aI tm x=some (true,.bool b))(aJ:b=true->fp P N c Q tm A)(hf:b=false->fp P N d Q tm A): fp P N (.cond x c d) Q tm A:=λa w aj hw=>wp_cond_split (aj.eval hx rfl) (λh=>aJ h a w aj hw) λh=>hf h a w aj hw
def vr(N:Nat){e2:Type u}(ee:e2->Prop)(T:e2->dY)(bV:e2->World->Prop)(jc:e2->Nat)(s:e2):Act->World->Prop:=λa w=>∃s',ee s'/\jc s'<jc s/\iG N (T s') a/\bV s' w
def mQ(N:Nat){e2:Type u}(ee:e2->Prop)(T:e2->dY)(bV:e2->World->Prop):Act->World->Prop:=λa w=>∃s,ee s/\iG N (T s) a/\bV s w
theorem b6{e2:Type u}{ee:e2->Prop}{T:e2->dY}{bV:e2->World->Prop}(s:e2)(iq:ee s)(aj:vw (T s) tm:=by repeat (first | exact trivial | refine⟨rfl,?_⟩))(hA:∀w,A w->bV s w:=by exact λ_ h=>h): gR N .normal (Exit.then (mQ N ee T bV) Q) tm A:=λ_ w cy hw=>⟨s,iq,cy.sub aj,hA w hw⟩
theorem bX{c:Code}{e2:Type u}(ee:e2->Prop) (T:e2->dY) (bV:e2->World->Prop) (jc:e2->Nat) (dd:e2) (h0:ee dd) (body:∀s,ee s->fp P N c (Exit.then (vr N ee T bV jc s) Q) (T s) (bV s)) (yV:vw (T dd) tm:=by repeat (first | exact trivial | refine⟨rfl,?_⟩)) (hA:∀w,A w->bV dd w:=by exact λ_ h=>h):fp P N (.loop c) Q tm A:=by
 intro a w aj hw;have key:∀n s,jc s=n->ee s->∀a w,iG N (T s) a->bV s w->(Code.loop c).wp P Q a w:=by
  intro n s bd iq a w cy fs;refine wp_loop (λa w=>∃s,ee s/\iG N (T s) a/\bV s w) (λa w=>Classical.epsilon λm=>(∃s,ee s/\iG N (T s) a/\bV s w/\jc s=m)/\∀s,ee s->iG N (T s) a->bV s w->m<=jc s) ⟨s,iq,cy,fs⟩ ?_;intro a w hex;have least:∃m,(∃s,ee s/\iG N (T s) a/\bV s w/\jc s=m)/\∀s,ee s->iG N (T s) a->bV s w->m<=jc s:=by
   obtain⟨s,h1,h2,h3⟩:=hex;generalize hk:jc s=k
   induction k using Nat.strongRecOn generalizing s with
   | ind k bP=>
    by_cases dq:∃s',ee s'/\iG N (T s') a/\bV s' w/\jc s'<k
    ·obtain⟨s',g1,g2,g3,g4⟩:=dq;exact bP _ g4 s' g1 g2 g3 rfl
    exact⟨k,⟨s,h1,h2,h3,hk⟩,λs' g1 g2 g3=>Nat.le_of_not_lt λg4=>dq ⟨s',g1,g2,g3,g4⟩⟩
  obtain⟨⟨s,h1,h2,h3,aA⟩,aaq⟩:=aq5 least;refine wp_mono (body s h1 a w h2 h3) λe dJ I q=>?_;cases e with
  | normal=>
   obtain⟨s',g1,g2,g3,g4⟩:=q;have acT:∃m,(∃s,ee s/\iG N (T s) dJ/\bV s I/\jc s=m)/\∀s,ee s->iG N (T s) dJ->bV s I->m<=jc s:=by
    generalize hk:jc s'=k at g2;clear g2
    induction k using Nat.strongRecOn generalizing s' with
    | ind k bP=>
     by_cases dq:∃s',ee s'/\iG N (T s') dJ/\bV s' I/\jc s'<k
     ·obtain⟨aho,g1,g2,g3,g4⟩:=dq;exact bP _ g4 aho g1 g2 g3 rfl
     exact⟨k,⟨s',g1,g3,g4,hk⟩,λs' g1 g2 g3=>Nat.le_of_not_lt λg4=>dq ⟨s',g1,g2,g3,g4⟩⟩
   have kA:=aq5 acT;refine⟨⟨s',g1,g3,g4⟩,?_⟩;exact Nat.lt_of_le_of_lt (kA.2 s' g1 g3 g4) (apJ g2 (Nat.le_of_eq aA))
  | _=>exact q
 exact key _ dd rfl h0 a w (aj.sub yV) (hA w hw)
theorem bm{e2:Type u}{ee:e2->Prop}{T:e2->dY}{bV:e2->World->Prop}{jc:e2->Nat}{s:e2}(s':e2)(iq:ee s')(Kb:jc s'<jc s:=by first | omega | (dsimp only;omega))(aj:vw (T s') tm:=by repeat (first | exact trivial | refine⟨rfl,?_⟩))(hA:∀w,A w->bV s' w:=by exact λ_ h=>h): gR N .normal (Exit.then (vr N ee T bV jc s) Q) tm A:=λ_ w cy hw=>⟨s',iq,Kb,cy.sub aj,hA w hw⟩
theorem aj1{id:Nat}{l:List Oper}(h:kN P N l.toArray Q l tm A):fp P N (.region id l.toArray false) Q tm A:=λa w aj hw=>wp_region_lit (h a w aj hw)
theorem aj8(h:gR N .normal Q tm A):kN P N ops Q [] tm A:=h
def bW(P:Program)(N:Nat)(op:Op)(tm:dY)(A:World->Prop)(c:Bool)(v:Value):Prop:=
 c=true->∀(a:Act) (w:World) (d:Option Tmp) (ty:TypeId) (pos:String) (cV:Array Edge) (g:Option (Nat×Bool)),iG N tm a->A w-> (execOp a.eval ⟨d,op,ty,pos,cV,g⟩).run P w=.ok (.value v) w
theorem aj9{d:Nat}{op:Op}{ty:TypeId}{pos:String}{cV:Array Edge}{v:Value}(h:bW P N op tm A true v)(hd:Nat.blt d N=true) (ab:kN P N ops Q rest ((d,true,v)::tm) A):kN P N ops Q (⟨some d,op,ty,pos,cV,none⟩::rest) tm A:=by intro a w aj hw;refine wpList_plain rfl λK jR=>?_;unfold Oper.wp;rw[h rfl a w _ _ _ _ _ aj hw];exact jR _ _ (ab _ _ (by simpa using aj.put (apv.mp hd) true v) hw)
theorem BO{a:Act}{j g:Nat}{js b:Bool}(aj:iG N tm a)(ae:(ops[j]?).bind (·.dst)=some g)(az:jB tm g=some (js,.bool b)): yielded ops a.tmps j=if js=true then some b else none:=by unfold yielded;rw[ae];simp only[Option.bind_some,aj.get _ _ _ az];cases js<;>rfl
theorem aka{d j g:Nat}{want js b c:Bool}{op:Op}{ty:TypeId}{pos:String}{cV:Array Edge}{v:Value}(ae:(ops[j]?).bind (·.dst)=some g) (az:jB tm g=some (js,.bool b)) (ai:c=(js&&(b==want))) (h:bW P N op tm A c v) (hd:Nat.blt d N=true) (ab:kN P N ops Q rest ((d,c,v)::tm) A):kN P N ops Q (⟨some d,op,ty,pos,cV,some (j,want)⟩::rest) tm A:=by
 intro a w aj hw;refine wpList_step λK jR=>?_;have aY:=BO (ops:=ops) aj ae az;unfold Region.wanted;simp only[aY];have yE:=apv.mp hd;by_cases iV:c=true
 ·have h1:js=true/\b=want:=by rw[iV]at ai;have:=ai.symm;simp only[aoo,ap7]at this;exact this
  rw[h1.1,h1.2];simp only[if_true,beq_self_eq_true];unfold Oper.wp;rw[h iV a w _ _ _ _ _ aj hw];exact jR _ _ (ab _ _ (by simpa[iV]using aj.put yE c v) hw)
 have h1:((if js=true then some b else none)==some want)=false:=by cases js<;>simp at ai⊢;intro hb;exact iV (by rw[ai,hb];simp)
 rw[h1];simp only[aqL,aqw];exact jR _ _ (ab _ _ (by simpa[iV]using aj.put yE c v) hw)
theorem EZ(b:Bool):b=(true&&(b==true)):=by cases b<;>rfl
theorem EY(b:Bool):(!b)=(true&&(b==false)):=by cases b<;>rfl
theorem EX(c b:Bool):(c&&b)=(c&&(b==true)):=by cases b<;>rfl
theorem EW(c b:Bool):(c&&!b)=(c&&(b==false)):=by cases b<;>rfl
def gz(P:Program)(N:Nat)(op:Op)(dst:Option Tmp)(Q:Exit->Act->World->Prop)(tm:dY)(A:World->Prop)(K:Act->World->Prop):Prop:=∀(a:Act) (w:World) (ty:TypeId) (pos:String) (cV:Array Edge) (g:Option (Nat×Bool)),iG N tm a->A w->Oper.wp P ⟨dst,op,ty,pos,cV,g⟩ a w K Q
theorem aq{dst:Option Tmp}{op:Op}{ty:TypeId}{pos:String}{cV:Array Edge}(h:gz P N op dst Q tm A (wpList P ops Q rest)): kN P N ops Q (⟨dst,op,ty,pos,cV,none⟩::rest) tm A:=by intro a w aj hw;refine wpList_plain rfl λK jR=>?_;exact Oper.wp_mono (λa w h=>jR a w h) (h a w ty pos cV none aj hw)
theorem x3{dst:Option Tmp}{j g:Nat}{want b:Bool}{op:Op}{ty:TypeId}{pos:String}{cV:Array Edge}(ae:(ops[j]?).bind (·.dst)=some g) (az:jB tm g=some (true,.bool b)) (hb:b=want) (h:kN P N ops Q (⟨dst,op,ty,pos,cV,none⟩::rest) tm A): kN P N ops Q (⟨dst,op,ty,pos,cV,some (j,want)⟩::rest) tm A:=by intro a w aj hw;have h1:=h a w aj hw;unfold wpList at h1⊢;have aY:=BO (ops:=ops) aj ae az;rw[aou (by simp[Region.wanted])]at h1;rw[aou (by simp[Region.wanted,aY,hb])];exact h1
end
end Go.b9
namespace Go.b9
open Go Go.RowKit
class jr(P:Program)(t:TypeId)(d:outParam TypeDesc):Prop where
 h:P.underlying t=some d
def bt(tm:dY)(c:Bool)(x:Operand)(v:Value):Prop:=∃cx,aI tm x=some (cx,v)/\(c=true->cx=true)
theorem zV{a b:Bool}(h:(a&&b)=true):a=true:=by cases a<;>simp_all
theorem cb{tm:dY}{c:Bool}{x:Operand}{v:Value}(h:bt tm c x v:=by first | exact⟨_,rfl,λ_=>rfl⟩ | exact⟨_,rfl,λh=>h⟩ | exact⟨_,rfl,zV⟩):bt tm c x v:=h
theorem oR{α:Type _}{a:α}{l:List α}(h:a∈l:=by(repeat (first | exact List.Mem.head _ | refine List.Mem.tail _ ?_))):a∈l:=h
theorem NG{a b:Bool}(h:(a&&b)=true):b=true:=by cases a<;>simp_all
theorem b3{tm:dY}{c:Bool}{x:Operand}{v:Value}(h:aI tm x=some (true,v)):bt tm c x v:=⟨_,h,λ_=>rfl⟩
abbrev aa:Value:=.slice none 0 0
abbrev av(b:Nat):Value:=.pointer (some ⟨b,0,none⟩)
theorem bt.get{N:Nat}{tm:dY}{a:Act}{c:Bool}{x:Operand}{v:Value}(h:bt tm c x v)(aj:iG N tm a)(ai:c=true):a.eval x=v:=by obtain⟨cx,h1,h2⟩:=h;exact aj.eval h1 (h2 ai)
def gT(v:Value)(sz i o:Nat):Addr:=
 match v with
 | .slice (some a) _ _=>(a.add (i* sz)).add o
 | _=>(⟨0,0,none⟩:Addr).add o
theorem add_add(a:Addr)(m n:Nat):(a.add m).add n=a.add (m+n):=by
 unfold Addr.add;by_cases hm:m=0
 ·subst hm;simp
 by_cases bd:n=0
 ·subst bd;simp[hm]
 simp[hm,bd,Nat.add_assoc]
theorem B1(a:Addr)(m:Nat):(a.add m).block=a.block:=by unfold Addr.add;split<;>rfl
structure aZ{aX:Type}(S:Nat->Prop)(w:World)(enc:aX->List Value)(sz:Nat)(v:Value)(xs:List aX):Prop where
 is:∃a n cap,v=.slice a n cap/\n=xs.length/\n<=cap/\cap<=maxLen/\(0<n->a.isSome=true)
 cell:∀i x j u,xs[i]?=some x->(enc x)[j]?=some u->w.cell? (gT v sz i j)=some u
 wo:∀a n cap,v=.slice (some a) n cap->0<n->S a.block
theorem aZ.len{aX:Type}{S:Nat->Prop}{w:World}{enc:aX->List Value}{sz:Nat}{v:Value}{xs:List aX}(h:aZ S w enc sz v xs):∃a cap,v=.slice a xs.length cap/\xs.length<=cap/\cap<=maxLen:=by obtain⟨a,n,cap,h1,h2,h3,aA,_⟩:=h.is;subst h2;exact⟨a,cap,h1,h3,aA⟩
theorem aZ.le{aX:Type}{S:Nat->Prop}{w:World}{enc:aX->List Value}{sz:Nat}{v:Value}{xs:List aX}(h:aZ S w enc sz v xs):xs.length<=9223372036854775807:=by obtain⟨_,cap,_,h1,h2⟩:=h.len;unfold maxLen at h2;omega
theorem z1{S:Nat->Prop}{B w:World}(h:kK S B w){a:Addr}{v:Value}(cG:S a.block)(ai:B.cell? a=some v):w.cell? a=some v:=by have dq:=World.block_lt_of_cell? B a ai;rw[<-ai];exact World.cell?_of_block (h.s9 _ dq cG)
theorem aZ.mono{aX:Type}{S S':Nat->Prop}{B w:World}{enc:aX->List Value}{sz:Nat}{v:Value}{xs:List aX}(h:aZ S B enc sz v xs)(hA:kK S B w)(qK:∀k,k<B.heap.size->S k->S' k)(dS:∀x,x∈xs->enc x≠[]):aZ S' w enc sz v xs:=by
 refine⟨h.is,?_,?_⟩
 ·intro i x j u hi ae;have ai:=h.cell i x j u hi ae;obtain⟨a,n,cap,ax,bd,_,_,fQ⟩:=h.is;have gJ:i<xs.length:=by
   rcases ao6 i xs.length with cm | cm
   ·exact cm
   simp[aoV cm]at hi
  have oJ:0<n:=by omega
  obtain⟨A,rfl⟩:=apf.1 (fQ oJ);subst ax;refine z1 hA ?_ ai;simp only[gT,B1];exact h.wo A n cap rfl oJ
 intro A n cap ax oJ;have cG:=h.wo A n cap ax oJ;obtain⟨dJ,sA,Ca,yY,yN,_⟩:=h.is;rw[ax]at yY;injection yY with bu b2 gg;subst bu;subst b2;subst gg;cases xs with
 | nil=>simp at yN;omega
 | cons x xs=>
  cases he:enc x with
  | nil=>exact absurd he (dS x (by simp))
  | cons u r=>have ai:=h.cell 0 x 0 u (by simp) (by rw[he];rfl);have dq:=World.block_lt_of_cell? B _ ai;subst ax;simp only[gT,B1]at dq;exact qK _ dq cG
section
variable {P:Program} {N:Nat} {tm:dY} {A:World->Prop} {c:Bool} {bs:List dm} {H:List aB}
theorem afQ{x:Operand}{v:Value}(hx:bt tm c x v:=by exact cb):bW P N (.move x) tm A c v:=λai a w _ _ _ _ _ aj _=>by simp only[execOp,hx.get aj ai];rfl
theorem afc{x:Operand}{v:Value}(hx:bt tm c x v:=by exact cb):bW P N (.assign x) tm A c v:=λai a w _ _ _ _ _ aj _=>by simp only[execOp,hx.get aj ai];rfl
theorem hX{s:Sem Value}{v:Value}{w:World}(h:s.run P w=.ok v w):(do pure (Next.value (<-s)):Sem Next).run P w=.ok (.value v) w:=by simp[h]
theorem af2{x y:Operand}{b d:Bool}(hx:bt tm c x (.bool b):=by exact cb) (aY:bt tm (c&&b) y (.bool d):=by first | exact⟨_,rfl,λ_=>rfl⟩ | exact⟨_,rfl,NG⟩ | exact⟨_,rfl,λh=>h⟩ | exact⟨_,rfl,zV⟩):bW P N (.pick x y (.const (.bool false))) tm A c (.bool (b&&d)):=
 λai a w _ _ _ _ _ aj _=>by
  simp only[execOp,hx.get aj ai];cases b with
  | false=>rfl
  | true=>rw[aY.get aj (by rw[ai];rfl)];rfl
theorem af3{x y:Operand}{b d:Bool}(hx:bt tm c x (.bool b):=by exact cb) (aY:bt tm (c&&!b) y (.bool d):=by first | exact⟨_,rfl,λ_=>rfl⟩ | exact⟨_,rfl,NG⟩ | exact⟨_,rfl,λh=>h⟩ | exact⟨_,rfl,zV⟩):bW P N (.pick x (.const (.bool true)) y) tm A c (.bool (b||d)):=
 λai a w _ _ _ _ _ aj _=>by
  simp only[execOp,hx.get aj ai];cases b with
  | true=>rfl
  | false=>rw[aY.get aj (by rw[ai];rfl)];rfl
theorem oj{op:BinOp}{t de:TypeId}{x y:Operand}{k:IntKind}{m n:Int}{v:Value}(hx:bt tm c x (.int k m))(aY:bt tm c y (.int k n)) (aM:∀w,(binOp op t (.int k m) (.int k n)).run P w=.ok v w):bW P N (.binOp op t x y de) tm A c v:=
 λai a w _ _ _ _ _ aj _=>by
  simp only[execOp,hx.get aj ai,aY.get aj ai];have az:(eqGuard op t x y (.int k m) (.int k n)).run P w=.ok () w:=by unfold eqGuard;cases op<;>rfl
  simp[az,aM w]
def xK(k:IntKind)(n:Int):Prop:=k.wrap n=n
theorem y3{n:Int}(h: -9223372036854775808<=n/\n<=9223372036854775807):xK .i64 n:=by unfold xK;rw[IntKind.wrap_i64];omega
theorem ae9{t de:TypeId}{x y:Operand}{m n:Int}(hx:bt tm c x (.int .i64 m):=by exact cb) (aY:bt tm c y (.int .i64 n):=by exact cb) (hb:c=true-> -9223372036854775808<=m+n/\m+n<=9223372036854775807:=by(intro _;omega)):bW P N (.binOp .add t x y de) tm A c (.int .i64 (m+n)):=λai=>oj hx aY (λw=>by have h:=y3 (hb ai);unfold xK at h;simp[binOp,Op.intArith,h]) ai
theorem af6{t de:TypeId}{x y:Operand}{m n:Int}(hx:bt tm c x (.int .i64 m):=by exact cb) (aY:bt tm c y (.int .i64 n):=by exact cb) (hb:c=true-> -9223372036854775808<=m-n/\m-n<=9223372036854775807:=by(intro _;omega)):bW P N (.binOp .sub t x y de) tm A c (.int .i64 (m-n)):=λai=>oj hx aY (λw=>by have h:=y3 (hb ai);unfold xK at h;simp[binOp,Op.intArith,h]) ai
theorem afR{t de:TypeId}{x y:Operand}{m n:Int}(hx:bt tm c x (.int .i64 m):=by exact cb) (aY:bt tm c y (.int .i64 n):=by exact cb) (hb:c=true-> -9223372036854775808<=m* n/\m* n<=9223372036854775807:=by(intro _;omega)):bW P N (.binOp .mul t x y de) tm A c (.int .i64 (m* n)):=λai=>oj hx aY (λw=>by have h:=y3 (hb ai);unfold xK at h;simp[binOp,Op.intArith,h]) ai
def bw(p:Prop)[Decidable p]:Bool:=decide p
theorem an{p:Prop}[Decidable p]:(bw p=true)=p:=by unfold bw;simp
theorem au{p:Prop}[Decidable p]:(bw p=false)=¬p:=by unfold bw;simp
theorem cd{p:Prop}[Decidable p]:bw p=decide p:=rfl
def Ew:BinOp->Int->Int->Bool
 | .eql,m,n=>bw (m=n)
 | .neq,m,n=>!bw (m=n)
 | .lss,m,n=>bw (m<n)
 | .leq,m,n=>bw (m<=n)
 | .gtr,m,n=>bw (n<m)
 | .geq,m,n=>bw (n<=m)
 | _,_,_=>false
theorem q2{op:BinOp}{t de:TypeId}{x y:Operand}{k:IntKind}{m n:Int}{b:Bool}(hx:bt tm c x (.int k m))(aY:bt tm c y (.int k n)) (bn:op=.eql\/op=.neq\/op=.lss\/op=.leq\/op=.gtr\/op=.geq) (hb:Ew op m n=b):bW P N (.binOp op t x y de) tm A c (.bool b):=by
 subst hb;refine λai=>oj hx aY (λw=>?_) ai;rcases bn with rfl | rfl | rfl | rfl | rfl | rfl<;>simp[binOp,Op.intCmp,Ew,bw]
 ·exact ao7.2 Iff.rfl
 simp[bne];exact ao7.2 Iff.rfl
section
variable {Q:Exit->Act->World->Prop}
theorem rY{x:Operand}{p:Prop}[Decidable p]{c d:Code}(hx:aI tm x=some (true,.bool (bw p)))(aJ:p->fp P N c Q tm A)(hf:¬p->fp P N d Q tm A): fp P N (.cond x c d) Q tm A:=cM hx (λh=>aJ ((an (p:=p)).mp h)) λh=>hf ((au (p:=p)).mp h)
end
end
section
variable {P:Program} {N:Nat} {tm:dY} {A:World->Prop} {c:Bool} {bs:List dm} {H:List aB}
theorem afi{t de:TypeId}{x y:Operand}{m n:Int}(hx:bt tm c x (.int .i64 m):=by exact cb) (aY:bt tm c y (.int .i64 n):=by exact cb):bW P N (.binOp .eql t x y de) tm A c (.bool (bw (m=n))):=q2 hx aY (by simp) rfl
theorem afV{t de:TypeId}{x y:Operand}{m n:Int}(hx:bt tm c x (.int .i64 m):=by exact cb) (aY:bt tm c y (.int .i64 n):=by exact cb):bW P N (.binOp .neq t x y de) tm A c (.bool (!bw (m=n))):=q2 hx aY (by simp) rfl
theorem afM{t de:TypeId}{x y:Operand}{m n:Int}(hx:bt tm c x (.int .i64 m):=by exact cb) (aY:bt tm c y (.int .i64 n):=by exact cb):bW P N (.binOp .lss t x y de) tm A c (.bool (bw (m<n))):=q2 hx aY (by simp) rfl
theorem afC{t de:TypeId}{x y:Operand}{m n:Int}(hx:bt tm c x (.int .i64 m):=by exact cb) (aY:bt tm c y (.int .i64 n):=by exact cb):bW P N (.binOp .leq t x y de) tm A c (.bool (bw (m<=n))):=q2 hx aY (by simp) rfl
theorem aft{t de:TypeId}{x y:Operand}{m n:Int}(hx:bt tm c x (.int .i64 m):=by exact cb) (aY:bt tm c y (.int .i64 n):=by exact cb):bW P N (.binOp .gtr t x y de) tm A c (.bool (bw (n<m))):=q2 hx aY (by simp) rfl
theorem afq{t de:TypeId}{x y:Operand}{m n:Int}(hx:bt tm c x (.int .i64 m):=by exact cb) (aY:bt tm c y (.int .i64 n):=by exact cb):bW P N (.binOp .geq t x y de) tm A c (.bool (bw (n<=m))):=q2 hx aY (by simp) rfl
theorem MH(x:BitVec 64):BitVec.ofInt 64 ((x.toNat:Nat):Int)=x:=by simp
theorem DZ(n:Nat):IntKind.u64.wrap (n:Int)=((n % 2 ^ 64:Nat):Int):=by rw[IntKind.wrap_u64];omega
theorem U8{x y:BitVec 64}:((x.toNat:Nat):Int)=((y.toNat:Nat):Int)↔x=y:=by
 constructor
 ·intro h;exact BitVec.eq_of_toNat_eq (by omega)
 intro h;rw[h]
theorem afj{t de:TypeId}{x y:Operand}{m n:BitVec 64}(hx:bt tm c x (u64 m):=by exact cb) (aY:bt tm c y (u64 n):=by exact cb):bW P N (.binOp .eql t x y de) tm A c (.bool (bw (m=n))):=q2 hx aY (by simp) (by simp only[Ew,U8])
theorem afW{t de:TypeId}{x y:Operand}{m n:BitVec 64}(hx:bt tm c x (u64 m):=by exact cb) (aY:bt tm c y (u64 n):=by exact cb):bW P N (.binOp .neq t x y de) tm A c (.bool (!bw (m=n))):=q2 hx aY (by simp) (by simp only[Ew,U8])
theorem afa{t de:TypeId}{x y:Operand}{m n:BitVec 64}(hx:bt tm c x (u64 m):=by exact cb) (aY:bt tm c y (u64 n):=by exact cb):bW P N (.binOp .and t x y de) tm A c (u64 (m&&& n)):=
 λai=>oj hx aY (λw=>by simp only[binOp,Op.intBits,ne_eq,arb,aqw,IntKind.bits,MH];show Result.ok (Value.int .u64 (IntKind.u64.wrap ((m&&& n).toNat:Int))) w=_;rw[DZ,aqt (BitVec.isLt _)];rfl) ai
theorem af0{t de:TypeId}{x y:Operand}{m n:BitVec 64}(hx:bt tm c x (u64 m):=by exact cb) (aY:bt tm c y (u64 n):=by exact cb):bW P N (.binOp .or t x y de) tm A c (u64 (m||| n)):=
 λai=>oj hx aY (λw=>by simp only[binOp,Op.intBits,ne_eq,arb,aqw,IntKind.bits,MH];show Result.ok (Value.int .u64 (IntKind.u64.wrap ((m||| n).toNat:Int))) w=_;rw[DZ,aqt (BitVec.isLt _)];rfl) ai
theorem afb{t de:TypeId}{x y:Operand}{m n:BitVec 64}(hx:bt tm c x (u64 m):=by exact cb) (aY:bt tm c y (u64 n):=by exact cb):bW P N (.binOp .andNot t x y de) tm A c (u64 (m&&& ~~~n)):=
 λai=>oj hx aY (λw=>by simp only[binOp,Op.intBits,ne_eq,arb,aqw,IntKind.bits,MH];show Result.ok (Value.int .u64 (IntKind.u64.wrap ((m&&& ~~~n).toNat:Int))) w=_;rw[DZ,aqt (BitVec.isLt _)];rfl) ai
theorem af7{t de:TypeId}{x y:Operand}{m n:BitVec 64}(hx:bt tm c x (u64 m):=by exact cb) (aY:bt tm c y (u64 n):=by exact cb):bW P N (.binOp .sub t x y de) tm A c (u64 (m-n)):=
 λai=>oj hx aY (λw=>by
  simp only[binOp,Op.intArith,ne_eq,arb,aqw];show Result.ok (Value.int .u64 (IntKind.u64.wrap ((m.toNat:Int)-(n.toNat:Int)))) w=_;have:IntKind.u64.wrap ((m.toNat:Int)-(n.toNat:Int))=(((m-n:BitVec 64).toNat:Nat):Int):=by rw[BitVec.toNat_sub,IntKind.wrap_u64];have:=m.isLt;have:=n.isLt;omega
  rw[this];rfl) ai
theorem af5{t de:TypeId}{x y:Operand}{m n:BitVec 64}(hx:bt tm c x (u64 m):=by exact cb) (aY:bt tm c y (u64 n):=by exact cb):bW P N (.binOp .shr t x y de) tm A c (u64 (m>>>n.toNat)):=
 λai=>oj hx aY (λw=>by
  have h0:(0:Int)<=(n.toNat:Int):=by omega
  simp only[binOp,shift_shr_any .u64 .u64 _ _ h0,IntKind.bits,aoF];show Result.ok (Value.int .u64 ((m.toNat:Int) / 2 ^ min n.toNat 64)) w=_;have:((m.toNat:Int) / 2 ^ min n.toNat 64)=(((m>>>n.toNat).toNat:Nat):Int):=by
   rw[BitVec.toNat_ushiftRight,Nat.shiftRight_eq_div_pow];by_cases h:n.toNat<=64
   ·rw[aqS h];simp
   rw[Nat.min_eq_right (by omega)];have h1:m.toNat / 2 ^ n.toNat=0:=Nat.div_eq_of_lt (apJ m.isLt (Nat.pow_le_pow_right (by decide) (by omega)));rw[h1];have:=m.isLt;omega
  rw[this];rfl) ai
theorem af4{t de:TypeId}{x y:Operand}{m n:BitVec 64}(hx:bt tm c x (u64 m):=by exact cb) (aY:bt tm c y (u64 n):=by exact cb):bW P N (.binOp .shl t x y de) tm A c (u64 (m<<<n.toNat)):=
 λai=>oj hx aY (λw=>by
  have h0:(0:Int)<=(n.toNat:Int):=by omega
  simp only[binOp,shift_shl_any .u64 .u64 _ _ h0,IntKind.bits,aoF];show Result.ok (Value.int .u64 (IntKind.u64.wrap ((m.toNat:Int)* 2 ^ min n.toNat 64))) w=_;have e:((m.toNat:Int)* 2 ^ min n.toNat 64)=((m.toNat* 2 ^ min n.toNat 64:Nat):Int):=by simp
  have:IntKind.u64.wrap ((m.toNat:Int)* 2 ^ min n.toNat 64)=(((m<<<n.toNat).toNat:Nat):Int):=by
   rw[e,DZ,BitVec.toNat_shiftLeft,Nat.shiftLeft_eq];by_cases h:n.toNat<=64
   ·rw[aqS h]
   rw[Nat.min_eq_right (by omega)];have h1:(2:Nat) ^ n.toNat=2 ^ 64* 2 ^ (n.toNat-64):=by rw[<-Nat.pow_add];congr 1;omega
   rw[h1,<-Nat.mul_assoc,Nat.mul_right_comm,Nat.mul_mod_left,Nat.mul_mod_left]
  rw[this];rfl) ai
inductive kf(tm:dY)(c:Bool):List Operand->List Value->Prop where
 | nil:kf tm c [] []
 | cons {x:Operand} {v:Value} {xs:List Operand} {vs:List Value}:bt tm c x v->kf tm c xs vs->kf tm c (x::xs) (v::vs)
theorem kf.get{a:Act}{xs:List Operand}{vs:List Value}(h:kf tm c xs vs)(aj:iG N tm a)(ai:c=true):xs.map a.eval=vs:=by
 induction h with
 | nil=>rfl
 | cons h1 _ bP=>rw[apg,h1.get aj ai,bP]
theorem afe{s t:TypeId}{x:Operand}{n:Int}{d:TypeDesc}[aj:jr P s d][aJ:jr P t (.int .u64)](hx:bt tm c x (.int .i64 n):=by exact cb):bW P N (.convert s t x) tm A c (u64 (BitVec.ofInt 64 n)):=
 λai a w _ _ _ _ _ cy _=>by simp only[execOp,hx.get cy ai];refine hX ?_;simp[convert,run_underlying aj.h,run_underlying aJ.h,Conv.intToInt];show _=u64 _;unfold u64;rw[BitVec.toNat_ofInt,IntKind.wrap_u64];congr 1;omega
theorem aff{s t:TypeId}{x:Operand}{n:BitVec 64}{d:TypeDesc}[aj:jr P s d][aJ:jr P t (.int .i64)](hx:bt tm c x (u64 n):=by exact cb) (hb:c=true->n.toNat<9223372036854775808:=by(intro _;first | assumption | omega)):bW P N (.convert s t x) tm A c (.int .i64 (n.toNat:Int)):=
 λai a w _ _ _ _ _ cy _=>by simp only[execOp,hx.get cy ai];refine hX ?_;have h:=y3 (n:=(n.toNat:Int)) ⟨by omega,by have:=hb ai;omega⟩;unfold xK at h;simp[convert,run_underlying aj.h,run_underlying aJ.h,Conv.intToInt,u64,h]
theorem afZ{t:TypeId}{x:Operand}{b:Bool}(hx:bt tm c x (.bool b):=by exact cb):bW P N (.unOp .not t x) tm A c (.bool (!b)):=
 λai a w _ _ _ _ _ cy _=>by simp only[execOp,hx.get cy ai];rfl
theorem afT{t de:TypeId}{x y:Operand}{b d:Bool}[aJ:jr P t .bool](hx:bt tm c x (.bool b):=by exact cb)(aY:bt tm c y (.bool d):=by exact cb):bW P N (.binOp .neq t x y de) tm A c (.bool (!(b==d))):=
 λai a w _ _ _ _ _ cy _=>by simp only[execOp,hx.get cy ai,aY.get cy ai];have az:(eqGuard .neq t x y (.bool b) (.bool d)).run P w=.ok () w:=rfl;simp[az,run_neq_bool w t b d aJ.h]
theorem afm{x:Operand}{vs:List Value}{i:Nat}{v:Value}(hx:bt tm c x (.tuple vs.toArray):=by exact cb)(ax:vs[i]?=some v:=by rfl):bW P N (.extract x i) tm A c v:=
 λai a w _ _ _ _ _ cy _=>by simp only[execOp,hx.get cy ai];refine hX ?_;simp[Instr.extract,ax]
theorem afp{fn:Fn}{fO cs:List Operand}{Vn Vm:List Value}(hf:kf tm c fO Vn:=by first | exact .nil | exact .cons ⟨_,rfl,λ_=>rfl⟩ .nil | exact .cons ⟨_,rfl,λ_=>rfl⟩ (.cons ⟨_,rfl,λ_=>rfl⟩ .nil) | (repeat (first | exact .nil | apply kf.cons ⟨_,rfl,λ_=>rfl⟩ | apply kf.cons ⟨_,rfl,λh=>h⟩ | apply kf.cons ⟨_,rfl,zV⟩)))(fP:kf tm c cs Vm:=by first | exact .nil | exact .cons ⟨_,rfl,λ_=>rfl⟩ .nil | exact .cons ⟨_,rfl,λ_=>rfl⟩ (.cons ⟨_,rfl,λ_=>rfl⟩ .nil) | (repeat (first | exact .nil | apply kf.cons ⟨_,rfl,λ_=>rfl⟩ | apply kf.cons ⟨_,rfl,λh=>h⟩ | apply kf.cons ⟨_,rfl,zV⟩))): bW P N (.makeFunc fn fO.toArray cs.toArray) tm A c (.func fn Vn.toArray Vm.toArray):=
 λai a w _ _ _ _ _ cy _=>by simp only[execOp];refine hX ?_;simp[Instr.makeFunc,hf.get cy ai,fP.get cy ai]
class gS(P:Program)(t:TypeId):Prop where
 h:(isAgg t).run P=λw=>.ok false w
class ij(P:Program)(t:TypeId)(n:outParam Nat):Prop where
 h:(isAgg t).run P=λw=>.ok true w
 n:(sizeOf t).run P=λw=>.ok n w
class ch(P:Program)(s:TypeId)(f:Nat)(o:outParam Nat):Prop where
 h:∀a w,(Instr.fieldAt s (.pointer (some a)) f).run P w=.ok (.pointer (some (a.add o))) w
class fD(P:Program)(t:TypeId)(e:outParam TypeId):Prop where
 h:P.underlying t=some (.slice e)
class dn(P:Program)(e:TypeId)(n b:outParam Nat)(z:outParam Value):Prop where
 h:∃i,P.info? e=some i/\i.size=n/\i.bytes=b/\i.zero=some z
theorem gS.of{t:TypeId}{d:TypeDesc}(h:P.underlying t=some d)(hd:(match d with | .struct _ | .array _ _=>true | _=>false)=false:=by rfl):gS P t:=by refine⟨funext λw=>?_⟩;cases d<;>simp_all [isAgg,run_underlying h]
theorem ij.of{t:TypeId}{d:TypeDesc}{n:Nat}(h:P.underlying t=some d)(hd:(match d with | .struct _ | .array _ _=>true | _=>false)=true:=by rfl) (bd:(P.info? t).map (·.size)=some n:=by kernel_rfl):ij P t n:=by
 refine⟨funext λw=>?_,funext λw=>?_⟩
 ·cases d<;>simp_all [isAgg,run_underlying h]
 obtain⟨i,hi,gY⟩:=aqG.1 bd;simp[sizeOf,typeInfo,hi,gY]
theorem dn.of{e:TypeId}{n b:Nat}{z:Value}(h:(P.info? e).map (λi=>(i.size,i.bytes,i.zero))=some (n,b,some z):=by kernel_rfl):dn P e n b z:=by obtain⟨i,hi,gY⟩:=aqG.1 h;injection gY with h1 h2;injection h2 with h2 h3;exact⟨i,hi,h1,h2,h3⟩
theorem ch.of{s:TypeId}{fO:Array Field}{f:Nat}{fd:Field}{o n:Nat}(h:P.underlying s=some (.struct fO))(hf:fO[f]?=some fd:=by rfl)(bn:fd.offset=o:=by rfl) (bd:(P.info? fd.type).map (·.size)=some (n+1):=by kernel_rfl):ch P s f o:=by refine⟨λa w=>?_⟩;obtain⟨i,hi,gY⟩:=aqG.1 bd;simp[Instr.fieldAt,run_underlying h,hf,Instr.sureAddr,fieldPlace,sizeOf,typeInfo,hi,gY,bn]
theorem afn{s:TypeId}{x:Operand}{f o b off:Nat}[hf:ch P s f o](hx:bt tm c x (.pointer (some ⟨b,off,none⟩)):=by exact cb): bW P N (.fieldAddr s x f) tm A c (.pointer (some ⟨b,off+o,none⟩)):=
 λai a w _ _ _ _ _ cy _=>by
  simp only[execOp,hx.get cy ai];refine hX ?_;rw[hf.h];unfold Addr.add;split
  ·rename_i h;subst h;rfl
  rfl
theorem H7(v:Value)(sz i o xU:Nat):(gT v sz i o).add xU=gT v sz i (o+xU):=by unfold gT;split<;>rw[add_add]
theorem afo{s:TypeId}{x:Operand}{f o sz i xU:Nat}{v:Value}[hf:ch P s f o](hx:bt tm c x (.pointer (some (gT v sz i xU))):=by exact cb): bW P N (.fieldAddr s x f) tm A c (.pointer (some (gT v sz i (xU+o)))):=
 λai a w _ _ _ _ _ cy _=>by simp only[execOp,hx.get cy ai];refine hX ?_;rw[hf.h,H7]
theorem GV{t:TypeId}{p:Addr}{v:Value}{w:World}[aJ:gS P t](h:w.cell? p=some v):(Instr.loadAt t (.pointer (some p))).run P w=.ok v w:=by simp[Instr.loadAt,Instr.sureAddr,loadVar,aJ.h,h]
theorem L1{t:TypeId}{p:Addr}{n:Nat}{w:World}[aJ:ij P t n](cs:List Value)(bd:cs.length=n)(h:∀j v,cs[j]?=some v->w.cell? (p.add j)=some v): (Instr.loadAt t (.pointer (some p))).run P w=.ok (.agg cs.toArray) w:=by subst bd;simp[Instr.loadAt,Instr.sureAddr,loadVar,aJ.h,aJ.n,run_loadCells_list w p cs h]
theorem yc{b:Nat}{cs:List Value}{tt:TypeId}{w:World}(h:(aB.box b cs tt).ok w){j:Nat}{v:Value}(ae:cs[j]?=some v):w.cell? ⟨b,j,none⟩=some v:=by simp only[aB.ok]at h;simp[World.cell?,h,ae]
theorem afG{t b off tt:Nat}{x:Operand}{v:Value}{cs:List Value}[aJ:gS P t](hx:bt tm c x (.pointer (some ⟨b,off,none⟩)):=by exact cb) (hm:aB.box b cs tt∈H:=by exact oR) (ax:cs[off]?=some v:=by rfl):bW P N (.load t x) tm (Mem bs H) c v:=
 λai a w _ _ _ _ _ cy hw=>by simp only[execOp,hx.get cy ai];exact hX (GV (yc (hw.own _ hm) ax))
theorem zo{t b off tt n:Nat}{x:Operand}{cs:List Value}[aJ:ij P t n](hx:bt tm c x (.pointer (some ⟨b,off,none⟩)):=by exact cb) (hm:aB.box b cs tt∈H:=by exact oR) (bd:Nat.ble (off+n) cs.length=true:=by rfl):bW P N (.load t x) tm (Mem bs H) c (.agg ((cs.drop off).take n).toArray):=
 λai a w _ _ _ _ _ cy hw=>by
  simp only[execOp,hx.get cy ai];refine hX (L1 _ (by have:=apv.mp bd;simp;omega) λj v ae=>?_);have qM:cs[off+j]?=some v:=by
   rw[apV]at ae;split at ae
   ·rw[apW]at ae;exact ae
   cases ae
  have ai:=yc (hw.own _ hm) qM;unfold Addr.add;split
  ·rename_i h0;subst h0;exact ai
  exact ai
class eg{aX:Type}(enc:aX->List Value)(sz:outParam Nat):Prop where
 len:∀x,(enc x).length=sz
 pos:0<sz
theorem eg.ne{aX:Type}{enc:aX->List Value}{sz:Nat}[he:eg enc sz](x:aX):enc x≠[]:=λh=>by have h1:=he.len x;have h2:=he.pos;rw[h]at h1;simp at h1;omega
theorem getD_some{aX:Type}[Inhabited aX]{xs:List aX}{i:Nat}(h:i<xs.length):xs[i]?=some (xs.getD i default):=by rw[aov h,aor,aov h];rfl
theorem NM{aX:Type}{S:Nat->Prop}{B w:World}{enc:aX->List Value}{sz:Nat}{v:Value}{xs:List aX}(h:aZ S B enc sz v xs)(hA:kK S B w){i j:Nat}{x:aX}{u:Value} (hi:xs[i]?=some x) (ae:(enc x)[j]?=some u):w.cell? (gT v sz i j)=some u:=by
 have ai:=h.cell i x j u hi ae;obtain⟨a,n,cap,ax,bd,_,_,fQ⟩:=h.is;have gJ:i<xs.length:=by
  rcases ao6 i xs.length with cm | cm
  ·exact cm
  simp[aoV cm]at hi
 have oJ:0<n:=by omega
 obtain⟨A,rfl⟩:=apf.1 (fQ oJ);subst ax;refine z1 hA ?_ ai;simp only[gT,B1];exact h.wo A n cap rfl oJ
theorem afH{aX:Type}[Inhabited aX]{S:Nat->Prop}{B:World}{enc:aX->List Value}{sz i o t:Nat}{v u:Value}{xs:List aX}{x:Operand}[aJ:gS P t] (hx:bt tm c x (.pointer (some (gT v sz i o))):=by exact cb) (h:aZ S B enc sz v xs:=by assumption) (hB:(B,S)∈bs:=by exact oR) (hi:c=true->i<xs.length:=by first | (intro _;assumption) | (intro _;omega) | (intro ai;simp only[aoo,aox,aoq,aoz,aoC,aos,an,au]at ai;omega)) (ax:(enc (xs.getD i default))[o]?=some u:=by rfl):bW P N (.load t x) tm (Mem bs H) c u:=
 λai a w _ _ _ _ _ cy hw=>by simp only[execOp,hx.get cy ai];exact hX (GV (NM h (hw.base _ hB) (getD_some (hi ai)) ax))
theorem afI{aX:Type}[Inhabited aX]{S:Nat->Prop}{B:World}{enc:aX->List Value}{sz i t:Nat}{v:Value}{xs:List aX}{x:Operand}[aJ:ij P t sz][he:eg enc sz] (hx:bt tm c x (.pointer (some (gT v sz i 0))):=by exact cb) (h:aZ S B enc sz v xs:=by assumption) (hB:(B,S)∈bs:=by exact oR) (hi:c=true->i<xs.length:=by first | (intro _;assumption) | (intro _;omega) | (intro ai;simp only[aoo,aox,aoq,aoz,aoC,aos,an,au]at ai;omega)):bW P N (.load t x) tm (Mem bs H) c (.agg (enc (xs.getD i default)).toArray):=
 λai a w _ _ _ _ _ cy hw=>by simp only[execOp,hx.get cy ai];refine hX (L1 _ (he.len _) λj u ae=>?_);rw[H7,aqX];exact NM h (hw.base _ hB) (getD_some (hi ai)) ae
theorem Du{aX:Type}{enc:aX->List Value}{sz tt:Nat}{v:Value}{xs:List aX}{w:World}[he:eg enc sz](h:(aB.own v tt sz enc xs).ok w){i j:Nat}{x:aX}{u:Value} (hi:xs[i]?=some x) (ae:(enc x)[j]?=some u):w.cell? (gT v sz i j)=some u:=by
 obtain⟨h1,h2⟩:=h;have gJ:i<xs.length:=by
  rcases ao6 i xs.length with cm | cm
  ·exact cm
  simp[aoV cm]at hi
 rcases h2 with⟨_,h2⟩ | ⟨g,cap,cur,ax,_,eC,bd,_,ej,gj⟩
 ·omega
 subst ax;have gD:j<sz:=by
  rcases ao6 j sz with cm | cm
  ·exact cm
  rw[aoV (by rw[he.len];omega)]at ae;cases ae
 have key:∀(xs:List aX) (i:Nat),xs[i]?=some x->(xs.flatMap enc)[i* sz+j]?=some u:=by
  intro xs
  induction xs with
  | nil=>intro i hi;simp at hi
  | cons y ys bP=>
   intro i hi;rw[ao8];cases i with
   | zero=>simp at hi;subst hi;rw[aoT (by rw[he.len];omega)];simpa using ae
   | succ i=>rw[aoS (by rw[he.len,aqi];omega),he.len,show(i+1)* sz+j-sz=i* sz+j from by rw[aqi];omega];exact bP i (by simpa using hi)
 have hk:=key xs i hi;rw[<-gj,apV]at hk;split at hk
 ·have e:gT (.slice (some ⟨g,0,none⟩) xs.length cap) sz i j=⟨g,i* sz+j,none⟩:=by
   simp only[gT,add_add];unfold Addr.add;split
   ·rename_i h0;rw[h0]
   simp
  rw[e];simp only[World.cell?,eC];simpa using hk
 cases hk
theorem afJ{aX:Type}[Inhabited aX]{enc:aX->List Value}{sz i o t tt:Nat}{v u:Value}{xs:List aX}{x:Operand}[aJ:gS P t][he:eg enc sz] (hx:bt tm c x (.pointer (some (gT v sz i o))):=by exact cb) (hm:aB.own v tt sz enc xs∈H:=by exact oR) (hi:c=true->i<xs.length:=by first | (intro _;assumption) | (intro _;omega) | (intro ai;simp only[aoo,aox,aoq,aoz,aoC,aos,an,au]at ai;omega)) (ax:(enc (xs.getD i default))[o]?=some u:=by rfl):bW P N (.load t x) tm (Mem bs H) c u:=
 λai a w _ _ _ _ _ cy hw=>by simp only[execOp,hx.get cy ai];exact hX (GV (Du (hw.own _ hm) (getD_some (hi ai)) ax))
theorem afK{aX:Type}[Inhabited aX]{enc:aX->List Value}{sz i t tt:Nat}{v:Value}{xs:List aX}{x:Operand}[aJ:ij P t sz][he:eg enc sz] (hx:bt tm c x (.pointer (some (gT v sz i 0))):=by exact cb) (hm:aB.own v tt sz enc xs∈H:=by exact oR) (hi:c=true->i<xs.length:=by first | (intro _;assumption) | (intro _;omega) | (intro ai;simp only[aoo,aox,aoq,aoz,aoC,aos,an,au]at ai;omega)):bW P N (.load t x) tm (Mem bs H) c (.agg (enc (xs.getD i default)).toArray):=
 λai a w _ _ _ _ _ cy hw=>by simp only[execOp,hx.get cy ai];refine hX (L1 _ (he.len _) λj u ae=>?_);rw[H7,aqX];exact Du (hw.own _ hm) (getD_some (hi ai)) ae
theorem LZ{t e sz b:Nat}{z:Value}{k:IntKind}{n:Int}{a:Option Addr}{len cap:Nat}{w:World}[aJ:fD P t e][cF:dn P e sz b z](h0:0<=n/\n<len)(ay:a.isSome=true): (Instr.indexAt t (.slice a len cap) (.int k n)).run P w=.ok (.pointer (some (gT (.slice a len cap) sz n.toNat 0))) w:=by obtain⟨A,rfl⟩:=apf.1 ay;obtain⟨i,hi,mF,_⟩:=cF.h;subst mF;simp[Instr.indexAt,asIntOf,run_underlying aJ.h,h0,sizeOf,typeInfo,hi,gT,Addr.add]
theorem Te{aX:Type}{S:Nat->Prop}{B:World}{enc:aX->List Value}{sz t e b:Nat}{z v:Value}{k:IntKind}{n:Int}{xs:List aX}{x y:Operand}[aJ:fD P t e][cF:dn P e sz b z] (hx:bt tm c x v:=by exact cb) (aY:bt tm c y (.int k n):=by exact cb) (h:aZ S B enc sz v xs:=by assumption) (hb:c=true->0<=n/\n<xs.length:=by first | (intro _;omega) | (intro ai;simp only[aoo,aox,aoq,aoz,aoC,aos,an,au]at ai;omega)):bW P N (.indexAddr t x y) tm A c (.pointer (some (gT v sz n.toNat 0))):=
 λai a w _ _ _ _ _ cy hw=>by simp only[execOp,hx.get cy ai,aY.get cy ai];obtain⟨dJ,sA,cap,ax,bd,_,_,fQ⟩:=h.is;subst ax;subst bd;exact hX (LZ (hb ai) (fQ (by have:=hb ai;omega)))
theorem afx{aX:Type}{S:Nat->Prop}{B:World}{enc:aX->List Value}{sz t e b n:Nat}{z v:Value}{k:IntKind}{xs:List aX}{x y:Operand}[aJ:fD P t e][cF:dn P e sz b z] (hx:bt tm c x v:=by exact cb) (aY:bt tm c y (.int k (n:Int)):=by exact cb) (h:aZ S B enc sz v xs:=by assumption) (hb:c=true->n<xs.length:=by first | (intro _;assumption) | (intro _;omega) | (intro ai;simp only[aoo,aox,aoq,aoz,aoC,aos,an,au]at ai;omega)):bW P N (.indexAddr t x y) tm A c (.pointer (some (gT v sz n 0))):=
 λai a w d ty pos cV g cy hw=>by have:=Te (A:=A) (P:=P) (N:=N) (t:=t) (k:=k) hx aY h (λai=>⟨by omega,by have:=hb ai;omega⟩) ai a w d ty pos cV g cy hw;simpa using this
theorem sF{aX:Type}{enc:aX->List Value}{sz tt:Nat}{v:Value}{xs:List aX}{w:World}(h:(aB.own v tt sz enc xs).ok w):∃a cap,v=.slice a xs.length cap/\(0<xs.length->a.isSome=true)/\xs.length<=cap/\cap<=maxLen:=by
 obtain⟨_,⟨ax,h2⟩ | ⟨g,cap,cur,ax,_,_,bd,hm,_⟩⟩:=h
 ·exact⟨none,0,by rw[h2];exact ax,λh=>by omega,by omega,by unfold maxLen;omega⟩
 exact⟨some ⟨g,0,none⟩,cap,ax,λ_=>rfl,bd,hm⟩
theorem Tg{aX:Type}{enc:aX->List Value}{sz t tt e b:Nat}{z v:Value}{k:IntKind}{n:Int}{xs:List aX}{x y:Operand}[aJ:fD P t e][cF:dn P e sz b z] (hx:bt tm c x v:=by exact cb) (aY:bt tm c y (.int k n):=by exact cb) (hm:aB.own v tt sz enc xs∈H:=by exact oR) (hb:c=true->0<=n/\n<xs.length:=by first | (intro _;omega) | (intro ai;simp only[aoo,aox,aoq,aoz,aoC,aos,an,au]at ai;omega)):bW P N (.indexAddr t x y) tm (Mem bs H) c (.pointer (some (gT v sz n.toNat 0))):=
 λai a w _ _ _ _ _ cy hw=>by simp only[execOp,hx.get cy ai,aY.get cy ai];obtain⟨dJ,cap,ax,fQ,_⟩:=sF (hw.own _ hm);subst ax;exact hX (LZ (hb ai) (fQ (by have:=hb ai;omega)))
theorem afy{aX:Type}{enc:aX->List Value}{sz t tt e b n:Nat}{z v:Value}{k:IntKind}{xs:List aX}{x y:Operand}[aJ:fD P t e][cF:dn P e sz b z] (hx:bt tm c x v:=by exact cb) (aY:bt tm c y (.int k (n:Int)):=by exact cb) (hm:aB.own v tt sz enc xs∈H:=by exact oR) (hb:c=true->n<xs.length:=by first | (intro _;assumption) | (intro _;omega) | (intro ai;simp only[aoo,aox,aoq,aoz,aoC,aos,an,au]at ai;omega)):bW P N (.indexAddr t x y) tm (Mem bs H) c (.pointer (some (gT v sz n 0))):=
 λai a w d ty pos cV g cy hw=>by have:=Tg (P:=P) (N:=N) (bs:=bs) (t:=t) (k:=k) hx aY hm (λai=>⟨by omega,by have:=hb ai;omega⟩) ai a w d ty pos cV g cy hw;simpa using this
theorem L0{t ty e n cap:Nat}{a:Option Addr}{w:World}[aJ:fD P t e]:(Builtin.len_ #[t] ty #[.slice a n cap]).run P w=.ok (.int .i64 (n:Int)) w:=by simp[Builtin.len_,run_underlying aJ.h,goInt]
theorem EI{x:Operand}{t:TypeId}{v u:Value}{a:Act}{w:World}{d:Option Tmp}{ty:TypeId}{pos:String}{cV:Array Edge}{g:Option (Nat×Bool)} (hx:a.eval x=v) (h:(Builtin.len_ #[t] ty #[v]).run P w=.ok u w):(execOp a.eval ⟨d,.call {callee:=.builtin .len,args:=#[x],argTypes:=#[t]},ty,pos,cV,g⟩).run P w=.ok (.value u) w:=by simp[execOp,resolve,invoke,builtin,hx,h]
theorem afz{aX:Type}{S:Nat->Prop}{B:World}{enc:aX->List Value}{sz t e:Nat}{v:Value}{xs:List aX}{x:Operand}[aJ:fD P t e] (hx:bt tm c x v:=by exact cb) (h:aZ S B enc sz v xs:=by assumption):bW P N (.call {callee:=.builtin .len,args:=#[x],argTypes:=#[t]}) tm A c (.int .i64 (xs.length:Int)):=
 λai a w _ _ _ _ _ cy hw=>by obtain⟨dJ,cap,ax,_⟩:=h.len;exact EI (hx.get cy ai) (by rw[ax];exact L0)
theorem afB{aX:Type}{enc:aX->List Value}{sz t tt e:Nat}{v:Value}{xs:List aX}{x:Operand}[aJ:fD P t e] (hx:bt tm c x v:=by exact cb) (hm:aB.own v tt sz enc xs∈H:=by exact oR):bW P N (.call {callee:=.builtin .len,args:=#[x],argTypes:=#[t]}) tm (Mem bs H) c (.int .i64 (xs.length:Int)):=
 λai a w _ _ _ _ _ cy hw=>by obtain⟨dJ,cap,ax,_⟩:=sF (hw.own _ hm);exact EI (hx.get cy ai) (by rw[ax];exact L0)
end
def aD(v:Value):Prop:=∃a n cap,v=.slice a n cap
theorem aD.cells{v:Value}(h:aD v):v.cells=[v].toArray:=by obtain⟨a,n,cap,rfl⟩:=h;rfl
theorem aD.one{v:Value}(h:aD v):v.oneCell'=true:=by obtain⟨a,n,cap,rfl⟩:=h;rfl
theorem aZ.aK{aX:Type}{S:Nat->Prop}{w:World}{enc:aX->List Value}{sz:Nat}{v:Value}{xs:List aX}(h:aZ S w enc sz v xs):aD v:=by obtain⟨a,n,cap,ax,_⟩:=h.is;exact⟨a,n,cap,ax⟩
class jo(P:Program)(e:TypeId){aX:outParam Type}(enc:outParam (aX->List Value))(dec:outParam (List Value->aX)):Prop where
 ok:True
def Fr(n:Nat):Nat->Prop:=λk=>n<=k
def al:Nat->Prop:=λ_=>True
section
variable {P:Program} {N:Nat} {tm:dY} {A:World->Prop} {bs:List dm} {H:List aB} {Q:Exit->Act->World->Prop} {K:Act->World->Prop} {dst:Option Tmp}
theorem RY{b:Nat}{w:World}(h:Mem bs H w)(hb:b=w.heap.size)(cs:List Value)(t:TypeId):Mem bs (.box b cs t::H) (w.alloc (.cells cs.toArray t)):=by
 subst hb;refine h.new rfl rfl rfl (by simp) (λk hk=>heap_alloc_old w _ hk) (heap_alloc_new w _) (λk hk=>?_) λk hk=>?_
 ·simp only[aB.cN,aoB]at hk;subst hk;simp
 simp only[aB.cN,aoB]at hk;omega
theorem te{v:Value}{cs:List Value}(h:v.cells=cs.toArray:=by first | exact aD.cells (by assumption) | exact aD.cells (aZ.aK (by assumption)) | rfl):v.cells=cs.toArray:=h
theorem ru{d:Nat}{t:TypeId}{x:Operand}{v:Value}{cs:List Value}(ab:∀b,cR N K ((d,true,.pointer (some ⟨b,0,none⟩))::tm) (Mem bs (.box b cs t::H))) (hx:bt tm true x v:=by exact cb) (fP:v.cells=cs.toArray:=by exact te) (hd:Nat.blt d N=true:=by rfl):gz P N (.box t x) (some d) Q tm (Mem bs H) K:=by
 intro a w ty pos cV g aj hw;unfold Oper.wp;have aM:(execOp a.eval ⟨some d,.box t x,ty,pos,cV,g⟩).run P w=.ok (.value (.pointer (some ⟨w.heap.size,0,none⟩))) (w.alloc (.cells cs.toArray t)):=by simp[execOp,hx.get aj rfl,Instr.box,newVar,newRow,fP]
 rw[aM];exact ab _ _ _ (by simpa using aj.put (apv.mp hd) true _) (RY hw rfl cs t)
theorem fb{d:Nat}{t:TypeId}{n b:Nat}{z:Value}{cs:List Value}[cF:dn P t n b z](ab:∀b,cR N K ((d,true,.pointer (some ⟨b,0,none⟩))::tm) (Mem bs (.box b cs t::H))) (fP:z.cells=cs.toArray:=by rfl) (hd:Nat.blt d N=true:=by rfl):gz P N (.alloc t) (some d) Q tm (Mem bs H) K:=by
 intro a w ty pos cV g aj hw;unfold Oper.wp;have aM:(execOp a.eval ⟨some d,.alloc t,ty,pos,cV,g⟩).run P w=.ok (.value (.pointer (some ⟨w.heap.size,0,none⟩))) (w.alloc (.cells cs.toArray t)):=by obtain⟨i,hi,_,_,a1⟩:=cF.h;simp[execOp,Instr.alloc,zeroValue,typeInfo,hi,a1,newVar,newRow,fP]
 rw[aM];exact ab _ _ _ (by simpa using aj.put (apv.mp hd) true _) (RY hw rfl cs t)
theorem flatMap_replicate{aX:Type}(enc:aX->List Value)(x:aX):∀n,(List.replicate n x).flatMap enc=(List.replicate n (enc x)).flatten
 | 0=>rfl
 | n+1=>by rw[aq0,ao8,flatMap_replicate enc x n,aq0,List.flatten_cons]
theorem RN(z:Array Value)(akt:0<z.size):∀n,(madeCells z (n* z.size)).toList=(List.replicate n z.toList).flatten:=by
 intro n;have key:∀n,(List.range (n* z.size)).map (λi=>z[i % z.size]!)=(List.replicate n z.toList).flatten:=by
  intro n
  induction n with
  | zero=>simp
  | succ n bP=>
   rw[aqi,Nat.one_mul,List.range_add,apm,bP,aqR,List.flatten_append];congr 1;simp only[List.flatten_cons,List.flatten_nil,aoH,aq9];apply apq
   ·simp
   intro i h1 h2;simp at h1;have hm:(n* z.size+i) % z.size=i:=by rw[Nat.mul_comm,Nat.mul_add_mod];exact aqt h1
   simp[hm,h1]
 unfold madeCells;simpa using key n
theorem gC{aX:Type}{d t:Nat}{x y:Operand}{n m:Int}(enc:aX->List Value) (dec:List Value->aX) (e:Nat) (sz:Nat) (b:Nat) (z:Value)[aJ:fD P t e][cF:dn P e sz b z][jo P e enc dec][he:eg enc sz](hx:bt tm true x (.int .i64 n):=by exact cb) (aY:bt tm true y (.int .i64 m):=by exact cb) (a1:enc (dec z.cells.toList)=z.cells.toList:=by rfl) (hb:0<=n/\n<=m/\(b:Int)* m<=281474976710656/\m<=9223372036854775807:=by omega) (hd:Nat.blt d N=true:=by rfl) (ab:∀v,aD v->cR N K ((d,true,v)::tm) (Mem bs (.own v e sz enc (List.replicate n.toNat (dec z.cells.toList))::H))):gz P N (.makeSlice t x y) (some d) Q tm (Mem bs H) K:=by
 intro a w ty pos cV g aj hw;unfold Oper.wp;obtain⟨i,hi,mF,pb,rB⟩:=cF.h;have aM:=run_make (P:=P) w t e i z aJ.h hi rB .i64 .i64 n m hb.1 hb.2.1 (by rw[pb];exact hb.2.2.1) hb.2.2.2;have we:(execOp a.eval ⟨some d,.makeSlice t x y,ty,pos,cV,g⟩).run P w=.ok (.value (.slice (some ⟨w.heap.size,0,none⟩) n.toNat m.toNat)) (w.alloc (.cells (madeCells z.cells (m.toNat* i.size)) e)):=by simp[execOp,hx.get aj rfl,aY.get aj rfl,aM]
 rw[we];have pM:z.cells.size=sz:=by have:=he.len (dec z.cells.toList);rw[a1]at this;simpa using this
 refine ab _ ⟨_,_,_,rfl⟩ _ _ (by simpa using aj.put (apv.mp hd) true _) ?_
 refine hw.new rfl rfl rfl (by simp) (λk hk=>heap_alloc_old w _ hk) ?_ (λk hk=>?_) λk hk=>?_
 ·refine⟨?_,.inr ⟨w.heap.size,m.toNat,_,by simp,aoD _,heap_alloc_new w _,by simp;omega,by unfold maxLen;omega,by rw[size_madeCells,mF],?_⟩⟩
  ·rw[flatMap_replicate,a1];simp[pM]
  rw[flatMap_replicate,a1,mF,<-pM,RN _ (by rw[pM];exact he.pos),aoX];obtain⟨r,aM⟩:∃r,m.toNat=n.toNat+r:=⟨m.toNat-n.toNat,by omega⟩;rw[aM,<-List.replicate_append_replicate,List.flatten_append];exact List.take_left' (by simp)
 ·simp only[aB.cN,Value.ownBlock,Option.toList,aoB]at hk;subst hk;simp
 simp only[aB.cN,Value.ownBlock,Option.toList,aoB]at hk;omega
theorem ea{aX:Type}(e sz:Nat)(enc:aX->List Value)(h:cR N K tm (Mem bs (.own (.slice none 0 0) e sz enc []::H))):cR N K tm (Mem bs H):=by intro a w aj hw;refine h a w aj (hw.new rfl rfl rfl (aoL _) (λ_ _=>rfl) ⟨by simp,.inl ⟨rfl,rfl⟩⟩ (λk hk=>?_) λk hk=>?_)<;>simp[aB.cN,Value.ownBlock]at hk
end
section
variable {P:Program} {N:Nat} {tm:dY} {A:World->Prop} {bs:List dm} {H:List aB} {Q:Exit->Act->World->Prop} {K:Act->World->Prop} {dst:Option Tmp}
def lay(cs:List Value)(off:Nat)(vs:List Value):List Value:=cs.take off++vs++cs.drop (off+vs.length)
theorem T2{t n b:Nat}{z v:Value}{vs:List Value}{g off:Nat}{cur:Array Value}{e:TypeId}{w:World}[cF:dn P t n b z](fP:v.cells=vs.toArray)(bd:vs.length=n) (az:w.heap[g]?=some (.cells cur e (0,0))) (rA:off+n<=cur.size) (h1:∀u,u∈vs->u.oneCell'=true): (Instr.storeAt t (.pointer (some ⟨g,off,none⟩)) v).run P w=.ok () (w.setRow g (lay cur.toList off vs).toArray):=by obtain⟨i,hi,mF,_⟩:=cF.h;subst bd;have cS:=run_storeCells_at P g off e vs 0 cur w az (by simpa using rA) h1;simp only[Nat.add_zero]at cS;simp[Instr.storeAt,Instr.sureAddr,storeVar,sizeOf,typeInfo,hi,mF,fP,cS,lay]
inductive qx:List Value->Prop where
 | nil:qx []
 | cons {v:Value} {vs:List Value}:v.oneCell'=true->qx vs->qx (v::vs)
theorem KZ{vs:List Value}(h:qx vs):∀u,u∈vs->u.oneCell'=true:=by
 induction h with
 | nil=>intro u hu;cases hu
 | cons h1 _ bP=>
  intro u hu;rcases aoO.1 hu with rfl | hu
  ·exact h1
  exact bP u hu
theorem Rn{cs vs:List Value}{off:Nat}(h:off+vs.length<=cs.length):(lay cs off vs).length=cs.length:=by simp[lay];omega
theorem Gp{vs:List Value}(h:qx vs:=by repeat (first | exact qx.nil | apply qx.cons (by first | exact aD.one (by assumption) | exact aD.one (aZ.aK (by assumption)) | rfl))):qx vs:=h
theorem bK{t n kO:Nat}{z v:Value}{x y:Operand}{b off tt:Nat}{cs vs:List Value}[cF:dn P t n kO z](i:Nat) (hx:bt tm true x (.pointer (some ⟨b,off,none⟩)):=by exact cb) (aY:bt tm true y v:=by exact cb) (fP:v.cells=vs.toArray:=by exact te) (hi:H[i]?=some (.box b cs tt):=by rfl) (bd:vs.length=n:=by rfl) (rA:Nat.ble (off+n) cs.length=true:=by rfl) (h1:qx vs:=by exact Gp) (ab:cR N K tm (Mem bs (H.set i (.box b (lay cs off vs) tt)))):gz P N (.store t x y) none Q tm (Mem bs H) K:=by
 intro a w ty pos cV g aj hw;unfold Oper.wp;have P1:=apv.mp rA;have hb:=hw.own _ (aoM hi);simp only[aB.ok]at hb;have aM:(execOp a.eval ⟨none,.store t x y,ty,pos,cV,g⟩).run P w=.ok .skip (w.setRow b (lay cs off vs).toArray):=by have:=T2 (P:=P) (t:=t) fP bd hb (by simpa using P1) (KZ h1);simp[execOp,hx.get aj rfl,aY.get aj rfl,this]
 rw[aM];refine ab a _ aj (hw.q9 hi rfl rfl rfl (by simp) (λk _ hk=>setRow_other w b k _ λe=>hk (by simp[aB.cN,e])) (setRow_heap w b _ _ tt _ hb) (λk hk=>?_) λk hk=>.inl hk)
 have:=hw.fC _ (aoM hi) k hk;simpa using this
theorem Iq{aX:Type}{enc:aX->List Value}{sz:Nat}[he:eg enc sz]:∀(xs:List aX) (i:Nat),i<=xs.length->(xs.flatMap enc).take (i* sz)=(xs.take i).flatMap enc
 | xs,0,_=>by simp
 | [],i+1,h=>by simp at h
 | x::xs,i+1,h=>by
  rw[ao8,List.take_succ_cons,ao8,aqi,Nat.one_mul,Nat.add_comm,List.take_append,he.len,show sz+i* sz-sz=i* sz from by omega,Iq xs i (by simpa using h),aqH (by rw[he.len];omega)]
theorem n2{aX:Type}{enc:aX->List Value}{sz:Nat}[he:eg enc sz](xs:List aX):(xs.flatMap enc).length=xs.length* sz:=by
 induction xs with
 | nil=>simp
 | cons x xs bP=>rw[ao8,aoy,he.len,bP,aoN,aqi];omega
theorem acE(pre Gb post vs:List Value)(o:Nat)(h:o+vs.length<=Gb.length):lay (pre++Gb++post) (pre.length+o) vs=pre++lay Gb o vs++post:=by
 unfold lay;rw[aoP pre Gb post,List.take_append,aqH (by omega:pre.length<=pre.length+o),show pre.length+o-pre.length=o from by omega,List.take_append_of_le_length (by omega),Nat.add_assoc,List.drop_append,aqg (by omega:pre.length<=pre.length+(o+vs.length)),apb,show pre.length+(o+vs.length)-pre.length=o+vs.length from by omega,List.drop_append_of_le_length h]
 simp[aoP]
theorem fq{aX:Type}[Inhabited aX]{enc:aX->List Value}{dec:List Value->aX}{t n kO sz e i o:Nat}{z v u:Value}{x y:Operand}{vs:List Value}{xs:List aX}[cF:dn P t n kO z][jo P e enc dec][he:eg enc sz](k:Nat) (hk:H[k]?=some (.own v e sz enc xs)) (D1:aX) (hx:bt tm true x (.pointer (some (gT v sz i o))):=by exact cb) (aY:bt tm true y u:=by exact cb) (fP:u.cells=vs.toArray:=by exact te) (bd:vs.length=n:=by rfl) (hi:i<xs.length:=by first | assumption | omega) (rA:Nat.ble (o+n) sz=true:=by rfl) (h1:qx vs:=by exact Gp) (hd:enc D1=lay (enc (xs.getD i default)) o vs:=by first | rfl | exact(show enc (dec _)=_ from rfl)) (ab:cR N K tm (Mem bs (H.set k (.own v e sz enc (xs.set i D1))))):gz P N (.store t x y) none Q tm (Mem bs H) K:=by
 intro a w ty pos cV g aj hw;unfold Oper.wp;have P1:=apv.mp rA;have pd:=hw.own _ (aoM hk);obtain⟨v8,⟨_,h0⟩ | ⟨nD,cap,cur,ax,_,eC,qa,sg,ej,gj⟩⟩:=pd
 ·omega
 subst ax;have bu:gT (.slice (some ⟨nD,0,none⟩) xs.length cap) sz i o=⟨nD,i* sz+o,none⟩:=by
  simp only[gT,add_add];unfold Addr.add;split
  ·rename_i h0;rw[h0]
  simp
 have gY:i* sz+sz<=xs.length* sz:=by rw[<-aqD];exact apo _ hi
 have xw:xs.length* sz<=cap* sz:=apo _ qa;have aM:(execOp a.eval ⟨none,.store t x y,ty,pos,cV,g⟩).run P w=.ok .skip (w.setRow nD (lay cur.toList (i* sz+o) vs).toArray):=by have:=T2 (P:=P) (t:=t) (off:=i* sz+o) fP bd eC (by omega) (KZ h1);simp[execOp,hx.get aj rfl,aY.get aj rfl,bu,this]
 rw[aM];have Jk:(lay cur.toList (i* sz+o) vs).length=cur.size:=by rw[Rn (by simp;omega)];simp
 refine ab a _ aj (hw.q9 hk rfl rfl rfl (by simp) (λk _ hk=>setRow_other w nD k _ λe=>hk (by simp[aB.cN,Value.ownBlock,e])) ?_ (λk fk=>?_) λk hk=>.inl (by simpa[aB.cN]using hk))
 ·refine⟨by rw[n2],.inr ⟨nD,cap,_,by simp,aoD _,setRow_heap w nD _ _ e _ eC,by simpa using qa,sg,by simpa[Jk]using ej,?_⟩⟩;have Cv:cur.toList=xs.flatMap enc++cur.toList.drop (xs.length* sz):=by rw[<-gj,aqM]
  have J2:xs=xs.take i++(xs.getD i default::xs.drop (i+1)):=by rw[aor,aov hi];simp
  have wg:xs.set i D1=xs.take i++(D1::xs.drop (i+1)):=by rw[List.set_eq_take_append_cons_drop,aou hi]
  have tA:xs.flatMap enc=(xs.take i).flatMap enc++enc (xs.getD i default)++(xs.drop (i+1)).flatMap enc:=by
   conv=>lhs;rw[J2]
   rw[apc,ao8,aoP]
  have mc:((xs.take i).flatMap enc).length=i* sz:=by rw[n2,ao3,aqS (by omega)]
  have c0:lay cur.toList (i* sz+o) vs=(xs.set i D1).flatMap enc++cur.toList.drop (xs.length* sz):=by
   rw[wg,apc,ao8,hd];conv=>lhs;rw[Cv,tA,aoP,<-mc]
   rw[acE _ _ _ _ _ (by rw[he.len];omega)];simp[aoP]
  rw[c0,<-n2 (enc:=enc) (xs.set i _)];exact List.take_left
 have:=hw.fC _ (aoM hk) k (by simpa[aB.cN]using fk);simpa using this
theorem NI{t ty e sz b:Nat}{z:Value}(w:World)[aJ:fD P t e][cF:dn P e sz b z](pM:z.cells.size=sz)(ej:0<sz) {v:Value} {n:Nat} {xs:List Value} (pd:w.ownsRow 0 e sz v n xs) {a:Option Addr} {m c:Nat} {news:List Value} (aL:news.length=m* sz) (uJ:∀A,a=some A->∀j u,news[j]?=some u->w.cell? (A.add j)=some u) (Ju:a=none->m=0) (h1:∀u,u∈news->u.oneCell'=true) (Cm:n+m<=maxLen) (Au:(n+m)* b<=140737488355328): ∃dG I,(Builtin.append_ #[t,t] ty #[v,.slice a m c]).run P w=.ok dG I/\I.ownsRow 0 e sz dG (n+m) (xs++news)/\w.grownBy I v.ownBlock/\ (∀k,k∈dG.ownBlock.toList->k∈v.ownBlock.toList\/w.heap.size<=k)/\(∀k,k∈dG.ownBlock.toList->k<I.heap.size)/\(m=0->dG=v):=by
 obtain⟨i,hi,mF,pb,rB⟩:=cF.h;subst mF;have alU:n+m<=9223372036854775807:=by simp only[maxLen]at Cm;omega
 have same:m=0->∃cap kO,v=.slice kO n cap/\n<=cap:=by
  intro _;rcases pd.2 with⟨rfl,rfl⟩ | ⟨g,cap,cur,rfl,_,_,qa,_⟩
  ·exact⟨0,none,rfl,aoL _⟩
  exact⟨cap,_,rfl,qa⟩
 have fC:∀k,k∈v.ownBlock.toList->k<w.heap.size:=by
  intro k hk;rcases pd.2 with⟨rfl,rfl⟩ | ⟨g,cap,cur,rfl,_,az,_⟩
  ·simp[Value.ownBlock]at hk
  simp[Value.ownBlock]at hk;subst hk;rcases ao6 k w.heap.size with cm | cm
  ·exact cm
  simp[apD cm]at az
 by_cases hm:m=0
 ·obtain⟨cap,kO,ax,qa⟩:=same hm;subst hm;have yO:news=[]:=aoY (by simpa using aL);subst yO;refine⟨v,w,?_,by simpa using pd,⟨rfl,rfl,rfl,aoL _,λ_ _ _=>rfl⟩,λk hk=>.inl hk,fC,λ_=>rfl⟩;subst ax;have hf:(Builtin.firstCells i.size 0 (.slice a 0 c)).run P w=.ok #[] w:=by
   cases a with
   | none=>simp[Builtin.firstCells]
   | some A=>simpa using run_firstCells_some (P:=P) w i.size 0 A 0 c [] (by simp) (by simp)
  cases kO with
  | none=>simp[Builtin.append_,run_underlying aJ.h,sizeOf,typeInfo,hi,Builtin.lenOf,qa,hf]
  | some A=>simp[Builtin.append_,run_underlying aJ.h,sizeOf,typeInfo,hi,Builtin.lenOf,qa,hf,storeCells]
 obtain⟨A,rfl⟩:∃A,a=some A:=by
  cases a with
  | none=>exact absurd (Ju rfl) hm
  | some A=>exact⟨A,rfl⟩
 obtain⟨dG,I,aM,bn,az,_⟩:=run_append_own (P:=P) w 0 t ty e i z i.size b aJ.h hi rB rfl pb pM ej v n xs pd A m c news aL (uJ A rfl) h1 Cm Au (aoD _);have abF:∀k,k∈dG.ownBlock.toList->k<I.heap.size:=by
  intro k hk;rcases bn.2 with⟨rfl,_⟩ | ⟨g,cap,cur,rfl,_,Z0,_⟩
  ·simp[Value.ownBlock]at hk
  simp[Value.ownBlock]at hk;subst hk;rcases ao6 k I.heap.size with cm | cm
  ·exact cm
  simp[apD cm]at Z0
 refine⟨dG,I,aM,bn,az,?_,abF,λh=>absurd h hm⟩;intro k hk;rcases pd.2 with⟨rfl,rfl⟩ | ⟨g,cap,cur,rfl,ala,I9,qa,sg,fP,alV⟩
 ·have hx:xs=[]:=aoY (by simpa using pd.1);have tE:=run_append_nil (P:=P) w t ty e i z aJ.h hi rB A m c news aL (uJ A rfl) (by omega) (by omega) (by have hb:=Au;simp only[aqX]at hb;rw[pb];omega);rw[tE]at aM;injection aM with aM _;subst aM;simp[Value.ownBlock]at hk;exact .inr (by omega)
 by_cases xG:n+m<=cap
 ·have rA:n* i.size+news.length<=cur.size:=by rw[aL,fP,<-aqi];exact apo _ xG
  have tE:=run_append_room (P:=P) w t ty e i aJ.h hi g n cap cur I9 A m c news aL (uJ A rfl) h1 xG rA;rw[tE]at aM;injection aM with aM _;subst aM;exact .inl hk
 have holds:∀j u,xs[j]?=some u->w.cell? ((⟨g,0,none⟩:Addr).add j)=some u:=pd.cells (g:=g) rfl;have tE:=run_append_grow (P:=P) w t ty e i z aJ.h hi rB ⟨g,0,none⟩ n cap xs pd.1 holds A m c news aL (uJ A rfl) (by omega) (by omega) (by rw[pb];exact growslice_fits (by omega) Au);rw[tE]at aM;injection aM with aM _;subst aM;simp[Value.ownBlock]at hk;exact .inr (by omega)
end
theorem Al{aX:Type}{enc:aX->List Value}{sz:Nat}[he:eg enc sz]:∀(xs:List aX) (j:Nat) (u:Value),(xs.flatMap enc)[j]?=some u->∃i x o,xs[i]?=some x/\(enc x)[o]?=some u/\j=i* sz+o
 | [],j,u,h=>by simp at h
 | x::xs,j,u,h=>by
  rw[ao8]at h;by_cases ae:j<sz
  ·rw[aoT (by rw[he.len];exact ae)]at h;exact⟨0,x,j,rfl,h,by omega⟩
  rw[aoS (by rw[he.len];omega),he.len]at h;obtain⟨i,y,o,h1,h2,h3⟩:=Al xs _ u h;exact⟨i+1,y,o,by simpa using h1,h2,by rw[aqD];omega⟩
theorem aZ.flat{aX:Type}{S:Nat->Prop}{w:World}{enc:aX->List Value}{sz n cap:Nat}{a:Option Addr}{xs:List aX}[he:eg enc sz](h:aZ S w enc sz (.slice a n cap) xs):∀A,a=some A->∀j u,(xs.flatMap enc)[j]?=some u->w.cell? (A.add j)=some u:=by rintro A rfl j u ae;obtain⟨i,x,o,h1,h2,rfl⟩:=Al xs j u ae;have:=h.cell i x o u h1 h2;simpa only[gT,add_add]using this
theorem M6{a:Option Addr}{n:Nat}(h:0<n->a.isSome=true)(ay:a=none):n=0:=by
 rcases Nat.eq_zero_or_pos n with h0 | h0
 ·exact h0
 have:=h h0;rw[ay]at this;cases this
class nR{aX:Type}(enc:aX->List Value)(ok:outParam (aX->Prop)):Prop where
 one:∀x,ok x->∀u,u∈enc x->u.oneCell'=true
section
variable {P:Program} {N:Nat} {tm:dY} {A:World->Prop} {bs:List dm} {H:List aB} {Q:Exit->Act->World->Prop} {K:Act->World->Prop} {dst:Option Tmp} {c:Bool}
theorem aZ.Ua{aX:Type}{S:Nat->Prop}{B w:World}{enc:aX->List Value}{sz:Nat}{v:Value}{xs:List aX}[he:eg enc sz](h:aZ S B enc sz v xs)(hA:kK S B w):aZ S w enc sz v xs:=h.mono hA (λ_ _ h=>h) λx _=>he.ne x
theorem Iw{aX:Type}{enc:aX->List Value}{dec:List Value->aX}{ok:aX->Prop}{d t e sz b k:Nat}{z v u:Value}{x y:Operand}{xs ys:List aX}[aJ:fD P t e][cF:dn P e sz b z][jo P e enc dec][he:eg enc sz][h1:nR enc ok] (hx:bt tm true x v) (aY:bt tm true y u) (hk:H[k]?=some (.own v e sz enc xs)) (a1:Nat.beq z.cells.size sz=true) (aaY:∀w,Mem bs H w->∃a c,u=.slice a ys.length c/\(a=none->ys.length=0)/\∀A,a=some A->∀j q,(ys.flatMap enc)[j]?=some q->w.cell? (A.add j)=some q) (hok:∀y,y∈ys->ok y) (bH:(xs.length+ys.length)* b<=140737488355328/\xs.length+ys.length<=9223372036854775807) (hd:Nat.blt d N=true) (ab:∀dG,aD dG->cR N K ((d,true,dG)::tm) (Mem bs (H.set k (.own dG e sz enc (xs++ys))))):gz P N (.call {callee:=.builtin .append,args:=#[x,y],argTypes:=#[t,t]}) (some d) Q tm (Mem bs H) K:=by
 intro a w ty pos cV g aj hw;unfold Oper.wp;obtain⟨dJ,ye,rfl,Ju,Fc⟩:=aaY w hw;have pd:=hw.own _ (aoM hk);obtain⟨dG,I,aM,bn,az,hf,hi,_⟩:=NI (P:=P) (t:=t) (ty:=ty) (a:=dJ) (c:=ye) w (apZ a1) he.pos pd (m:=ys.length) (news:=ys.flatMap enc) (n2 ys) Fc Ju (λq ba=>by obtain⟨y,aY,ba⟩:=api.1 ba;exact h1.one y (hok y aY) q ba) (by unfold maxLen;omega) bH.1
 have we:(execOp a.eval ⟨some d,.call {callee:=.builtin .append,args:=#[x,y],argTypes:=#[t,t]},ty,pos,cV,g⟩).run P w=.ok (.value dG) I:=by simp[execOp,resolve,invoke,builtin,hx.get aj rfl,aY.get aj rfl,aM]
 rw[we];have hr:aD dG:=by
  rcases bn.2 with⟨rfl,_⟩ | ⟨g,cap,cur,rfl,_⟩
  ·exact⟨_,_,_,rfl⟩
  exact⟨_,_,_,rfl⟩
 refine ab dG hr _ _ (by simpa using aj.put (apv.mp hd) true _) ?_
 refine hw.q9 hk az.os az.tape az.output az.size (λq ba bd=>az.block q ba λe=>bd ?_) ?_ hi hf
 ·simp only[aB.cN,Option.mem_toList];exact e.symm
 show I.ownsRow 0 e sz dG (xs++ys).length ((xs++ys).flatMap enc);rw[aoy,apc];exact bn
theorem uA{aX:Type}{enc:aX->List Value}{dec:List Value->aX}{ok:aX->Prop}{d t e sz b:Nat}{z v u:Value}{x y:Operand}{xs:List aX}{S:Nat->Prop}{B:World}[aJ:fD P t e][cF:dn P e sz b z][jo P e enc dec][he:eg enc sz][h1:nR enc ok](k:Nat) (hk:H[k]?=some (.own v e sz enc xs)) (ys:List aX) (hx:bt tm true x v:=by exact cb) (aY:bt tm true y u:=by exact cb) (h:aZ S B enc sz u ys:=by assumption) (hB:(B,S)∈bs:=by exact oR) (a1:Nat.beq z.cells.size sz=true:=by rfl) (hok:∀y,y∈ys->ok y:=by(intros;trivial)) (bH:(xs.length+ys.length)* b<=140737488355328/\xs.length+ys.length<=9223372036854775807:=by omega) (hd:Nat.blt d N=true:=by rfl) (ab:∀dG,aD dG->cR N K ((d,true,dG)::tm) (Mem bs (H.set k (.own dG e sz enc (xs++ys))))):gz P N (.call {callee:=.builtin .append,args:=#[x,y],argTypes:=#[t,t]}) (some d) Q tm (Mem bs H) K:=
 Iw (dec:=dec) (ok:=ok) hx aY hk a1 (λw hw=>by obtain⟨a,n,cap,hu,bd,_,_,fQ⟩:=h.is;subst hu;subst bd;exact⟨a,cap,rfl,M6 fQ,(h.Ua (hw.base _ hB)).flat⟩) hok bH hd ab
theorem SC{aX:Type}{enc:aX->List Value}{sz tt n cap:Nat}{a:Option Addr}{xs:List aX}{w:World}(h:(aB.own (.slice a n cap) tt sz enc xs).ok w):∀A,a=some A->∀j u,(xs.flatMap enc)[j]?=some u->w.cell? (A.add j)=some u:=by
 rintro A rfl j u ae;have⟨_,h2⟩:=h;rcases h2 with⟨ax,_⟩ | ⟨g,Ca,cur,ax,_⟩
 ·cases ax
 injection ax with h1 h2 h3;injection h1 with h1;subst h1;exact World.ownsRow.cells (g:=g) h rfl j u ae
theorem e6{aX:Type}{enc:aX->List Value}{dec:List Value->aX}{ok:aX->Prop}{d t e sz b tt:Nat}{z v u:Value}{x y:Operand}{xs ys:List aX}[aJ:fD P t e][cF:dn P e sz b z][jo P e enc dec][he:eg enc sz][h1:nR enc ok](k:Nat) (hx:bt tm true x v:=by exact cb) (aY:bt tm true y u:=by exact cb) (hk:H[k]?=some (.own v e sz enc xs)) (hm:aB.own u tt sz enc ys∈H:=by exact oR) (a1:Nat.beq z.cells.size sz=true:=by rfl) (hok:∀y,y∈ys->ok y:=by(intros;trivial)) (bH:(xs.length+ys.length)* b<=140737488355328/\xs.length+ys.length<=9223372036854775807:=by omega) (hd:Nat.blt d N=true:=by rfl) (ab:∀dG,aD dG->cR N K ((d,true,dG)::tm) (Mem bs (H.set k (.own dG e sz enc (xs++ys))))):gz P N (.call {callee:=.builtin .append,args:=#[x,y],argTypes:=#[t,t]}) (some d) Q tm (Mem bs H) K:=
 Iw (dec:=dec) (ok:=ok) hx aY hk a1 (λw hw=>by have bn:=hw.own _ hm;obtain⟨a,cap,hu,fQ,_⟩:=sF bn;subst hu;exact⟨a,cap,rfl,M6 fQ,SC bn⟩) hok bH hd ab
inductive s0(tm:dY)(c:Bool):List (Nat×Operand)->List (Nat×List Value)->Prop where
 | nil:s0 tm c [] []
 | cons {i:Nat} {x:Operand} {v:Value} {cs:List Value} {hl:List (Nat×Operand)} {dM:List (Nat×List Value)}:bt tm c x v->v.cells=cs.toArray->s0 tm c hl dM->s0 tm c ((i,x)::hl) ((i,cs)::dM)
def xo(place:Nat->Option (Nat×Nat)):List Value->List (Nat×List Value)->Option (List Value)
 | cells,[]=>some cells
 | cells,(i,vs)::rest=>
  match place i with
  | none=>none
  | some (off,size)=>bif Nat.beq vs.length size&&Nat.ble (off+vs.length) cells.length then xo place (lay cells off vs) rest else none
theorem ahS(X D:List Value)(v:Value)(vs:List Value)(p:Nat)(E6:X.length=p): (X++v::D).take (p+1)++vs++(X++v::D).drop (p+1+vs.length)=X++v::vs++D.drop vs.length:=by
 subst E6;rw[List.take_append,aqH (by omega:X.length<=X.length+1),show X.length+1-X.length=1 from by omega,List.drop_append,aqg (by omega:X.length<=X.length+1+vs.length),show X.length+1+vs.length-X.length=vs.length+1 from by omega]
 simp
theorem Pu:∀(vs:List Value) (off k:Nat) (cs:Array Value),off+k+vs.length<=cs.size-> (vs.zipIdx k).foldl (λ(cs:Array Value) (p:Value×Nat)=>cs.setIfInBounds (off+p.2) p.1) cs=(lay cs.toList (off+k) vs).toArray
 | [],off,k,cs,_=>by simp[lay]
 | v::vs,off,k,cs,h=>by
  rw[List.zipIdx_cons,apR];simp only[aoN]at h;rw[Pu vs off (k+1) _ (by simp;omega)];simp only[Array.toList_setIfInBounds,lay];congr 1;have dq:off+k<cs.toList.length:=by simp;omega
  rw[show off+(k+1)=off+k+1 from by omega,List.set_eq_take_append_cons_drop,aou dq,ahS _ _ v vs (off+k) (by rw[ao3];omega),List.drop_drop,aoN]
  congr 2;omega
theorem Io(place:Nat->Option (Nat×Nat)):∀(hl:List (Nat×Value)) (dM:List (Nat×List Value)) (cells:List Value) (out:List Value),hl.map (λp=>(p.1,p.2.cells))=dM.map (λq=>(q.1,q.2.toArray))->xo place cells dM=some out->Instr.fill place cells.toArray hl=some out.toArray
 | [],dM,cells,out,hm,h=>by
  cases dM with
  | nil=>simp[xo]at h;subst h;rfl
  | cons q dM=>simp at hm
 | p::hl,dM,cells,out,hm,h=>by
  cases dM with
  | nil=>simp at hm
  | cons q dM=>
   obtain⟨i,v⟩:=p;obtain⟨j,vs⟩:=q;simp only[apg,aqT,Prod.mk.injEq]at hm;obtain⟨⟨rfl,ax⟩,hm⟩:=hm;simp only[xo]at h;simp only[Instr.fill];cases hp:place i with
   | none=>rw[hp]at h;cases h
   | some os=>
    obtain⟨off,size⟩:=os;rw[hp]at h;simp only at h⊢;cases ai:(Nat.beq vs.length size&&Nat.ble (off+vs.length) cells.length)with
    | false=>rw[ai]at h;cases h
    | true=>
     rw[ai]at h;simp only[aoo]at ai;have h1:=apZ ai.1;have h2:=apv.mp ai.2;rw[ax];simp only[ap8,h1,ne_eq,arb,aqY,ap6,aop];rw[aot (by simp;omega)];have:=Pu vs off 0 cells.toArray (by simpa using h2);simp only[Nat.add_zero]at this;have e:(vs.toArray.zipIdx.foldl (λ(cs:Array Value) (p:Value×Nat)=>cs.setIfInBounds (off+p.2) p.1) cells.toArray)=(lay cells off vs).toArray:=by rw[<-this];simp
     rw[e];exact Io place hl dM _ out hm h
end
section
variable {P:Program} {N:Nat} {tm:dY} {A:World->Prop} {bs:List dm} {H:List aB} {Q:Exit->Act->World->Prop} {K:Act->World->Prop} {dst:Option Tmp} {c:Bool}
class je(P:Program)(t:TypeId)(z:outParam Value)(places:outParam (List (Nat×Nat))):Prop where
 h:∀parts w,(Instr.build t parts).run P w=match Instr.fill (λi=>places[i]?) z.cells parts.toList with | some cells=>.ok (.agg cells) w | none=>.halt (.stuck "build: no such field, or a part of the wrong size") w
theorem T0{α β:Type}(f:α->Sem β)(g:α->β)(w:World):∀(l:List α),(∀x,x∈l->(f x).run P w=.ok (g x) w)->(l.mapM f).run P w=.ok (l.map g) w
 | [],_=>by simp
 | x::l,h=>by rw[List.mapM_cons];simp[h x (by simp),T0 f g w l λy aY=>h y (by simp[aY])]
theorem je.of{t:TypeId}{fO:Array Field}{z:Value}{places:List (Nat×Nat)}(hu:P.underlying t=some (.struct fO))(a1:(P.info? t).bind (·.zero)=some z:=by kernel_rfl) (hp:fO.toList.map (λf=>(P.info? f.type).map λi=>(f.offset,i.size))=places.map some:=by kernel_rfl):je P t z places:=by
 refine⟨λparts w=>?_⟩;obtain⟨i,hi,rB⟩:=Option.bind_eq_some_iff.1 a1;have hm:(fO.mapM λf=>(Functor.map (Prod.mk f.offset) (sizeOf f.type):Sem (Nat×Nat))).run P w=.ok places.toArray w:=by
  rw[Array.mapM_eq_mapM_toList];have h1:(fO.toList.mapM λf=>(Functor.map (Prod.mk f.offset) (sizeOf f.type):Sem (Nat×Nat))).run P w=.ok (fO.toList.map λf=>(f.offset,P.cellsOf f.type)) w:=by
   refine T0 _ _ w _ λf hf=>?_;have:(P.info? f.type).map (λi=>(f.offset,i.size))∈places.map some:=by rw[<-hp];exact List.mem_map_of_mem hf
   obtain⟨p,_,uK⟩:=ao9.1 this;obtain⟨j,ae,_⟩:=aqG.1 uK.symm;simp[sizeOf,typeInfo,ae,Program.cellsOf]
  have h2:(fO.toList.map λf=>(f.offset,P.cellsOf f.type))=places:=by
   have:∀(l:List Field) (hl:List (Nat×Nat)),l.map (λf=>(P.info? f.type).map λi=>(f.offset,i.size))=hl.map some->l.map (λf=>(f.offset,P.cellsOf f.type))=hl:=by
    intro l
    induction l with
    | nil=>intro hl h;cases hl with | nil=>rfl | cons _ _=>simp at h
    | cons f l bP=>
     intro hl h;cases hl with
     | nil=>simp at h
     | cons p hl=>simp only[apg,aqT]at h⊢;obtain⟨j,ae,he⟩:=aqG.1 h.1;exact⟨by rw[<-he];simp[Program.cellsOf,ae],bP hl h.2⟩
   exact this _ _ hp
  simp[h1,h2]
 simp[Instr.build,zeroValue,typeInfo,hi,rB,run_underlying hu,hm];split
 ·rename_i cells h;rw[h];simp
 rename_i h;cases ai:Instr.fill (λi=>places[i]?) z.cells parts.toList with
 | none=>simp
 | some cells=>exact absurd ai (h cells)
theorem s0.get{a:Act}{hl:List (Nat×Operand)}{dM:List (Nat×List Value)}(h:s0 tm c hl dM)(aj:iG N tm a)(ai:c=true): (hl.map λp=>(p.1,a.eval p.2)).map (λp=>(p.1,p.2.cells))=dM.map (λq=>(q.1,q.2.toArray)):=by
 induction h with
 | nil=>rfl
 | cons h1 h2 _ bP=>simp only[apg,h1.get aj ai,h2,bP]
theorem Gy{t:TypeId}{z:Value}{places:List (Nat×Nat)}{hl:List (Nat×Operand)}{dM:List (Nat×List Value)}{zs out:List Value}[bL:je P t z places] (hp:s0 tm c hl dM:=by repeat (first | exact .nil | apply s0.cons ⟨_,rfl,λ_=>rfl⟩ (by exact te) | apply s0.cons ⟨_,rfl,λh=>h⟩ (by exact te))) (a1:z.cells=zs.toArray:=by rfl) (hf:xo (λi=>places[i]?) zs dM=some out:=by rfl):bW P N (.build t hl.toArray) tm A c (.agg out.toArray):=
 λai a w _ _ _ _ _ cy hw=>by
  simp only[execOp];refine hX ?_;rw[bL.h,a1];have h2:=Io (λi=>places[i]?) (hl.map λp=>(p.1,a.eval p.2)) dM zs out (hp.get cy ai) hf;have e:(Array.map (λ(x:Nat×Operand)=>match x with | (i,x)=>(i,a.eval x)) hl.toArray).toList=hl.map λp=>(p.1,a.eval p.2):=by simp
  rw[e,h2]
def BQ{α:Type}(p:α->Prop):List α->Prop
 | []=>True
 | x::l=>p x/\BQ p l
theorem BQ.mem{α:Type}{p:α->Prop}:∀{l:List α},BQ p l->∀x,x∈l->p x
 | [],_,x,h=>by cases h
 | y::l,h,x,hx=>by
  rcases aoO.1 hx with rfl | hx
  ·exact h.1
  exact BQ.mem h.2 x hx
theorem Ph(sz:Nat):∀(dM:List (Nat×List Value)) (i:Nat) (pre rest:List Value),dM.map (·.1)=List.range' i dM.length->(∀q,q∈dM->q.2.length=sz)->pre.length=i* sz->rest.length=dM.length* sz-> xo (λi=>some (i* sz,sz)) (pre++rest) dM=some (pre++(dM.map (·.2)).flatten)
 | [],i,pre,rest,_,_,_,aM=>by have:rest=[]:=aoY (by simpa using aM);subst this;simp[xo]
 | q::dM,i,pre,rest,hi,aL,hp,aM=>by
  obtain⟨j,vs⟩:=q;simp only[apg,aoN,List.range'_succ,aqT]at hi;obtain⟨rfl,hi⟩:=hi;have ax:=aL (j,vs) (by simp);simp only at ax;rw[aoN,aqD]at aM;have ai:(Nat.beq vs.length sz&&Nat.ble (j* sz+vs.length) (pre++rest).length)=true:=by rw[aoo];exact⟨by rw[ax];exact Nat.beq_refl _,apv.mpr (by rw[aoy];omega)⟩
  simp only[xo,ai,cond_true];have e:lay (pre++rest) (j* sz) vs=(pre++vs)++rest.drop sz:=by unfold lay;rw[<-hp,List.take_left,List.drop_append,aqg (by omega:pre.length<=pre.length+vs.length),apb,show pre.length+vs.length-pre.length=sz from by omega]
  rw[e,Ph sz dM (j+1) (pre++vs) (rest.drop sz) hi (λq ba=>aL q (by simp[ba])) (by rw[aoy,aqD];omega) (by rw[apG];omega)];simp[aoP]
theorem Pr{aX:Type}{enc:aX->List Value}{dec:List Value->aX}:∀(dM:List (Nat×List Value)),(∀q,q∈dM->enc (dec q.2)=q.2)->(dM.map λq=>dec q.2).flatMap enc=(dM.map (·.2)).flatten
 | [],_=>rfl
 | q::dM,h=>by rw[apg,ao8,apg,List.flatten_cons,h q (by simp),Pr dM λq ba=>h q (by simp[ba])]
theorem eI{aX:Type}{enc:aX->List Value}{dec:List Value->aX}{d t e sz b len:Nat}{z:Value}{hl:List (Nat×Operand)}{dM:List (Nat×List Value)}[aJ:fD P t e][cF:dn P e sz b z][jo P e enc dec][he:eg enc sz] (hp:s0 tm true hl dM:=by repeat (first | exact .nil | apply s0.cons ⟨_,rfl,λ_=>rfl⟩ (by exact te) | apply s0.cons ⟨_,rfl,λh=>h⟩ (by exact te))) (hi:dM.map (·.1)=List.range' 0 len:=by rfl) (ba:BQ (λq=>enc (dec q.2)=q.2) dM:=by repeat (first | exact trivial | refine⟨rfl,?_⟩)) (ej:Nat.ble (len* sz) 16777216=true:=by rfl) (hd:Nat.blt d N=true:=by rfl) (ab:∀v,aD v->cR N K ((d,true,v)::tm) (Mem bs (.own v e sz enc (dM.map λq=>dec q.2)::H))):gz P N (.buildSlice t len hl.toArray) (some d) Q tm (Mem bs H) K:=by
 intro a w ty pos cV g aj hw;unfold Oper.wp;have ss:dM.length=len:=by have:=aoI List.length hi;simpa using this
 subst ss;have aaI:∀q,q∈dM->q.2.length=sz:=λq wb=>by rw[<-ba.mem q wb,he.len]
 obtain⟨i,gY,mF,pb,rB⟩:=cF.h;subst mF;have aM:∃o:Array Value,o.toList=(dM.map (·.2)).flatten/\(execOp a.eval ⟨some d,.buildSlice t dM.length hl.toArray,ty,pos,cV,g⟩).run P w=.ok (.value (.slice (some ⟨w.heap.size,0,none⟩) dM.length dM.length)) (w.alloc (.cells o e)):=by
  have key:∀zs:Array Value,zs.size=dM.length* i.size->Instr.fill (λj=>some (j* i.size,i.size)) zs (hl.map λp=>(p.1,a.eval p.2))=some ((dM.map (·.2)).flatten).toArray:=by intro zs pM;have:=Ph i.size dM 0 [] zs.toList (by simpa using hi) aaI (by simp) (by simpa using pM);simp only[apb]at this;have:=Io _ (hl.map λp=>(p.1,a.eval p.2)) dM zs.toList _ (hp.get aj rfl) this;simpa using this
  refine⟨((dM.map (·.2)).flatten).toArray,by simp,?_⟩;have Y6:¬(16777216<dM.length* i.size):=by have:=apv.mp ej;omega
  by_cases h0:dM.length* i.size=0
  ·have hk:=key #[] (by simp[h0]);have qF:∀f:Nat->Value,Array.map f (Array.range 0)=#[]:=λf=>by simp[Array.range]
   simp[execOp,Instr.buildSlice,run_underlying aJ.h,sizeOf,typeInfo,gY,h0,newRow,hk,qF]
  have hk:=key ((Array.range (dM.length* i.size)).map (z.cells[· % z.cells.size]!)) (by simp);simp[execOp,Instr.buildSlice,run_underlying aJ.h,sizeOf,typeInfo,gY,h0,Y6,zeroValue,rB,newRow,hk]
 obtain⟨o,bn,aM⟩:=aM;rw[aM];have tA:(dM.map λq=>dec q.2).flatMap enc=(dM.map (·.2)).flatten:=Pr dM ba.mem;have bH:((dM.map (·.2)).flatten).length=dM.length* i.size:=by rw[<-tA,n2,aoJ]
 refine ab _ ⟨_,_,_,rfl⟩ _ _ (by simpa using aj.put (apv.mp hd) true _) ?_
 refine hw.new rfl rfl rfl (by simp) (λk hk=>heap_alloc_old w _ hk) ?_ (λk hk=>?_) λk hk=>?_
 ·refine⟨by rw[n2],.inr ⟨w.heap.size,dM.length,o,by simp,aoD _,heap_alloc_new w _,by simp,?_,by rw[<-aqE,bn,bH],?_⟩⟩
  ·have:=apv.mp ej;have h1:dM.length* 1<=dM.length* i.size:=Nat.mul_le_mul_left _ he.pos;unfold maxLen;omega
  rw[tA,bn,aoJ,<-bH,aoZ]
 ·simp only[aB.cN,Value.ownBlock,Option.toList,aoB]at hk;subst hk;simp
 simp only[aB.cN,Value.ownBlock,Option.toList,aoB]at hk;omega
class aS(P:Program)(k:FuncId):Prop where
 h:∃fn,P.funcs[k]?=some fn/\(fn.name== "runtime.NumGoroutine")=false/\fn.body.isNone=false
theorem aS.of{P:Program}{k:Nat}{fn:Func}(h:P.funcs[k]?=some fn)(h1:(fn.name== "runtime.NumGoroutine")=false:=by kernel_rfl)(h2:fn.body.isNone=false:=by kernel_rfl):aS P k:=⟨⟨fn,h,h1,h2⟩⟩
def qy(w:World)(Φ:Nat->Value->World->Prop):Ending->World->Prop:=λe I=>∃v,e=.returned v/\Below w.heap.size w I/\Φ w.heap.size v I
def bl(P:Program)(k:FuncId)(args:List Value)(w:World)(Φ:Nat->Value->World->Prop):Prop:=Calls P k args.toArray w (qy w Φ)
theorem Aj{k:FuncId}{f:Operand}{xs:List Operand}{ts:Array TypeId}{first cap:List Value}{vs:List Value}{a:Act}{w:World}{d:Option Tmp}{ty:TypeId}{pos:String}{cV:Array Edge}{g:Option (Nat×Bool)}[hF:aS P k] (hf:a.eval f=.func (.func k) first.toArray cap.toArray) (hxs:xs.map a.eval=vs): (execOp a.eval ⟨d,.call {callee:=.value f,args:=xs.toArray,argTypes:=ts},ty,pos,cV,g⟩).run P w=.ok (.enter k (first++vs++cap).toArray) w:=by
 obtain⟨fn,h1,h2,h3⟩:=hF.h;have bq:fn.name≠ "runtime.NumGoroutine" :=by simpa using h2
 have dE:fn.body≠none:=by intro h;rw[h]at h3;cases h3
 simp only[execOp,resolve,hf,Deferred.ofValue];simp[invoke,callFunc,h1,bq,dE,hxs]
theorem yp{tm:dY}{c:Bool}{xs:List Operand}{vs:List Value}(h:kf tm c xs vs:=by first | exact .nil | exact .cons ⟨_,rfl,λ_=>rfl⟩ .nil | exact .cons ⟨_,rfl,λ_=>rfl⟩ (.cons ⟨_,rfl,λ_=>rfl⟩ .nil) | (repeat (first | exact .nil | apply kf.cons ⟨_,rfl,λ_=>rfl⟩))):kf tm c xs vs:=h
theorem hq{d k:Nat}{f:Operand}{xs:List Operand}{ts:Array TypeId}{first cap vs:List Value}{Φ:Nat->Value->World->Prop}[hF:aS P k] (hf:bt tm true f (.func (.func k) first.toArray cap.toArray):=by exact cb) (hxs:kf tm true xs vs:=by exact yp) (hd:Nat.blt d N=true:=by rfl) (bb:∀w,Mem bs H w->bl P k (first++vs++cap) w Φ) (ab:∀v n bc,Φ n v bc->n<=bc.heap.size->cR N K ((d,true,v)::tm) (Mem ((bc,Fr n)::bs) H)): gz P N (.call {callee:=.value f,args:=xs.toArray,argTypes:=ts}) (some d) Q tm (Mem bs H) K:=by
 intro a w ty pos cV g aj hw;unfold Oper.wp;rw[Aj (hf.get aj rfl) (hxs.get aj rfl)];simp only[Oper.upon];refine Calls.mono (bb w hw) λe I h=>?_;obtain⟨v,rfl,hb,qS⟩:=h;refine ab v w.heap.size I qS hb.size _ _ (by simpa using aj.put (apv.mp hd) true v) ?_
 have hm:=hw.ext hb;refine⟨λB hB=>?_,hm.own,hm.fC,λB hB e he k hk cG=>?_,hm.il⟩
 ·rcases aoO.1 hB with rfl | hB
  ·exact kK.refl _ _
  exact hm.base B hB
 rcases aoO.1 hB with rfl | hB
 ·have:=hw.fC e he k hk;simp only[Fr]at cG;omega
 exact hm.apart B hB e he k hk cG
def q7:Nat->List Value->dY
 | _,[]=>[]
 | i,v::r=>(i,true,v)::q7 (i+1) r
theorem RB:∀(l:List Value) (i d:Nat) (c:Bool) (v:Value),jB (q7 i l) d=some (c,v)->c=true/\i<=d/\l[d-i]?=some v
 | [],i,d,c,v,h=>by cases h
 | u::l,i,d,c,v,h=>by
  simp only[q7,jB]at h;cases hb:Nat.beq i d with
  | true=>rw[hb,cond_true]at h;injection h with h;injection h with h1 h2;have:=apZ hb;subst this;exact⟨h1.symm,aoL _,by simp[h2]⟩
  | false=>rw[hb,cond_false]at h;obtain⟨h1,h2,h3⟩:=RB l (i+1) d c v h;exact⟨h1,by omega,by rw[show d-i=d-(i+1)+1 from by omega];simpa using h3⟩
theorem enter{k:FuncId}{fn:Func}{code:Code}{args:List Value}{w:World}{R:Ending->World->Prop}(hf:P.funcs[k]?=some fn)(ir:fn.ntmps=N)(hb:fn.body=some code)(bH:Nat.ble args.length N=true) (A:World->Prop) (hA:A w) (h:cR N (code.wp P (bodyPost P fn R)) (q7 0 args) A):Calls P k args.toArray w R:=by
 refine calls_of_wp hf hb (h _ w ⟨?_,rfl,λd c v aL=>?_⟩ hA)
 ·have:=apv.mp bH;simp[ir];omega
 obtain⟨h1,_,h3⟩:=RB args 0 d c v aL;simp only[Nat.sub_zero]at h3;have hd:d<args.length:=by
  rcases ao6 d args.length with cm | cm
  ·exact cm
  rw[aoV cm]at h3;cases h3
 rw[h1,aou rfl,Array.getElem?_append_left (by simpa using hd)];simpa using h3
theorem Dj(w:World):Mem [(w,al)] [] w:=⟨λB hB=>by rw[aoB]at hB;subst hB;exact kK.refl _ _,λe he=>(by cases he),λe he=>(by cases he),λB hB e he=>(by cases he),λi j gh gr _ hi=>(by simp at hi)⟩
theorem OW{k:FuncId}{fn:Func}{code:Code}{args:List Value}{w:World}{Φ:Nat->Value->World->Prop}(hf:P.funcs[k]?=some fn)(ir:fn.ntmps=N)(hb:fn.body=some code)(bH:Nat.ble args.length N=true) (h:cR N (code.wp P (bodyPost P fn (qy w Φ))) (q7 0 args) (Mem [(w,al)] [])):bl P k args w Φ:=enter hf ir hb bH _ (Dj w) h
theorem kK.below{w I:World}(h:kK al w I):Below w.heap.size w I:=⟨h.os,h.tape,h.output,h.size,λk hk=>h.s9 k hk trivial⟩
inductive jq(P:Program)(tm:dY)(H:List aB):List ResultVar->List Value->Prop where
 | nil:jq P tm H [] []
 | tmp {t:Tmp} {v:Value} {rs:List ResultVar} {vs:List Value}:jB tm t=some (true,v)->jq P tm H rs vs->jq P tm H (.tmp t::rs) (v::vs)
 | Xh {t:Tmp} {ty b tt:Nat} {v:Value} {rs:List ResultVar} {vs:List Value} (bL:gS P ty):jB tm t=some (true,.pointer (some ⟨b,0,none⟩))->aB.box b [v] tt∈H->jq P tm H rs vs->jq P tm H (.cell t ty::rs) (v::vs)
 | HQ {t:Tmp} {ty b tt n:Nat} {cs:List Value} {rs:List ResultVar} {vs:List Value} (bL:ij P ty n):jB tm t=some (true,.pointer (some ⟨b,0,none⟩))->aB.box b cs tt∈H->Nat.beq cs.length n=true->jq P tm H rs vs->jq P tm H (.cell t ty::rs) (.agg cs.toArray::vs)
theorem jq.t1{P:Program}{tm:dY}{H:List aB}{t:Tmp}{v:Value}(h:jB tm t=some (true,v)):jq P tm H [.tmp t] [v]:=.tmp h .nil
theorem jq.t2{P:Program}{tm:dY}{H:List aB}{t de:Tmp}{v dG:Value}(h:jB tm t=some (true,v))(cm:jB tm de=some (true,dG)):jq P tm H [.tmp t,.tmp de] [v,dG]:=.tmp h (.tmp cm .nil)
theorem jq.c1{P:Program}{tm:dY}{H:List aB}{t:Tmp}{ty b tt n:Nat}{cs:List Value}[bL:ij P ty n](h:jB tm t=some (true,.pointer (some ⟨b,0,none⟩)))(hm:aB.box b cs tt∈H)(bd:Nat.beq cs.length n=true):jq P tm H [.cell t ty] [.agg cs.toArray]:=.HQ bL h hm bd .nil
def DF(tmps:Array Value):ResultVar->Sem Value
 | .tmp t=>pure (tmps.getD t undef)
 | .cell p t=>do loadVar t (<-asAddr (tmps.getD p undef))
theorem jq.run{a:Act}{w:World}{rs:List ResultVar}{vs:List Value}(h:jq P tm H rs vs)(aj:iG N tm a)(hw:Mem bs H w):(rs.mapM (DF a.tmps)).run P w=.ok vs w:=by
 have aI:∀{t v},jB tm t=some (true,v)->a.tmps.getD t undef=v:=λh=>by have:=aj.get _ _ _ h;rw[Array.getD_eq_getD_getElem?,this];rfl
 induction h with
 | nil=>simp
 | tmp h1 _ bP=>rw[List.mapM_cons];simp[DF,aI h1,bP]
 | Xh bL h1 h2 _ bP=>have ai:=yc (hw.own _ h2) (j:=0) rfl;rw[List.mapM_cons];simp[DF,aI h1,asAddr,loadVar,bL.h,ai,bP]
 | @HQ t ty b tt n cs rs vs bL h1 h2 h3 _ bP=>
  have aL:=run_loadCells_list (P:=P) w ⟨b,0,none⟩ cs (λj v ae=>by
   have:=yc (hw.own _ h2) ae;unfold Addr.add;split
   ·rename_i h0;subst h0;exact this
   simpa using this)
  have:=apZ h3;subst this;rw[List.mapM_cons];simp[DF,aI h1,asAddr,loadVar,bL.h,bL.n,aL,bP]
def pR:List Value->Value
 | [v]=>v
 | vs=>.tuple vs.toArray
theorem jq.results{fn:Func}{rs:List ResultVar}{a:Act}{w:World}{vs:List Value}(aM:fn.results=rs.toArray)(h:jq P tm H rs vs)(aj:iG N tm a)(hw:Mem bs H w):(results fn a.tmps).run P w=.ok (pR vs) w:=by
 have h1:=h.run aj hw;have e:Go.results fn a.tmps=(do let vs<-fn.results.mapM (DF a.tmps);pure (if h:vs.size=1 then vs[0]else .tuple vs):Sem Value):=rfl;rw[e,aM,Array.mapM_eq_mapM_toList];simp[h1]
 match vs with
 | []=>rfl
 | [v]=>rfl
 | v::u::r=>simp[pR]
theorem zm{fn:Func}{R:Ending->World->Prop}{rs:List ResultVar}{vs:List Value}(aM:fn.results=rs.toArray)(h:jq P tm H rs vs)(cj:∀I,Mem bs H I->R (.returned (pR vs)) I):gR N .ret (bodyPost P fn R) tm (Mem bs H):=λ_ w aj hw=>⟨aj.A3,_,h.results aM aj hw,cj w hw⟩
theorem La{fn:Func}{R:Ending->World->Prop}{rs:List ResultVar}{vs:List Value}(aM:fn.results=rs.toArray)(h:jq P tm H rs vs)(cj:∀I,Mem bs H I->R (.returned (pR vs)) I):gR N .normal (bodyPost P fn R) tm (Mem bs H):=λ_ w aj hw=>⟨aj.A3,_,h.results aM aj hw,cj w hw⟩
theorem bT{fn:Func}{w:World}{Φ:Nat->Value->World->Prop}{rs:List ResultVar}{vs:List Value}(aM:fn.results=rs.toArray)(h:jq P tm H rs vs)(qS:∀I,Mem bs H I->Φ w.heap.size (pR vs) I)(hB:(w,al)∈bs:=by exact oR): gR N .ret (bodyPost P fn (qy w Φ)) tm (Mem bs H):=zm aM h λI hw=>⟨_,rfl,(hw.base _ hB).below,qS I hw⟩
theorem Mem.im{aX:Type}{enc:aX->List Value}{sz tt:Nat}{v:Value}{xs:List aX}{w I:World}[he:eg enc sz](hw:Mem bs H I)(hm:aB.own v tt sz enc xs∈H)(hB:(w,al)∈bs):aZ (Fr w.heap.size) I enc sz v xs:=by
 have bn:=hw.own _ hm;refine⟨?_,λi x j u hi ae=>Du bn hi ae,λa n cap ax oJ=>?_⟩
 ·obtain⟨a,cap,ax,h1,h2,h3⟩:=sF bn;exact⟨a,_,cap,ax,rfl,h2,h3,h1⟩
 exact hw.apart _ hB _ hm a.block (by rw[aB.cN,ax];simp[Value.ownBlock]) trivial
theorem Mem.now{aX:Type}{S:Nat->Prop}{B:World}{enc:aX->List Value}{sz:Nat}{v:Value}{xs:List aX}{I:World}[he:eg enc sz](hw:Mem bs H I)(h:aZ S B enc sz v xs)(hB:(B,S)∈bs:=by repeat (first | exact List.Mem.head _ | refine List.Mem.tail _ ?_)):aZ al I enc sz v xs:=h.mono (hw.base _ hB) (λ_ _ _=>trivial) λx _=>he.ne x
theorem Mem.Dp{aX:Type}{S:Nat->Prop}{B:World}{enc:aX->List Value}{sz:Nat}{v:Value}{xs:List aX}{I:World}[he:eg enc sz](hw:Mem bs H I)(h:aZ S B enc sz v xs)(hB:(B,S)∈bs:=by repeat (first | exact List.Mem.head _ | refine List.Mem.tail _ ?_)):aZ S I enc sz v xs:=h.Ua (hw.base _ hB)
theorem Mem.dX{aX:Type}{enc:aX->List Value}{sz tt:Nat}{v:Value}{xs:List aX}{I:World}[he:eg enc sz](hw:Mem bs H I)(hm:aB.own v tt sz enc xs∈H:=by repeat (first | exact List.Mem.head _ | refine List.Mem.tail _ ?_)):aZ al I enc sz v xs:=by have bn:=hw.own _ hm;refine⟨?_,λi x j u hi ae=>Du bn hi ae,λa n cap ax oJ=>trivial⟩;obtain⟨a,cap,ax,h1,h2,h3⟩:=sF bn;exact⟨a,_,cap,ax,rfl,h2,h3,h1⟩
def pX(e:aB):Nat->Prop:=λk=>k∉e.cN
def r1(e:aB)(w:World)(Ψ:Nat->Value->aB->World->Prop):Ending->World->Prop:=λx I=>∃v e',x=.returned v/\Ψ w.heap.size v e' I/\Mem [(w,pX e)] [e'] I
def oy(P:Program)(k:FuncId)(args:List Value)(e:aB)(w:World)(Ψ:Nat->Value->aB->World->Prop):Prop:=Calls P k args.toArray w (r1 e w Ψ)
theorem zg{e:aB}{w:World}(h:Mem [] [e] w):Mem [(w,pX e)] [e] w:=by
 have:=h.LF;have bu:(λk=>∀x,x∈[e]->k∉x.cN)=pX e:=by funext k;simp[pX]
 rw[bu]at this;exact this
theorem Ie{k:FuncId}{fn:Func}{code:Code}{args:List Value}{e:aB}{w:World}{Ψ:Nat->Value->aB->World->Prop}(hf:P.funcs[k]?=some fn)(ir:fn.ntmps=N)(hb:fn.body=some code)(bH:Nat.ble args.length N=true) (hw:Mem [] [e] w) (h:cR N (code.wp P (bodyPost P fn (r1 e w Ψ))) (q7 0 args) (Mem [(w,pX e)] [e])):oy P k args e w Ψ:=enter hf ir hb bH _ (zg hw) h
theorem Mem.only{e:aB}{w:World}(h:Mem bs H w)(he:e∈H):Mem [] [e] w:=by
 refine⟨λB hB=>(by cases hB),λx hx=>?_,λx hx=>?_,λB hB=>(by cases hB),λi j gh gr iw hi ae=>?_⟩
 ·rw[aoB]at hx;subst hx;exact h.own _ he
 ·rw[aoB]at hx;subst hx;exact h.fC _ he
 cases i with
 | zero=>cases j with
  | zero=>exact absurd rfl iw
  | succ j=>simp at ae
 | succ i=>simp at hi
theorem Mem.pick{B:dm}{e:aB}{w:World}(h:Mem bs H w)(hB:B∈bs)(he:e∈H):Mem [B] [e] w:=by
 refine⟨λHq tu=>?_,(h.only he).own,(h.only he).fC,λHq tu x hx=>?_,(h.only he).il⟩
 ·rw[aoB]at tu;subst tu;exact h.base _ hB
 rw[aoB]at tu hx;subst tu;subst hx;exact h.apart _ hB _ he
theorem zh{fn:Func}{e e':aB}{w:World}{Ψ:Nat->Value->aB->World->Prop}{rs:List ResultVar}{vs:List Value}(aM:fn.results=rs.toArray)(h:jq P tm H rs vs)(hB:(w,pX e)∈bs)(he:e'∈H)(eJ:∀I,Mem bs H I->Ψ w.heap.size (pR vs) e' I): gR N .ret (bodyPost P fn (r1 e w Ψ)) tm (Mem bs H):=zm aM h λI hw=>⟨_,e',rfl,eJ I hw,hw.pick hB he⟩
theorem Mem.adN{e e':aB}{w I:World}{i:Nat}(hw:Mem bs H w)(hi:H[i]?=some e)(hm:Mem [(w,pX e)] [e'] I):Mem bs (H.set i e') I:=by
 have hb:=hm.base _ (.head _);refine hw.q9 hi hb.os hb.tape hb.output hb.size (λk hk bd=>hb.s9 k hk bd) (hm.own _ (.head _)) (hm.fC _ (.head _)) λk hk=>?_;by_cases nE:k∈e.cN
 ·exact .inl nE
 exact .inr (hm.apart _ (.head _) _ (.head _) k hk nE)
theorem uB{k:Nat}{e:aB}{f:Operand}{xs:List Operand}{ts:Array TypeId}{first cap vs:List Value}{Ψ:Nat->Value->aB->World->Prop}[hF:aS P k](i:Nat)(hi:H[i]?=some e) (hf:bt tm true f (.func (.func k) first.toArray cap.toArray):=by exact cb) (hxs:kf tm true xs vs:=by exact yp) {d:Nat} (hd:Nat.blt d N=true:=by rfl) (bb:∀w,Mem bs H w->oy P k (first++vs++cap) e w Ψ) (ab:∀v n e' bc,Ψ n v e' bc->cR N K ((d,true,v)::tm) (Mem bs (H.set i e'))): gz P N (.call {callee:=.value f,args:=xs.toArray,argTypes:=ts}) (some d) Q tm (Mem bs H) K:=by intro a w ty pos cV g aj hw;unfold Oper.wp;rw[Aj (hf.get aj rfl) (hxs.get aj rfl)];simp only[Oper.upon];refine Calls.mono (bb w hw) λx I h=>?_;obtain⟨v,e',rfl,eJ,hm⟩:=h;exact ab v _ e' I eJ _ _ (by simpa using aj.put (apv.mp hd) true v) (hw.adN hi hm)
theorem Mem.cC{es:List aB}{w:World}(h:Mem bs H w)(is:List Nat)(lu:is.map (λi=>H[i]?)=es.map some:=by rfl)(bd:is.Nodup:=by decide):Mem bs es w:=by
 have at_:∀(j:Nat) (e:aB),es[j]?=some e->∃i,is[j]?=some i/\H[i]?=some e:=by
  intro j e ae;have h1:=aoI (λl=>l[j]?) lu;simp only[ao4,ae,aqF]at h1;cases hi:is[j]? with
  | none=>rw[hi]at h1;simp at h1
  | some i=>rw[hi]at h1;simp at h1;exact⟨i,rfl,h1⟩
 have mem:∀e,e∈es->e∈H:=by intro e he;obtain⟨j,ae⟩:=apF he;obtain⟨i,_,hi⟩:=at_ j e ae;exact aoM hi
 refine⟨h.base,λe he=>h.own e (mem e he),λe he=>h.fC e (mem e he),λB hB e he=>h.apart B hB e (mem e he),λi j gh gr iw hi ae=>?_⟩;obtain⟨a,ay,ZM⟩:=at_ i gh hi;obtain⟨b,hb,ZO⟩:=at_ j gr ae;refine h.il a b gh gr (λl8=>iw ?_) ZM ZO;subst l8;have Zo:=ao2.1 ay;have jT:=ao2.1 hb;obtain⟨h1,h2⟩:=Zo;obtain⟨h3,aA⟩:=jT;exact(List.getElem_inj bd).1 (h2.trans aA.symm)
def Dw(H:List aB):List Nat->List aB
 | []=>[]
 | i::is=>match H[i]? with
  | some e=>e::Dw H is
  | none=>Dw H is
theorem SN(H:List aB):∀(is:List Nat),is.all (λi=>Nat.blt i H.length)=true->is.map (λi=>H[i]?)=(Dw H is).map some
 | [],_=>rfl
 | i::is,h=>by rw[List.all_cons,aoo]at h;have hi:=apv.mp h.1;have he:H[i]?=some H[i]:=aov hi;simp only[apg,Dw,he,SN H is h.2]
theorem acy(is:List Nat)(bd:is.Nodup:=by decide)(aL:is.all (λi=>Nat.blt i H.length)=true:=by rfl)(h:cR N K tm (Mem bs (Dw H is))):cR N K tm (Mem bs H):=λa w aj hw=>h a w aj (hw.cC is (SN H is aL) bd)
theorem Mem.one{B:dm}{w:World}(h:Mem bs H w)(hB:B∈bs):Mem [B] H w:=⟨λHq tu=>by rw[aoB]at tu;subst tu;exact h.base _ hB,h.own,h.fC,λHq tu=>by rw[aoB]at tu;subst tu;exact h.apart _ hB,h.il⟩
def rj(w:World)(Ψ:Nat->Value->List aB->World->Prop):Ending->World->Prop:=λx I=>∃v es,x=.returned v/\Ψ w.heap.size v es I/\Mem [(w,al)] es I
def en(P:Program)(k:FuncId)(args:List Value)(w:World)(Ψ:Nat->Value->List aB->World->Prop):Prop:=Calls P k args.toArray w (rj w Ψ)
theorem OV{k:FuncId}{fn:Func}{code:Code}{args:List Value}{w:World}{Ψ:Nat->Value->List aB->World->Prop}(hf:P.funcs[k]?=some fn)(ir:fn.ntmps=N)(hb:fn.body=some code)(bH:Nat.ble args.length N=true) (h:cR N (code.wp P (bodyPost P fn (rj w Ψ))) (q7 0 args) (Mem [(w,al)] [])):en P k args w Ψ:=enter hf ir hb bH _ (Dj w) h
theorem et{fn:Func}{w:World}{Ψ:Nat->Value->List aB->World->Prop}{rs:List ResultVar}{vs:List Value}(aM:fn.results=rs.toArray)(h:jq P tm H rs vs)(es:List aB)(is:List Nat) (eJ:∀I,Mem bs H I->Ψ w.heap.size (pR vs) es I) (hB:(w,al)∈bs:=by exact oR) (lu:is.map (λi=>H[i]?)=es.map some:=by rfl) (bd:is.Nodup:=by decide): gR N .ret (bodyPost P fn (rj w Ψ)) tm (Mem bs H):=zm aM h λI hw=>⟨_,es,rfl,eJ I hw,(hw.cC is lu bd).one hB⟩
def jK(n:Nat)(es:List aB):Nat->Prop:=λk=>n<=k/\∀e,e∈es->k∉e.cN
theorem Mem.made{es:List aB}{w I:World}(hw:Mem bs H w)(hm:Mem [(w,al)] es I):Mem ((I,jK w.heap.size es)::bs) (es++H) I:=by
 have hb:=hm.base _ (.head _);have hx:=hw.ext hb.below;have lo:∀e,e∈es->∀k,k∈e.cN->w.heap.size<=k:=λe he k hk=>hm.apart _ (.head _) e he k hk trivial;refine⟨λB hB=>?_,λe he=>?_,λe he=>?_,λB hB e he k hk cG=>?_,λi j gh gr iw hi ae k pI sl=>?_⟩
 ·rcases aoO.1 hB with rfl | hB
  ·exact kK.refl _ _
  exact hx.base B hB
 ·rcases aoG.1 he with he | he
  ·exact hm.own e he
  exact hx.own e he
 ·rcases aoG.1 he with he | he
  ·exact hm.fC e he
  exact hx.fC e he
 ·rcases aoG.1 he with he | he
  ·rcases aoO.1 hB with rfl | hB
   ·exact absurd hk (cG.2 e he)
   exact ao5 (hw.base B hB).size (lo e he k hk)
  rcases aoO.1 hB with rfl | hB
  ·have:=hw.fC e he k hk;have:=cG.1;omega
  exact hx.apart B hB e he k hk cG
 have xf:∀e e',e∈es->e'∈H->k∈e.cN->k∈e'.cN->False:=λe e' he ft hk fk=>by have:=lo e he k hk;have:=hw.fC e' ft k fk;omega
 rcases ao6 i es.length with gJ | gJ
 ·rw[aoT gJ]at hi;rcases ao6 j es.length with gD | gD
  ·rw[aoT gD]at ae;exact hm.il i j gh gr iw hi ae k pI sl
  rw[aoS gD]at ae;exact xf gh gr (aoM hi) (aoM ae) pI sl
 rw[aoS gJ]at hi;rcases ao6 j es.length with gD | gD
 ·rw[aoT gD]at ae;exact xf gr gh (aoM ae) (aoM hi) sl pI
 rw[aoS gD]at ae;exact hw.il _ _ gh gr (by omega) hi ae k pI sl
theorem gI{d k:Nat}{f:Operand}{xs:List Operand}{ts:Array TypeId}{first cap vs:List Value}{Ψ:Nat->Value->List aB->World->Prop}[hF:aS P k] (hf:bt tm true f (.func (.func k) first.toArray cap.toArray):=by exact cb) (hxs:kf tm true xs vs:=by exact yp) (hd:Nat.blt d N=true:=by rfl) (bb:∀w,Mem bs H w->en P k (first++vs++cap) w Ψ) (ab:∀v n es bc,Ψ n v es bc->cR N K ((d,true,v)::tm) (Mem ((bc,jK n es)::bs) (es++H))): gz P N (.call {callee:=.value f,args:=xs.toArray,argTypes:=ts}) (some d) Q tm (Mem bs H) K:=by intro a w ty pos cV g aj hw;unfold Oper.wp;rw[Aj (hf.get aj rfl) (hxs.get aj rfl)];simp only[Oper.upon];refine Calls.mono (bb w hw) λx I h=>?_;obtain⟨v,es,rfl,eJ,hm⟩:=h;exact ab v _ es I eJ _ _ (by simpa using aj.put (apv.mp hd) true v) (hw.made hm)
theorem en.aeP{k:FuncId}{args:List Value}{w:World}{Ψ:Nat->Value->List aB->World->Prop}{Φ:Nat->Value->World->Prop}(h:en P k args w Ψ)(hi:∀v es I,Mem [(w,al)] es I->Ψ w.heap.size v es I->Φ w.heap.size v I):bl P k args w Φ:=Calls.mono h λ_ I ⟨v,es,hx,eJ,hm⟩=>⟨v,hx,(hm.base _ (.head _)).below,hi v es I hm eJ⟩
theorem aF{S:World->Prop}(h:cR N K tm A)(cG:∀w,A w->S w):cR N (λa w=>S w/\K a w) tm A:=λa w aj hw=>⟨cG w hw,h a w aj hw⟩
def bJ(es:List aB):Nat->Prop:=λk=>∀e,e∈es->k∉e.cN
def rk(es:List aB)(w:World)(Ψ:Nat->Value->List aB->World->Prop):Ending->World->Prop:=λx I=>∃v fN,x=.returned v/\Ψ w.heap.size v fN I/\Mem [(w,bJ es)] fN I
def eY(P:Program)(k:FuncId)(args:List Value)(es:List aB)(w:World)(Ψ:Nat->Value->List aB->World->Prop):Prop:=Calls P k args.toArray w (rk es w Ψ)
theorem tk{k:FuncId}{fn:Func}{code:Code}{args:List Value}{es:List aB}{w:World}{Ψ:Nat->Value->List aB->World->Prop}(hf:P.funcs[k]?=some fn)(ir:fn.ntmps=N)(hb:fn.body=some code)(bH:Nat.ble args.length N=true) (hw:Mem [] es w) (h:cR N (code.wp P (bodyPost P fn (rk es w Ψ))) (q7 0 args) (Mem [(w,bJ es)] es)):eY P k args es w Ψ:=enter hf ir hb bH _ hw.LF h
theorem Mem.ew{w:World}(h:Mem bs H w):Mem [] H w:=⟨λB hB=>(by cases hB),h.own,h.fC,λB hB=>(by cases hB),h.il⟩
theorem eL{fn:Func}{es:List aB}{w:World}{Ψ:Nat->Value->List aB->World->Prop}{rs:List ResultVar}{vs:List Value}(aM:fn.results=rs.toArray)(h:jq P tm H rs vs)(fN:List aB)(is:List Nat) (eJ:∀I,Mem bs H I->Ψ w.heap.size (pR vs) fN I) (hB:(w,bJ es)∈bs:=by exact oR) (lu:is.map (λi=>H[i]?)=fN.map some:=by rfl) (bd:is.Nodup:=by decide):gR N .ret (bodyPost P fn (rk es w Ψ)) tm (Mem bs H):=zm aM h λI hw=>⟨_,fN,rfl,eJ I hw,(hw.cC is lu bd).one hB⟩
theorem qV{fn:Func}{es:List aB}{w:World}{Ψ:Nat->Value->List aB->World->Prop}{rs:List ResultVar}{vs:List Value}(aM:fn.results=rs.toArray)(h:jq P tm H rs vs)(hB:(w,bJ es)∈bs)(fN:List aB)(is:List Nat) (lu:is.map (λi=>H[i]?)=fN.map some:=by rfl) (bd:is.Nodup:=by decide) (eJ:∀I,Mem bs H I->Ψ w.heap.size (pR vs) fN I):gR N .normal (bodyPost P fn (rk es w Ψ)) tm (Mem bs H):=La aM h λI hw=>⟨_,fN,rfl,eJ I hw,(hw.cC is lu bd).one hB⟩
theorem Mem.dt{es:List aB}{w:World}(h:Mem bs (es++H) w):Mem bs es w:=
 ⟨h.base,λe he=>h.own e (aoK _ he),λe he=>h.fC e (aoK _ he),λB hB e he=>h.apart B hB e (aoK _ he),λi j gh gr iw hi ae=>h.il i j gh gr iw (by rw[aoT (ao2.1 hi).1];exact hi) (by rw[aoT (ao2.1 ae).1];exact ae)⟩
theorem Mem.Wo{es:List aB}{w:World}(h:Mem bs (es++H) w):Mem bs H w:=
 ⟨h.base,λe he=>h.own e (apA _ he),λe he=>h.fC e (apA _ he),λB hB e he=>h.apart B hB e (apA _ he),λi j gh gr iw hi ae=>h.il (es.length+i) (es.length+j) gh gr (by omega) (by rw[aoS (by omega)];simpa using hi) (by rw[aoS (by omega)];simpa using ae)⟩
theorem Mem.xf{es:List aB}{w:World}(h:Mem bs (es++H) w){e e':aB}(he:e∈es)(ft:e'∈H){k:Nat}(hk:k∈e.cN)(fk:k∈e'.cN):False:=by obtain⟨i,hi⟩:=apF he;obtain⟨j,ae⟩:=apF ft;have gJ:=(ao2.1 hi).1;exact h.il i (es.length+j) e e' (by omega) (by rw[aoT gJ];exact hi) (by rw[aoS (by omega)];simpa using ae) k hk fk
theorem Mem.ab6{es:List aB}{w:World}(h1:Mem bs es w)(h2:Mem bs H w)(ai:∀e e',e∈es->e'∈H->∀k,k∈e.cN->k∈e'.cN->False):Mem bs (es++H) w:=by
 refine⟨h1.base,λe he=>?_,λe he=>?_,λB hB e he=>?_,λi j gh gr iw hi ae k pI sl=>?_⟩
 ·rcases aoG.1 he with he | he
  ·exact h1.own e he
  exact h2.own e he
 ·rcases aoG.1 he with he | he
  ·exact h1.fC e he
  exact h2.fC e he
 ·rcases aoG.1 he with he | he
  ·exact h1.apart B hB e he
  exact h2.apart B hB e he
 rcases ao6 i es.length with gJ | gJ
 ·rw[aoT gJ]at hi;rcases ao6 j es.length with gD | gD
  ·rw[aoT gD]at ae;exact h1.il i j gh gr iw hi ae k pI sl
  rw[aoS gD]at ae;exact ai gh gr (aoM hi) (aoM ae) k pI sl
 rw[aoS gJ]at hi;rcases ao6 j es.length with gD | gD
 ·rw[aoT gD]at ae;exact ai gr gh (aoM ae) (aoM hi) k sl pI
 rw[aoS gD]at ae;exact h2.il _ _ gh gr (by omega) hi ae k pI sl
theorem Mem.adP{es fN:List aB}{w I:World}(hw:Mem bs (es++H) w)(hm:Mem [(w,bJ es)] fN I):Mem bs (fN++H) I:=by
 have hb:=hm.base _ (.head _);have Pv:∀e,e∈fN->∀k,k∈e.cN->(∃x,x∈es/\k∈x.cN)\/w.heap.size<=k:=λe he k hk=>by
  by_cases hx:∃x,x∈es/\k∈x.cN
  ·exact .inl hx
  exact .inr (hm.apart _ (.head _) e he k hk λx AM xJ=>hx ⟨x,AM,xJ⟩)
 have NB:∀B,B∈bs->kK B.2 B.1 I:=λB hB=>by have h0:=hw.base B hB;refine⟨hb.os.trans h0.os,hb.tape.trans h0.tape,hb.output.trans h0.output,ao5 h0.size hb.size,λk hk cG=>?_⟩;rw[hb.s9 k (apJ hk h0.size) λe he nE=>by have:=hw.apart B hB e (aoK _ he) k nE cG;omega];exact h0.s9 k hk cG
 have hH:=hw.Wo;refine Mem.ab6 ⟨NB,hm.own,hm.fC,λB hB e he k hk cG=>?_,hm.il⟩ ⟨NB,λe he=>?_,λe he k hk=>?_,hH.apart,hH.il⟩ λe e' he ft k hk fk=>?_
 ·rcases Pv e he k hk with⟨x,hx,xJ⟩ | h1
  ·exact hw.apart B hB x (aoK _ hx) k xJ cG
  exact ao5 (hw.base B hB).size h1
 ·exact aB.Gn (hH.own e he) λk hk=>hb.s9 k (hH.fC e he k hk) λx hx xJ=>hw.xf hx he xJ hk
 ·exact apJ (hH.fC e he k hk) hb.size
 rcases Pv e he k hk with⟨x,hx,xJ⟩ | h1
 ·exact hw.xf hx ft xJ fk
 have:=hH.fC e' ft k fk;omega
theorem eB{d k:Nat}{es:List aB}{f:Operand}{xs:List Operand}{ts:Array TypeId}{first cap vs:List Value}{Ψ:Nat->Value->List aB->World->Prop}[hF:aS P k] (hf:bt tm true f (.func (.func k) first.toArray cap.toArray):=by exact cb) (hxs:kf tm true xs vs:=by exact yp) (hd:Nat.blt d N=true:=by rfl) (bb:∀w,Mem bs (es++H) w->eY P k (first++vs++cap) es w Ψ) (ab:∀v n fN bc,Ψ n v fN bc->cR N K ((d,true,v)::tm) (Mem bs (fN++H))): gz P N (.call {callee:=.value f,args:=xs.toArray,argTypes:=ts}) (some d) Q tm (Mem bs (es++H)) K:=by intro a w ty pos cV g aj hw;unfold Oper.wp;rw[Aj (hf.get aj rfl) (hxs.get aj rfl)];simp only[Oper.upon];refine Calls.mono (bb w hw) λx I h=>?_;obtain⟨v,fN,rfl,eJ,hm⟩:=h;exact ab v _ fN I eJ _ _ (by simpa using aj.put (apv.mp hd) true v) (hw.adP hm)
theorem Py{d k:Nat}{f:Operand}{xs:List Operand}{ts:Array TypeId}{first cap vs:List Value}{Ψ:Nat->Value->List aB->World->Prop}[hF:aS P k] (hf:bt tm true f (.func (.func k) first.toArray cap.toArray):=by exact cb) (hxs:kf tm true xs vs:=by exact yp) (hd:Nat.blt d N=true:=by rfl) (bb:∀w,Mem bs H w->eY P k (first++vs++cap) H w Ψ) (ab:∀v n fN bc,Ψ n v fN bc->cR N K ((d,true,v)::tm) (Mem bs fN)): gz P N (.call {callee:=.value f,args:=xs.toArray,argTypes:=ts}) (some d) Q tm (Mem bs H) K:=by
 have h:=eB (P:=P) (N:=N) (tm:=tm) (bs:=bs) (H:=[]) (es:=H) (Q:=Q) (K:=K) (ts:=ts) (Ψ:=Ψ) hf hxs hd (λw hw=>bb w (by rw[aoH]at hw;exact hw)) (λv n fN bc eJ=>by rw[aoH];exact ab v n fN bc eJ)
 rw[aoH]at h;exact h
theorem Se{fn:Func}{es:List aB}{w:World}{Ψ:Nat->Value->List aB->World->Prop}{rs:List ResultVar}{vs:List Value}(aM:fn.results=rs.toArray)(h:jq P tm H rs vs)(hB:(w,bJ es)∈bs) (eJ:∀I,Mem bs H I->Ψ w.heap.size (pR vs) H I):gR N .ret (bodyPost P fn (rk es w Ψ)) tm (Mem bs H):=zm aM h λI hw=>⟨_,H,rfl,eJ I hw,hw.one hB⟩
theorem adQ{fn:Func}{es:List aB}{w:World}{Ψ:Nat->Value->List aB->World->Prop}{rs:List ResultVar}{vs:List Value}(aM:fn.results=rs.toArray)(h:jq P tm H rs vs)(hB:(w,bJ es)∈bs) (eJ:∀I,Mem bs H I->Ψ w.heap.size (pR vs) H I):gR N .normal (bodyPost P fn (rk es w Ψ)) tm (Mem bs H):=La aM h λI hw=>⟨_,H,rfl,eJ I hw,hw.one hB⟩
theorem bl.mono{k:FuncId}{args:List Value}{w:World}{Φ VK:Nat->Value->World->Prop}(h:bl P k args w Φ)(hi:∀n v I,Φ n v I->VK n v I):bl P k args w VK:=Calls.mono h λ_ I ⟨v,h1,h2,h3⟩=>⟨v,h1,h2,hi _ v I h3⟩
theorem en.mono{k:FuncId}{args:List Value}{w:World}{Ψ sW:Nat->Value->List aB->World->Prop}(h:en P k args w Ψ)(hi:∀n v es I,Ψ n v es I->sW n v es I):en P k args w sW:=Calls.mono h λ_ I ⟨v,es,h1,h2,h3⟩=>⟨v,es,h1,hi _ v es I h2,h3⟩
theorem eY.mono{k:FuncId}{args:List Value}{es:List aB}{w:World}{Ψ sW:Nat->Value->List aB->World->Prop}(h:eY P k args es w Ψ)(hi:∀n v es I,Ψ n v es I->sW n v es I):eY P k args es w sW:=Calls.mono h λ_ I ⟨v,es,h1,h2,h3⟩=>⟨v,es,h1,hi _ v es I h2,h3⟩
end
structure gQ(S:Nat->Prop)(w:World)(b:Nat)(cs:List Value):Prop where
 wo:S b
 cell:∀j v,cs[j]?=some v->w.cell? ⟨b,j,none⟩=some v
theorem gQ.mono{S S':Nat->Prop}{B w:World}{b:Nat}{cs:List Value}(h:gQ S B b cs)(hA:kK S B w)(cG:S b->S' b):gQ S' w b cs:=⟨cG h.wo,λj v ae=>z1 (a:=⟨b,j,none⟩) hA h.wo (h.cell j v ae)⟩
def vA(b len:Nat):Value:=.slice (some ⟨b,0,none⟩) len len
class BX(P:Program)(t:TypeId)(len:outParam Nat)(e:outParam TypeId):Prop where
 h:P.underlying t=some (.array len e)
section
variable {P:Program} {N:Nat} {tm:dY} {A:World->Prop} {bs:List dm} {H:List aB} {c:Bool}
theorem Mem.eQ{S:Nat->Prop}{b tt:Nat}{cs:List Value}{w:World}(h:Mem bs H w)(hm:aB.box b cs tt∈H)(cG:S b):gQ S w b cs:=⟨cG,λ_ _ ae=>yc (h.own _ hm) ae⟩
theorem afF{t b off:Nat}{x:Operand}{v:Value}{cs:List Value}{S:Nat->Prop}{B:World}[aJ:gS P t](hx:bt tm c x (.pointer (some ⟨b,off,none⟩)):=by exact cb) (h:gQ S B b cs:=by assumption) (hB:(B,S)∈bs:=by exact oR) (ax:cs[off]?=some v:=by rfl):bW P N (.load t x) tm (Mem bs H) c v:=
 λai a w _ _ _ _ _ cy hw=>by simp only[execOp,hx.get cy ai];exact hX (GV (z1 (a:=⟨b,off,none⟩) (hw.base _ hB) h.wo (h.cell _ _ ax)))
theorem afU{t:TypeId}{x:Operand}{m:BitVec 64}(hx:bt tm c x (u64 m):=by exact cb):bW P N (.unOp .neg t x) tm A c (u64 (-m)):=
 λai a w _ _ _ _ _ cy _=>by
  simp only[execOp,hx.get cy ai];refine hX ?_;have:IntKind.u64.wrap (-(m.toNat:Int))=(((-m).toNat:Nat):Int):=by rw[BitVec.toNat_neg,IntKind.wrap_u64];have:=m.isLt;omega
  show Result.ok (Value.int .u64 (IntKind.u64.wrap (0-(m.toNat:Int)))) w=_;rw[Int.zero_sub,this];rfl
theorem afS{t de:TypeId}{x y:Operand}{m n:BitVec 64}(hx:bt tm c x (u64 m):=by exact cb)(aY:bt tm c y (u64 n):=by exact cb):bW P N (.binOp .mul t x y de) tm A c (u64 (m* n)):=
 λai=>oj hx aY (λw=>by
  simp only[binOp,Op.intArith,ne_eq,arb,aqw];show Result.ok (Value.int .u64 (IntKind.u64.wrap ((m.toNat:Int)* (n.toNat:Int)))) w=_;have:IntKind.u64.wrap ((m.toNat:Int)* (n.toNat:Int))=(((m* n:BitVec 64).toNat:Nat):Int):=by rw[BitVec.toNat_mul,<-DZ,Int.natCast_mul]
  rw[this];rfl) ai
theorem afw{t e sz b len g n:Nat}{z:Value}{k:IntKind}{y:Operand}[aJ:BX P t len e][cF:dn P e sz b z](aY:bt tm c y (.int k (n:Int)):=by exact cb) (hb:c=true->n<len:=by first | (intro _;assumption) | (intro _;omega) | (intro ai;simp only[aoo,aox,aoq,aoz,aoC,aos,an,au]at ai;omega)):bW P N (.indexAddr t (.global g) y) tm A c (.pointer (some (gT (vA g len) sz n 0))):=
 λai a w _ _ _ _ _ cy hw=>by simp only[execOp,aY.get cy ai];refine hX ?_;obtain⟨i,hi,mF,_⟩:=cF.h;subst mF;have h0:(0:Int)<=(n:Int)/\(n:Int)<len:=⟨by omega,by have:=hb ai;omega⟩;show(Instr.indexAt t (.pointer (some ⟨g,0,none⟩)) (.int k (n:Int))).run P w=_;simp[Instr.indexAt,asIntOf,run_underlying aJ.h,Instr.sureAddr,hb ai,sizeOf,typeInfo,hi,gT,vA,Addr.add]
theorem afd{s t:TypeId}{x:Operand}{n:Nat}{d:TypeDesc}[aj:jr P s d][aJ:jr P t (.int .i64)](hx:bt tm c x (.int .u8 (n:Int)):=by exact cb) (hb:c=true->n<256:=by first | (intro _;assumption) | (intro _;omega) | (intro ai;simp only[aoo,aox,aoq,aoz,aoC,aos,an,au]at ai;omega)):bW P N (.convert s t x) tm A c (.int .i64 (n:Int)):=
 λai a w _ _ _ _ _ cy _=>by simp only[execOp,hx.get cy ai];refine hX ?_;have h:=y3 (n:=(n:Int)) ⟨by omega,by have:=hb ai;omega⟩;unfold xK at h;simp[convert,run_underlying aj.h,run_underlying aJ.h,Conv.intToInt,h]
theorem Mem.Dr{S:Nat->Prop}{B w:World}{es:List aB}(hw:Mem bs H w)(hB:(B,S)∈bs)(kU:∀e,e∈es->e∈H):∀k,k<B.heap.size->S k->bJ es k:=λk hk cG e he nE=>by have:=hw.apart _ hB e (kU e he) k nE cG;simp only at this;omega
theorem Mem.iD{aX:Type}{S:Nat->Prop}{B w:World}{enc:aX->List Value}{sz:Nat}{v:Value}{xs:List aX}{es:List aB}[he:eg enc sz](hw:Mem bs H w)(h:aZ S B enc sz v xs)(hB:(B,S)∈bs)(kU:∀e,e∈es->e∈H):aZ (bJ es) w enc sz v xs:=h.mono (hw.base _ hB) (hw.Dr hB kU) λx _=>he.ne x
theorem Mem.HN{S:Nat->Prop}{B w:World}{b:Nat}{u:Value}{cs:List Value}{es:List aB}(hw:Mem bs H w)(h:gQ S B b (u::cs))(hB:(B,S)∈bs)(kU:∀e,e∈es->e∈H):gQ (bJ es) w b (u::cs):=h.mono (hw.base _ hB) (hw.Dr hB kU b (World.block_lt_of_cell? B ⟨b,0,none⟩ (h.cell 0 u rfl)))
theorem Mem.ta{w:World}{b tt:Nat}{cs:List Value}{es:List aB}(hw:Mem bs (es++H) w)(hm:aB.box b cs tt∈H):gQ (bJ es) w b cs:=⟨λe he nE=>hw.xf he hm nE (by simp[aB.cN]),λ_ _ ae=>yc (hw.own _ (apA _ hm)) ae⟩
theorem Mem.Ba{aX:Type}{w:World}{enc:aX->List Value}{sz tt:Nat}{v:Value}{xs:List aX}{es:List aB}[he:eg enc sz](hw:Mem bs (es++H) w)(hm:aB.own v tt sz enc xs∈H):aZ (bJ es) w enc sz v xs:=by have bn:=hw.own _ (apA _ hm);refine⟨?_,λi x j u hi ae=>Du bn hi ae,λa n cap ax oJ e he nE=>hw.xf he hm nE (by rw[aB.cN,ax];simp[Value.ownBlock])⟩;obtain⟨a,cap,ax,h1,h2,h3⟩:=sF bn;exact⟨a,_,cap,ax,rfl,h2,h3,h1⟩
class s3(P:Program)(t:TypeId){aX:Type}(enc:aX->List Value)[DecidableEq aX]:Prop where
 g:P.eqGuardType P.depth t=false
 h:∀(x y:aX) (w:World),(Op.equalIn 10000 t (.agg (enc x).toArray) (.agg (enc y).toArray)).run P w=.ok (decide (x=y)) w
theorem GA{aX:Type}[DecidableEq aX]{enc:aX->List Value}{t de:TypeId}{x y:Operand}{p q:aX}(hx:bt tm c x (.agg (enc p).toArray):=by exact cb)(aY:bt tm c y (.agg (enc q).toArray):=by exact cb)[cF:s3 P t enc]: bW P N (.binOp .eql t x y de) tm A c (.bool (bw (p=q))):=
 λai a w _ _ _ _ _ cy _=>by simp only[execOp,hx.get cy ai,aY.get cy ai];refine hX ?_;rw[Sem.run_bind,run_eqGuard_agg w .eql t x y _ _ cF.g];show(binOp .eql t _ _).run P w=_;rw[run_eql_struct,cF.h];rfl
theorem wN{aX:Type}[DecidableEq aX]{t de:TypeId}{x y:Operand}(enc:aX->List Value)[cF:s3 P t enc](p:aX) (q:aX) (hx:bt tm c x (.agg (enc p).toArray):=by exact cb) (aY:bt tm c y (.agg (enc q).toArray):=by exact cb): bW P N (.binOp .neq t x y de) tm A c (.bool (!bw (p=q))):=
 λai a w _ _ _ _ _ cy _=>by simp only[execOp,hx.get cy ai,aY.get cy ai];refine hX ?_;rw[Sem.run_bind,run_eqGuard_agg w .neq t x y _ _ cF.g];show(binOp .neq t _ _).run P w=_;rw[run_neq_struct,cF.h];rfl
end
section
variable {P:Program} {ops:Array Oper} {Q:Exit->Act->World->Prop} {md:Region.Mode}
def BK(md:Region.Mode)(ops:Array Oper)(j:Nat):Bool:=
 match ops[j]? with
 | none=>false
 | some oS=>(List.range ops.size).all λi=>i==j||oS.after.any (λe=>Region.binds md e&&e.on==i)
def Af(md:Region.Mode)(ops:Array Oper)(j k:Nat):Bool:=
 match ops[j]? with
 | none=>false
 | some oS=>oS.after.any λe=>Region.binds md e&&e.on==k
def Tz(md:Region.Mode)(ops:Array Oper)(n j:Nat):List Bool:=(List.range n).reverse.foldl (λmarks k=>bif marks.getD k false then(List.range n).map (λi=>marks.getD i false||Af md ops k i)else marks) ((List.range n).map λi=>Af md ops j i)
def BL(md:Region.Mode)(ops:Array Oper)(j:Nat)(listed:Array Bool):Bool:=(List.range listed.size).all λi=>!(listed.getD i false)||(Tz md ops listed.size j).getD i false
def w3(md:Region.Mode)(ops:Array Oper)(listed:Array Bool):Prop:=∀m Ds,ops[m]?=some Ds->listed.getD m false=true->∀e∈Ds.after,Region.binds md e=true->listed.getD e.on false=true
theorem PD{n:Nat}{f:Nat->Bool}{i:Nat}(h:((List.range n).map f).getD i false=true):f i=true:=by
 rw[aor]at h;by_cases hi:i<n
 ·rw[ao4,apk hi]at h;simpa using h
 rw[aoV (by simp;omega)]at h;cases h
theorem OL{listed:Array Bool}{j k:Nat}(h:Af md ops j k=true)(ae:∀oS,ops[j]?=some oS->∀e∈oS.after,Region.binds md e=true->listed.getD e.on false=true):listed.getD k false=true:=by
 unfold Af at h;cases bn:ops[j]? with
 | none=>rw[bn]at h;cases h
 | some oS=>
  rw[bn]at h;dsimp only at h;rw[Array.any_eq_true']at h;obtain⟨e,he,h2⟩:=h;rw[aoo]at h2;have h3:=ae oS bn e he h2.1;have aA:e.on=k:=by simpa using h2.2
  rwa[aA]at h3
theorem ags{listed:Array Bool}{n j i:Nat}(ai:w3 md ops listed)(ae:j∈Region.ready md ops listed)(h:(Tz md ops n j).getD i false=true):listed.getD i false=true:=by
 obtain⟨_,oS,yR,bG⟩:=mem_ready.1 ae;have h0:∀k,Af md ops j k=true->listed.getD k false=true:=λk hk=>OL hk λo bn=>by rw[yR]at bn;cases bn;exact bG
 have key:∀(eK:List Nat) (marks:List Bool),(∀q,marks.getD q false=true->listed.getD q false=true)-> ∀q,(eK.foldl (λmarks k=>bif marks.getD k false then(List.range n).map (λi=>marks.getD i false||Af md ops k i)else marks) marks).getD q false=true->listed.getD q false=true:=by
  intro eK
  induction eK with
  | nil=>intro marks hm q ba;exact hm q ba
  | cons k eK bP=>
   intro marks hm q ba;rw[apR]at ba;refine bP _ (λz a1=>?_) q ba;cases hk:marks.getD k false with
   | false=>rw[hk]at a1;exact hm z a1
   | true=>
    rw[hk]at a1;have a1:=PD a1;rw[aox]at a1;rcases a1 with a1 | a1
    ·exact hm z a1
    exact OL a1 λo bn=>ai k o bn (hm k hk)
 exact key _ _ (λq ba=>h0 q (PD ba)) i h
theorem xe{listed:Array Bool}{i:Nat}(ai:w3 md ops listed)(hi:i∈Region.ready md ops listed):w3 md ops (listed.setIfInBounds i true):=by
 have up:∀q,listed.getD q false=true->(listed.setIfInBounds i true).getD q false=true:=λq ba=>by
  by_cases e:i=q
  ·subst e;rcases ao6 i listed.size with cm | cm
   ·simp[cm]
   simp[apD cm]at ba
  rw[getD_set_ne false e];exact ba
 obtain⟨_,u2,Ft,bG⟩:=mem_ready.1 hi;intro m Ds hm aL e he hb;by_cases em:i=m
 ·subst em;rw[Ft]at hm;cases hm;exact up _ (bG e he hb)
 rw[getD_set_ne false em]at aL;exact up _ (ai m Ds hm aL e he hb)
theorem Od(n:Nat):w3 md ops (Array.replicate n false):=λm Ds _ aL=>by
 rcases ao6 m n with cm | cm
 ·simp[cm]at aL
 simp[cm]at aL
def BM(P:Program)(md:Region.Mode)(ops:Array Oper)(Q:Exit->Act->World->Prop):Nat->Array Bool->(World->Prop)->Act->World->Prop
 | 0,listed,_,a,w=>Region.ready md ops listed=[]/\Q .normal a w
 | fuel+1,listed,S,a,w=>
  (Region.ready md ops listed=[]->Q .normal a w)/\
  ∀i∈Region.ready md ops listed,wpOp P ops Q i (λdJ I=>(BK md ops i=true/\Region.ready md ops (listed.setIfInBounds i true)=[]/\Q .normal dJ I)\/ ∃S',((∀w,S' w->S w)\/BL md ops i listed=true)/\S' I/\BM P md ops Q fuel (listed.setIfInBounds i true) S' dJ I) a w
theorem wpAny_done{listed:Array Bool}{a:Act}{w:World}(aM:Region.ready md ops listed=[])(ba:Q .normal a w):∀fuel,wpAny P md ops Q fuel listed a w
 | 0=>⟨aM,ba⟩
 | _+1=>⟨λ_=>ba,λi hi=>by rw[aM]at hi;cases hi⟩
theorem MU:∀(fuel:Nat) (listed:Array Bool) (S:World->Prop) (a:Act) (w:World),BM P md ops Q fuel listed S a w->wpAny P md ops Q fuel listed a w
 | 0,_,_,_,_,h=>h
 | fuel+1,_,_,_,_,h=>⟨h.1,λi hi=>wpOp_mono (λdJ I cm=>by
  rcases cm with⟨_,h1,h2⟩ | ⟨S',_,_,h3⟩
  ·exact wpAny_done h1 h2 fuel
  exact MU fuel _ S' dJ I h3) (h.2 i hi)⟩
theorem ajV{i j:Nat}{u2:Oper}{listed:Array Bool}(hi:ops[i]?=some u2)(hw:BK md ops j=true)(ae:j∈Region.ready md ops listed)(su:listed.getD i true=false)(dS:i≠j):False:=by
 obtain⟨_,oS,yR,bG⟩:=mem_ready.1 ae;unfold BK at hw;rw[yR]at hw;simp only[apt,aoQ]at hw;have gJ:i<ops.size:=by
  rcases ao6 i ops.size with cm | cm
  ·exact cm
  rw[apD cm]at hi;cases hi
 have h1:=hw i gJ;rw[aox]at h1;rcases h1 with h1 | h1
 ·exact dS (by simpa using h1)
 rw[Array.any_eq_true']at h1;obtain⟨e,he,h2⟩:=h1;rw[aoo]at h2;have h3:=bG e he h2.1;have aA:e.on=i:=by simpa using h2.2
 rw[aA]at h3;rcases ao6 i listed.size with cm | cm
 ·simp[cm]at h3 su;rw[su]at h3;cases h3
 simp[apD cm]at su
theorem ajU{i j:Nat}{listed:Array Bool}(ai:w3 md ops listed)(hw:BL md ops j (listed.setIfInBounds i true)=true)(ae:j∈Region.ready md ops listed)(su:listed.getD i true=false):False:=by
 unfold BL at hw;simp only[apt,aoQ,Array.size_setIfInBounds]at hw;have gJ:i<listed.size:=by
  rcases ao6 i listed.size with cm | cm
  ·exact cm
  simp[apD cm]at su
 have h1:=hw i gJ;have az:(listed.setIfInBounds i true).getD i false=true:=by simp[gJ]
 rw[az,Bool.not_true,ap6]at h1;have h3:=ags ai ae h1;simp[gJ]at h3 su;rw[su]at h3;cases h3
theorem VC{i:Nat}{u2:Oper}{v:Value}(hi:ops[i]?=some u2)(QI:∀(j:Nat) (o:Oper) cs b,ops[j]?=some o->o.op≠.select cs b) (vS:∀c a w,Q (.panic c) (a.put u2.dst v) w->Q (.panic c) a w): ∀(fuel:Nat) (listed:Array Bool) (S:World->Prop) (a:Act) (w:World),w3 md ops listed-> (∀j oS,ops[j]?=some oS->j≠i->listed.getD j true=false->(∀e∈oS.after,Region.binds md e=true->e.on≠i)->u2.apart ops oS=true)-> i∈Region.ready md ops listed->YieldsIf P ops S u2 v a->S w-> BM P md ops Q fuel (listed.setIfInBounds i true) S (a.put u2.dst v) w->BM P md ops Q (fuel+1) listed S a w:=by
 intro fuel
 induction fuel with
 | zero=>
  intro listed S a w eA _ aM aY cG H;refine⟨λh=>(by rw[h]at aM;cases aM),λj ae=>?_⟩;by_cases kz:j=i
  ·subst kz;exact aY.wpOp hi cG (.inr ⟨S,.inl λ_ h=>h,cG,H⟩)
  have:=ready_mono ae kz;rw[H.1]at this;cases this
 | succ fuel bP=>
  intro listed S a w eA Ff aM aY cG H;refine⟨λh=>(by rw[h]at aM;cases aM),λj ae=>?_⟩;by_cases kz:j=i
  ·subst kz;exact aY.wpOp hi cG (.inr ⟨S,.inl λ_ h=>h,cG,H⟩)
  have h1:=H.2 j (ready_mono ae kz);obtain⟨Qb,oS,yR,bG⟩:=mem_ready.1 ae;have aay:∀e∈oS.after,Region.binds md e=true->e.on≠i:=λe he hb heq=>by
   have h1:=bG e he hb;have h0:=(mem_ready.1 aM).1;rw[heq]at h1;rcases ao6 i listed.size with cm | cm
   ·simp[cm]at h0 h1;rw[h0]at h1;cases h1
   simp[apD cm]at h1
  have h2:=wpOp_putIf yR (Ff j oS yR kz Qb aay) (λcs b=>QI i u2 cs b hi) (λcs b=>QI j oS cs b yR) vS aY h1;have ZV:∀k ok,ops[k]?=some ok->k≠i->(listed.setIfInBounds j true).getD k true=false-> (∀e∈ok.after,Region.binds md e=true->e.on≠i)->u2.apart ops ok=true:=λk ok hk pI su eD=>by
   refine Ff k ok hk pI ?_ eD;by_cases fV:j=k
   ·subst fV;exact Qb
   rw[getD_set_ne true fV]at su;exact su
  refine wpOp_mono (λdJ I h3=>?_) h2;obtain⟨J8,h3⟩:=h3;rcases h3 with⟨hw,_⟩ | ⟨S',qK,PL,h3⟩
  ·exact(ajV hi hw ae (mem_ready.1 aM).1 (λe=>kz e.symm)).elim
  have qK:∀w,S' w->S w:=qK.resolve_right λhw=>ajU eA hw ae (mem_ready.1 aM).1;refine .inr ⟨S',.inl qK,PL,bP (listed.setIfInBounds j true) S' dJ I (xe eA ae) ZV (ready_mono aM (Ne.symm kz)) ?_ PL ?_⟩
  ·exact J8.imp (λ⟨h1,h2⟩=>⟨h1,λw hw=>h2 w (qK w hw)⟩) id
  rw[Array.setIfInBounds_comm _ _ kz];exact h3
def hI(P:Program)(ops:Array Oper)(Q:Exit->Act->World->Prop)(fuel:Nat)(listed:Array Bool)(S:World->Prop)(aku:List Nat):Act->World->Prop:=λa w=>w3 .any ops listed->S w->BM P .any ops Q fuel listed S a w
def vv(Q:Exit->Act->World->Prop):Prop:=∀c (a:Act) (d:Option Tmp) v w,Q (.panic c) (a.put d v) w->Q (.panic c) a w
theorem S8{K:Act->World->Prop}(h:vv Q):vv (Exit.then K Q):=h
theorem S6{id:Nat}(h:vv Q):vv (Exit.inBlock id Q):=h
theorem S7{fn:Func}{R:Ending->World->Prop}:vv (bodyPost P fn R):=λc a d v w h=>by cases d<;>exact h
variable {N:Nat} {tm:dY} {A:World->Prop} {listed:Array Bool} {S:World->Prop} {order:List Nat} {fuel:Nat}
theorem cz{id:Nat}{l:List Oper}{bs:List dm}{H:List aB}(order:List Nat)(hm:P.follows .mixedOrders=true) (h:cR N (hI P l.toArray Q l.length (Array.replicate l.length false) (Mem bs H) order) tm (Mem bs H)):fp P N (.region id l.toArray true) Q tm (Mem bs H):=by intro a w aj hw;refine wp_region_any hm (MU _ _ (Mem bs H) _ _ ?_);have:=h a w.drew ⟨aj.size,aj.A3,aj.get⟩ hw.drewN (Od _) hw.drewN;simpa using this
theorem fw{id:Nat}{l:List Oper}{bs:List dm}{H:List aB}(S:World->Prop)(order:List Nat)(hm:P.follows .mixedOrders=true)(cG:∀w,Mem bs H w->S w) (h:cR N (hI P l.toArray Q l.length (Array.replicate l.length false) S order) tm (Mem bs H)):fp P N (.region id l.toArray true) Q tm (Mem bs H):=by intro a w aj hw;refine wp_region_any hm (MU _ _ S _ _ ?_);have:=h a w.drew ⟨aj.size,aj.A3,aj.get⟩ hw.drewN (Od _) (cG _ hw.drewN);simpa using this
def A6(ops:Array Oper)(listed:Array Bool)(i:Nat):Bool:=Region.noSelect ops&&Region.free .any ops listed i&&(Region.ready .any ops listed).contains i
theorem acs{i d:Nat}{op:Op}{ty:TypeId}{pos:String}{cV:Array Edge}{v:Value}(vS:vv Q)(hi:ops[i]?=some ⟨some d,op,ty,pos,cV,none⟩)(hok:A6 ops listed i=true) (h:bW P N op tm S true v) (hd:Nat.blt d N=true) (ab:cR N (hI P ops Q fuel (listed.setIfInBounds i true) S order) ((d,true,v)::tm) A):cR N (hI P ops Q (fuel+1) listed S (i::order)) tm A:=by intro a w aj hw eA cG;unfold A6 at hok;simp only[aoo]at hok;refine VC hi (Region.noSelect_spec hok.1.1) (λc a w h=>vS c a _ _ w h) fuel listed S a w eA (Region.free_spec hi hok.1.2) (by simpa using hok.2) (.inl ⟨by simp[Region.wanted],λw hw=>h rfl a w _ _ _ _ _ aj hw⟩) cG ?_;exact ab _ w (by simpa using aj.put (apv.mp hd) true v) hw (xe eA (by simpa using hok.2)) cG
theorem acu{i j g d:Nat}{want js b c:Bool}{op:Op}{ty:TypeId}{pos:String}{cV:Array Edge}{v:Value}(vS:vv Q)(hi:ops[i]?=some ⟨some d,op,ty,pos,cV,some (j,want)⟩)(hok:A6 ops listed i=true) (ae:(ops[j]?).bind (·.dst)=some g) (az:jB tm g=some (js,.bool b)) (ai:c=(js&&(b==want))) (h:bW P N op tm S c v) (hd:Nat.blt d N=true) (ab:cR N (hI P ops Q fuel (listed.setIfInBounds i true) S order) ((d,c,v)::tm) A):cR N (hI P ops Q (fuel+1) listed S (i::order)) tm A:=by
 intro a w aj hw eA cG;unfold A6 at hok;simp only[aoo]at hok;have aY:=BO (ops:=ops) aj ae az;have mH:=aj.put (apv.mp hd) c v;refine VC (v:=if c=true then v else undef) hi (Region.noSelect_spec hok.1.1) (λc a w h=>vS c a _ _ w h) fuel listed S a w eA (Region.free_spec hi hok.1.2) (by simpa using hok.2) ?_ cG (ab _ w mH hw (xe eA (by simpa using hok.2)) cG);by_cases iV:c=true
 ·have h1:js=true/\b=want:=by rw[iV]at ai;have:=ai.symm;simp only[aoo,ap7]at this;exact this
  refine .inl ⟨by simp[Region.wanted,aY,h1.1,h1.2],λw hw=>?_⟩;rw[aou iV];exact h iV a w _ _ _ _ _ aj hw
 refine .inr ⟨?_,aot iV⟩;unfold Region.wanted;simp only[aY];cases js with
 | false=>rfl
 | true=>simp at ai⊢;intro hb;exact iV (by rw[ai,hb];simp)
theorem acp{i:Nat}{dst:Option Tmp}{op:Op}{ty:TypeId}{pos:String}{cV:Array Edge}{S':World->Prop}(hi:ops[i]?=some ⟨dst,op,ty,pos,cV,none⟩)(aM:Region.ready .any ops listed=[i]) (qK:∀w,S' w->S w) (h:gz P N op dst Q tm A (λdJ I=>S' I/\hI P ops Q fuel (listed.setIfInBounds i true) S' order dJ I)):cR N (hI P ops Q (fuel+1) listed S (i::order)) tm A:=by intro a w aj hw eA _;refine⟨λh=>(by rw[h]at aM;cases aM),λk hk=>?_⟩;have xx:=xe eA hk;rw[aM,aoB]at hk;subst hk;unfold wpOp;simp only[hi,Region.wanted];exact .inl (Oper.wp_mono (λdJ I cm=>.inr ⟨S',.inl qK,cm.1,cm.2 xx cm.1⟩) (h a w ty pos cV none aj hw))
theorem aco{i:Nat}{dst:Option Tmp}{op:Op}{ty:TypeId}{pos:String}{cV:Array Edge}{S':World->Prop}(hi:ops[i]?=some ⟨dst,op,ty,pos,cV,none⟩)(aM:Region.ready .any ops listed=[i]) (qb:BL .any ops i listed=true) (h:gz P N op dst Q tm A (λdJ I=>S' I/\hI P ops Q fuel (listed.setIfInBounds i true) S' order dJ I)):cR N (hI P ops Q (fuel+1) listed S (i::order)) tm A:=by intro a w aj hw eA _;refine⟨λh=>(by rw[h]at aM;cases aM),λk hk=>?_⟩;have xx:=xe eA hk;rw[aM,aoB]at hk;subst hk;unfold wpOp;simp only[hi,Region.wanted];exact .inl (Oper.wp_mono (λdJ I cm=>.inr ⟨S',.inr qb,cm.1,cm.2 xx cm.1⟩) (h a w ty pos cV none aj hw))
theorem uC{d:Nat}{op:Op}{v:Value}(hd:Nat.blt d N=true)(h:bW P N op tm A true v){K:Act->World->Prop}(ab:cR N K ((d,true,v)::tm) A):gz P N op (some d) Q tm A K:=by intro a w ty pos cV g aj hw;unfold Oper.wp;rw[h rfl a w (some d) ty pos cV g aj hw];exact ab _ w (by simpa using aj.put (apv.mp hd) true v) hw
theorem acr{i:Nat}{dst:Option Tmp}{op:Op}{ty:TypeId}{pos:String}{cV:Array Edge}(hi:ops[i]?=some ⟨dst,op,ty,pos,cV,none⟩)(aM:Region.ready .any ops listed=[i]) (hw:BK .any ops i=true) (we:Region.ready .any ops (listed.setIfInBounds i true)=[]) (h:gz P N op dst Q tm A (Q .normal)):cR N (hI P ops Q (fuel+1) listed S (i::order)) tm A:=by intro a w aj hA _ _;refine⟨λh=>(by rw[h]at aM;cases aM),λk hk=>?_⟩;rw[aM,aoB]at hk;subst hk;unfold wpOp;simp only[hi,Region.wanted];exact .inl (Oper.wp_mono (λdJ I cm=>.inl ⟨hw,we,cm⟩) (h a w ty pos cV none aj hA))
theorem acm(aM:Region.ready .any ops listed=[])(h:gR N .normal Q tm A):cR N (hI P ops Q fuel listed S order) tm A:=by
 intro a w aj hw _ _;cases fuel with
 | zero=>exact⟨aM,h a w aj hw⟩
 | succ n=>exact⟨λ_=>h a w aj hw,λi hi=>by rw[aM]at hi;cases hi⟩
end
section
variable {P:Program} {N:Nat} {Q:Exit->Act->World->Prop} {tm:dY} {bs:List dm} {H:List aB} {A:World->Prop} {ops:Array Oper} {rest:List Oper}
def vo(P:Program)(N:Nat)(op:Op)(tm:dY)(A:World->Prop)(c:Bool)(u:Value):Prop:=c=true->∀(Q:Exit->Act->World->Prop) (K:Act->World->Prop) (a:Act) (w:World) (d:Tmp) (ty:TypeId) (pos:String) (cV:Array Edge) (g:Option (Nat×Bool)),iG N tm a->A w->(∀I,A I->K (a.put (some d) u) I)->Oper.wp P ⟨some d,op,ty,pos,cV,g⟩ a w K Q
theorem ev{k:Nat}{c:Bool}{u:Value}{f:Operand}{xs:List Operand}{ts:Array TypeId}{first cap vs:List Value}[hF:aS P k] (hf:bt tm c f (.func (.func k) first.toArray cap.toArray):=by exact cb) (hxs:kf tm c xs vs:=by repeat (first | exact .nil | apply kf.cons ⟨_,rfl,λ_=>rfl⟩ | apply kf.cons ⟨_,rfl,λh=>h⟩ | apply kf.cons ⟨_,rfl,zV⟩)) (bb:c=true->∀w,Mem bs H w->bl P k (first++vs++cap) w λ_ v _=>v=u): vo P N (.call {callee:=.value f,args:=xs.toArray,argTypes:=ts}) tm (Mem bs H) c u:=by intro ai Q K a w d ty pos cV g aj hw jR;unfold Oper.wp;rw[Aj (hf.get aj ai) (hxs.get aj ai)];simp only[Oper.upon];refine Calls.mono (bb ai w hw) λe I h=>?_;unfold qy at h;obtain⟨v,rfl,hb,rfl⟩:=h;exact jR I (hw.ext hb)
theorem e1{d j g:Nat}{want js b c:Bool}{op:Op}{ty:TypeId}{pos:String}{cV:Array Edge}{u:Value} (ae:(ops[j]?).bind (·.dst)=some g:=by rfl) (az:jB tm g=some (js,.bool b):=by rfl) (ai:c=(js&&(b==want)):=by first | exact EZ _ | exact EY _ | exact EX _ _ | exact EW _ _) (h:vo P N op tm A c u) (hd:Nat.blt d N=true:=by rfl) (ab:kN P N ops Q rest ((d,c,u)::tm) A):kN P N ops Q (⟨some d,op,ty,pos,cV,some (j,want)⟩::rest) tm A:=by
 intro a w aj hw;refine wpList_step λK jR=>?_;have aY:=BO (ops:=ops) aj ae az;unfold Region.wanted;simp only[aY];have yE:=apv.mp hd;by_cases iV:c=true
 ·have h1:js=true/\b=want:=by rw[iV]at ai;have:=ai.symm;simp only[aoo,ap7]at this;exact this
  rw[h1.1,h1.2];simp only[if_true,beq_self_eq_true];exact h iV _ _ a w _ _ _ _ _ aj hw λI qe=>jR _ _ (ab _ _ (by simpa[iV]using aj.put yE c u) qe)
 have h1:((if js=true then some b else none)==some want)=false:=by cases js<;>simp at ai⊢;intro hb;exact iV (by rw[ai,hb];simp)
 rw[h1];simp only[aqL,aqw];exact jR _ _ (ab _ _ (by simpa[iV]using aj.put yE c u) hw)
theorem rE{i j g d:Nat}{want js b c:Bool}{op:Op}{ty:TypeId}{pos:String}{cV:Array Edge}{u:Value}{listed:Array Bool}{order:List Nat}{fuel:Nat}(ab:cR N (hI P ops Q fuel (listed.setIfInBounds i true) A order) ((d,c,u)::tm) A) (hi:ops[i]?=some ⟨some d,op,ty,pos,cV,some (j,want)⟩:=by rfl) (aM:Region.ready .any ops listed=[i]:=by kernel_rfl) (ae:(ops[j]?).bind (·.dst)=some g:=by rfl) (az:jB tm g=some (js,.bool b):=by rfl) (ai:c=(js&&(b==want)):=by first | exact EZ _ | exact EY _ | exact EX _ _ | exact EW _ _) (h:vo P N op tm A c u) (hd:Nat.blt d N=true:=by rfl):cR N (hI P ops Q (fuel+1) listed A (i::order)) tm A:=by
 intro a w aj hw;unfold hI;intro eA _;refine⟨λh=>(by rw[h]at aM;cases aM),λk hk=>?_⟩;have xx:=xe eA hk;rw[aM,aoB]at hk;subst hk;have aY:=BO (ops:=ops) aj ae az;have yE:=apv.mp hd;have mH:=aj.put yE c u;unfold wpOp;simp only[hi,Region.wanted,aY];unfold cR hI at ab
 by_cases iV:c=true
 ·have h1:js=true/\b=want:=by rw[iV]at ai;have:=ai.symm;simp only[aoo,ap7]at this;exact this
  rw[h1.1,h1.2];simp only[if_true,beq_self_eq_true];exact .inl (h iV _ _ a w _ _ _ _ _ aj hw λI qe=>.inr ⟨A,.inl λ_ h=>h,qe,ab _ _ (by simpa[iV]using mH) qe xx qe⟩)
 have h1:((if js=true then some b else none)==some want)=false:=by cases js<;>simp at ai⊢;intro hb;exact iV (by rw[ai,hb];simp)
 rw[h1];simp only[aqL,aqw];exact .inr ⟨A,.inl λ_ h=>h,hw,ab _ _ (by simpa[iV]using mH) hw xx hw⟩
end
def vJ(h:Nat):Value->Value
 | .slice a _ cap=>.slice a h cap
 | v=>v
theorem aD.cut{v:Value}(h:aD v)(k:Nat):aD (vJ k v):=by obtain⟨a,n,cap,rfl⟩:=h;exact⟨_,_,_,rfl⟩
theorem NA(a:Addr):a.add 0=a:=by unfold Addr.add;simp
section
variable {P:Program} {N:Nat} {tm:dY} {bs:List dm} {H:List aB} {c:Bool}
theorem agZ{t e sz b len cap:Nat}{z:Value}{a:Option Addr}{k:IntKind}{n:Int}{w:World}[aJ:fD P t e][cF:dn P e sz b z](h0:0<=n)(h2:n<=cap): (Instr.sliceAt t (.slice a len cap) none (some (.int k n)) none).run P w=.ok (.slice a n.toNat cap) w:=by
 have j5:P.elem t=e:=by have:=aJ.h;simp[Program.elem,this]
 have hu:P.underlying t=some (.slice (P.elem t)):=by rw[j5];exact aJ.h
 obtain⟨i,hi,mF,_⟩:=cF.h;rw[run_sliceAt_slice w t _ _ _ _ hu,run_slice_h w t a len cap hu k n h0 h2,j5];simp[sizeOf,typeInfo,hi,sliced,Result.andThen,NA]
theorem Lr{aX:Type}{enc:aX->List Value}{sz t tt e b:Nat}{z v:Value}{k:IntKind}{n:Nat}{xs:List aX}{x y:Operand}[aJ:fD P t e][cF:dn P e sz b z] (hx:bt tm c x v) (aY:bt tm c y (.int k (n:Int))) (hm:aB.own v tt sz enc xs∈H) (hb:c=true->n<=xs.length):bW P N (.slice t x none (some y) none) tm (Mem bs H) c (vJ n v):=
 λai a w _ _ _ _ _ cy hw=>by simp only[execOp,hx.get cy ai,aY.get cy ai,Option.map];obtain⟨dJ,cap,ax,h1,h2,h3⟩:=sF (hw.own _ hm);subst ax;exact hX (agZ (by omega) (by have:=hb ai;omega))
theorem aZ.cut{aX:Type}{S:Nat->Prop}{w:World}{enc:aX->List Value}{sz:Nat}{v:Value}{xs:List aX}(h:aZ S w enc sz v xs)(n:Nat)(bd:n<=xs.length):aZ S w enc sz (vJ n v) (xs.take n):=by
 obtain⟨a,m,cap,rfl,rfl,h1,h2,h3⟩:=h.is;refine⟨⟨a,n,cap,rfl,by simp;omega,by omega,h2,λhp=>h3 (by omega)⟩,λi x j u hi ae=>?_,λdJ sA Ca ax hp=>?_⟩
 ·have gY:i<n:=by
   rcases ao6 i n with cm | cm
   ·exact cm
   rw[aoV (by simp;omega)]at hi;cases hi
  rw[aqU gY]at hi;have:=h.cell i x j u hi ae;cases a<;>exact this
 cases ax;exact h.wo _ _ _ rfl (by omega)
theorem Mem.acV{aX:Type}{enc:aX->List Value}{sz tt:Nat}{v:Value}{xs:List aX}{I:World}[he:eg enc sz](hw:Mem bs H I)(hm:aB.own v tt sz enc xs∈H)(n:Nat)(bd:n<=xs.length):aZ al I enc sz (vJ n v) (xs.take n):=(hw.dX hm).cut n bd
end
theorem Mem.last{bs:List dm}{H:List aB}{w:World}{B:dm}(h:Mem bs H w)(hB:bs.getLast?=some B):Mem [B] H w:=by
 refine⟨λC hC=>?_,h.own,h.fC,λC hC=>?_,h.il⟩
 ·obtain rfl:=aoB.1 hC;exact h.base _ (List.mem_of_getLast? hB)
 obtain rfl:=aoB.1 hC;exact h.apart _ (List.mem_of_getLast? hB)
theorem kK.trans{S:Nat->Prop}{A B C:World}(h:kK S A B)(h2:kK S B C):kK S A C:=⟨h2.os.trans h.os,h2.tape.trans h.tape,h2.output.trans h.output,ao5 h.size h2.size,λk hk cG=>(h2.s9 k (apJ hk h.size) cG).trans (h.s9 k hk cG)⟩
theorem cA{N:Nat}{K:Act->World->Prop}{tm:dY}{A:World->Prop}(BP:World->Prop) (hA:∀w,A w->BP w) (h:cR N K tm BP):cR N K tm A:=by unfold cR at *;exact λa w aj hw=>h a w aj (hA w hw)
theorem KM{H:List aB}{w bc bY fW:World}(h1:Mem [(w,al)] H bc)(h2:Mem [(bc,al)] [] bY)(h3:Mem [(bY,al)] [] fW):Mem [(w,al)] [] fW:=by refine⟨λB hB=>?_,λe he=>(by cases he),λe he=>(by cases he),λB hB e he=>(by cases he),λi j gh gr _ hi=>by simp at hi⟩;obtain rfl:=aoB.1 hB;exact((h1.base _ (.head _)).trans (h2.base _ (.head _))).trans (h3.base _ (.head _))
def fL(s u:ByteArray):Bool:=Op.bytesLess s.toList u.toList
theorem Ai(s u:ByteArray):(s.toList==u.toList)=bw (s=u):=by
 rw[ByteArray.toList_eq,ByteArray.toList_eq,cd];by_cases h:s=u
 ·subst h;simp
 have:¬s.data=u.data:=λe=>h (ByteArray.ext e);simp[h,this]
def dO(s:ByteArray)(i:Nat):Nat:=(s.data.toList.getD i 0).toNat
def gU(sz l h:Nat):Value->Value
 | .slice a _ cap=>.slice (if cap=l then a else a.map (·.add (l* sz))) (h-l) (cap-l)
 | v=>v
theorem aD.sub{v:Value}(h:aD v)(sz l k:Nat):aD (gU sz l k v):=by obtain⟨a,n,cap,rfl⟩:=h;exact⟨_,_,_,rfl⟩
theorem Wl(a:Addr)(m n:Nat):(a.add m).add n=a.add (m+n):=add_add a m n
theorem aZ.sub{aX:Type}{S:Nat->Prop}{w:World}{enc:aX->List Value}{sz:Nat}{v:Value}{xs:List aX}(h:aZ S w enc sz v xs)(l k:Nat)(aL:l<=k)(hk:k<=xs.length):aZ S w enc sz (gU sz l k v) ((xs.take k).drop l):=by
 obtain⟨a,m,cap,rfl,rfl,h1,h2,h3⟩:=h.is;have bH:((xs.take k).drop l).length=k-l:=by rw[apG,ao3];omega
 refine⟨⟨_,_,_,rfl,bH.symm,by omega,by omega,λhp=>?_⟩,λi x j u hi ae=>?_,λdJ sA Ca ax hp=>?_⟩
 ·have:=h3 (by omega);obtain⟨A,rfl⟩:=apf.1 this;split<;>rfl
 ·have gJ:i<k-l:=by
   rcases ao6 i (k-l)with cm | cm
   ·exact cm
   rw[aoV (by omega)]at hi;cases hi
  rw[apW,aqU (by omega)]at hi;have ai:=h.cell (l+i) x j u hi ae;obtain⟨A,rfl⟩:=apf.1 (h3 (by omega));have eA:¬cap=l:=by omega
  simp only[gU,eA,aqw,aqF,gT,add_add]at ai⊢;rw[<-ai];congr 2;rw[aqi]
 obtain⟨A,rfl⟩:=apf.1 (h3 (by simp only[gU]at ax;injection ax with bu b2 gg;omega))
 simp only[gU]at ax;injection ax with bu b2 gg;have:=h.wo A _ _ rfl (by omega);split at bu
 ·injection bu with bu;subst bu;exact this
 simp only[aqF]at bu;injection bu with bu;subst bu;rw[B1];exact this
section
variable {P:Program} {N:Nat} {tm:dY} {A:World->Prop} {bs:List dm} {H:List aB} {c:Bool}
theorem DC{op:BinOp}{t de:TypeId}{x y:Operand}{s u:ByteArray}{v:Value}(hx:bt tm c x (.string s))(aY:bt tm c y (.string u)) (aM:∀w,(binOp op t (.string s) (.string u)).run P w=.ok v w):bW P N (.binOp op t x y de) tm A c v:=
 λai a w _ _ _ _ _ aj _=>by
  simp only[execOp,hx.get aj ai,aY.get aj ai];have az:(eqGuard op t x y (.string s) (.string u)).run P w=.ok () w:=by unfold eqGuard;cases op<;>rfl
  simp[az,aM w]
theorem afl{t de:TypeId}{x y:Operand}{s u:ByteArray}(hx:bt tm c x (.string s):=by exact cb)(aY:bt tm c y (.string u):=by exact cb):bW P N (.binOp .eql t x y de) tm A c (.bool (bw (s=u))):=DC hx aY (λw=>by simp[binOp,Op.stringOp,Ai])
theorem afY{t de:TypeId}{x y:Operand}{s u:ByteArray}(hx:bt tm c x (.string s):=by exact cb)(aY:bt tm c y (.string u):=by exact cb):bW P N (.binOp .neq t x y de) tm A c (.bool (!bw (s=u))):=DC hx aY (λw=>by simp[binOp,Op.stringOp,Ai])
theorem afO{t de:TypeId}{x y:Operand}{s u:ByteArray}(hx:bt tm c x (.string s):=by exact cb)(aY:bt tm c y (.string u):=by exact cb):bW P N (.binOp .lss t x y de) tm A c (.bool (fL s u)):=DC hx aY (λw=>by simp[binOp,Op.stringOp,fL])
theorem afE{t de:TypeId}{x y:Operand}{s u:ByteArray}(hx:bt tm c x (.string s):=by exact cb)(aY:bt tm c y (.string u):=by exact cb):bW P N (.binOp .leq t x y de) tm A c (.bool (fL s u||bw (s=u))):=DC hx aY (λw=>by simp[binOp,Op.stringOp,fL,Ai])
theorem afs{t de:TypeId}{x y:Operand}{s u:ByteArray}(hx:bt tm c x (.string s):=by exact cb)(aY:bt tm c y (.string u):=by exact cb):bW P N (.binOp .geq t x y de) tm A c (.bool (!fL s u)):=DC hx aY (λw=>by simp[binOp,Op.stringOp,fL])
theorem afA{t:TypeId}{x:Operand}{s:ByteArray}[aJ:jr P t .string](hx:bt tm c x (.string s):=by exact cb):bW P N (.call {callee:=.builtin .len,args:=#[x],argTypes:=#[t]}) tm A c (.int .i64 (s.size:Int)):=λai a w _ _ _ _ _ cy hw=>EI (hx.get cy ai) (by simp[Builtin.len_,run_underlying aJ.h,goInt])
theorem Tf{t:TypeId}{x y:Operand}{s:ByteArray}{k:IntKind}{n:Nat}[aJ:jr P t .string](hx:bt tm c x (.string s):=by exact cb)(aY:bt tm c y (.int k (n:Int)):=by exact cb) (hb:c=true->n<s.size:=by first | (intro _;assumption) | (intro _;omega) | (intro ai;simp only[aoo,aox,aoq,aoz,aoC,aos,an,au]at ai;omega)):bW P N (.index t x y) tm A c (.int .u8 (dO s n:Int)):=
 λai a w _ _ _ _ _ cy hw=>by
  simp only[execOp,hx.get cy ai,aY.get cy ai];refine hX ?_;have h1:=hb ai;have h2:s[n]?=some (s.data.toList.getD n 0):=by have e:s.data.toList.length=s.size:=aqE;rw[aor,aov (by omega),apM,getElem?_pos s n h1];rfl
  unfold dO;generalize s.data.toList.getD n 0=b at h2⊢;have h3:(0:Int)<=(n:Int):=by omega
  simp[Instr.index,asIntOf,run_underlying aJ.h,h3,h2]
theorem afv{t:TypeId}{x y:Operand}{s:ByteArray}{k:IntKind}{n:Int}[aJ:jr P t .string](hx:bt tm c x (.string s):=by exact cb)(aY:bt tm c y (.int k n):=by exact cb) (hb:c=true->0<=n/\n<s.size:=by first | (intro _;omega) | (intro ai;simp only[aoo,aox,aoq,aoz,aoC,aos,an,au]at ai;omega)):bW P N (.index t x y) tm A c (.int .u8 (dO s n.toNat:Int)):=by
 by_cases ai:c=true
 ·obtain⟨m,rfl⟩:∃m:Nat,n=m:=⟨n.toNat,by have:=hb ai;omega⟩;rw[aoF];exact Tf hx aY (λ_=>by have:=hb ai;omega)
 exact λh=>absurd h ai
theorem afN{t de:TypeId}{x y:Operand}{m n:Int}(hx:bt tm c x (.int .u8 m):=by exact cb)(aY:bt tm c y (.int .u8 n):=by exact cb):bW P N (.binOp .lss t x y de) tm A c (.bool (bw (m<n))):=q2 hx aY (by simp) rfl
theorem afD{t de:TypeId}{x y:Operand}{m n:Int}(hx:bt tm c x (.int .u8 m):=by exact cb)(aY:bt tm c y (.int .u8 n):=by exact cb):bW P N (.binOp .leq t x y de) tm A c (.bool (bw (m<=n))):=q2 hx aY (by simp) rfl
theorem afu{t de:TypeId}{x y:Operand}{m n:Int}(hx:bt tm c x (.int .u8 m):=by exact cb)(aY:bt tm c y (.int .u8 n):=by exact cb):bW P N (.binOp .gtr t x y de) tm A c (.bool (bw (n<m))):=q2 hx aY (by simp) rfl
theorem afr{t de:TypeId}{x y:Operand}{m n:Int}(hx:bt tm c x (.int .u8 m):=by exact cb)(aY:bt tm c y (.int .u8 n):=by exact cb):bW P N (.binOp .geq t x y de) tm A c (.bool (bw (n<=m))):=q2 hx aY (by simp) rfl
theorem afk{t de:TypeId}{x y:Operand}{m n:Int}(hx:bt tm c x (.int .u8 m):=by exact cb)(aY:bt tm c y (.int .u8 n):=by exact cb):bW P N (.binOp .eql t x y de) tm A c (.bool (bw (m=n))):=q2 hx aY (by simp) rfl
theorem afX{t de:TypeId}{x y:Operand}{m n:Int}(hx:bt tm c x (.int .u8 m):=by exact cb)(aY:bt tm c y (.int .u8 n):=by exact cb):bW P N (.binOp .neq t x y de) tm A c (.bool (!bw (m=n))):=q2 hx aY (by simp) rfl
theorem zq{t de:TypeId}{x y:Operand}(n:Nat) (m:Nat) (hx:bt tm c x (.int .i64 (m:Int)):=by exact cb) (aY:bt tm c y (.int .i64 (n:Int)):=by exact cb) (bd:c=true->0<n:=by first | (intro _;assumption) | (intro _;omega)):bW P N (.binOp .rem t x y de) tm A c (.int .i64 ((m % n:Nat):Int)):=by
 by_cases ai:c=true
 ·have h0:¬n=0:=by have:=bd ai;omega
  exact oj hx aY (λw=>by simp[binOp,Op.intDiv,h0];exact(Int.ofNat_tmod m n).symm)
 exact λh=>absurd h ai
theorem zp{t de:TypeId}{x y:Operand}(n:Nat) (m:Nat) (hx:bt tm c x (.int .i64 (m:Int)):=by exact cb) (aY:bt tm c y (.int .i64 (n:Int)):=by exact cb) (bd:c=true->0<n:=by first | (intro _;assumption) | (intro _;omega)) (hm:m<9223372036854775808:=by first | assumption | omega):bW P N (.binOp .quo t x y de) tm A c (.int .i64 ((m / n:Nat):Int)):=by
 by_cases ai:c=true
 ·have h0:¬n=0:=by have:=bd ai;omega
  have h2:m / n<9223372036854775808:=Nat.lt_of_le_of_lt (Nat.div_le_self m n) hm;have h1:IntKind.i64.wrap ((m / n:Nat):Int)=((m / n:Nat):Int):=y3 (n:=((m / n:Nat):Int)) ⟨by generalize m / n=q at *;omega,by generalize m / n=q at *;omega⟩;exact oj hx aY (λw=>by simp only[binOp,Op.intDiv,ne_eq,arb,aqw];rw[aot (by omega),show((m:Int).tdiv (n:Int))=((m / n:Nat):Int)from(Int.ofNat_tdiv m n).symm,h1];rfl)
 exact λh=>absurd h ai
theorem afP{t1 t2:TypeId}{x y:Operand}{m n:Int}(hx:bt tm c x (.int .i64 m):=by exact cb)(aY:bt tm c y (.int .i64 n):=by exact cb):bW P N (.call {callee:=.builtin .min,args:=#[x,y],argTypes:=#[t1,t2]}) tm A c (.int .i64 (if n<m then n else m)):=
 λai a w _ _ _ _ _ cy hw=>by simp[execOp,resolve,invoke,builtin,hx.get cy ai,aY.get cy ai,Builtin.min_,Builtin.min2]
theorem ag0{t e sz b len cap:Nat}{z:Value}{a:Option Addr}{mK nh:IntKind}{l h:Nat}{w:World}[aJ:fD P t e][cF:dn P e sz b z](h1:l<=h)(h2:h<=cap): (Instr.sliceAt t (.slice a len cap) (some (.int mK (l:Int))) (some (.int nh (h:Int))) none).run P w=.ok (gU sz l h (.slice a len cap)) w:=by
 have j5:P.elem t=e:=by have:=aJ.h;simp[Program.elem,this]
 have hu:P.underlying t=some (.slice (P.elem t)):=by rw[j5];exact aJ.h
 obtain⟨i,hi,mF,_⟩:=cF.h;rw[run_sliceAt_slice w t _ _ _ _ hu,run_slice_lh w t a len cap hu mK nh l h (by omega) (by omega) (by omega),j5];simp[sizeOf,typeInfo,hi,sliced,Result.andThen,gU,mF]
theorem T3{t e sz b len cap:Nat}{z:Value}{a:Option Addr}{mK:IntKind}{l:Nat}{w:World}[aJ:fD P t e][cF:dn P e sz b z](h1:l<=len): (Instr.sliceAt t (.slice a len cap) (some (.int mK (l:Int))) none none).run P w=.ok (gU sz l len (.slice a len cap)) w:=by
 have j5:P.elem t=e:=by have:=aJ.h;simp[Program.elem,this]
 have hu:P.underlying t=some (.slice (P.elem t)):=by rw[j5];exact aJ.h
 obtain⟨i,hi,mF,_⟩:=cF.h;rw[run_sliceAt_slice w t _ _ _ _ hu,run_slice_l w t a len cap hu mK l (by omega) (by omega),j5];simp[sizeOf,typeInfo,hi,sliced,Result.andThen,gU,mF]
theorem Ls{aX:Type}{S:Nat->Prop}{B:World}{enc:aX->List Value}{sz t e b:Nat}{z v:Value}{k:IntKind}{l:Nat}{xs:List aX}{x y:Operand}[aJ:fD P t e][cF:dn P e sz b z] (hx:bt tm c x v) (aY:bt tm c y (.int k (l:Int))) (h:aZ S B enc sz v xs) (hb:c=true->l<=xs.length):bW P N (.slice t x (some y) none none) tm A c (gU sz l xs.length v):=
 λai a w _ _ _ _ _ cy hw=>by simp only[execOp,hx.get cy ai,aY.get cy ai,Option.map];obtain⟨dJ,m',cap,rfl,rfl,h1,h2,h3⟩:=h.is;exact hX (T3 (hb ai))
theorem zr{aX:Type}{sz t e b:Nat}{z v:Value}{k:IntKind}{x y:Operand}[aJ:fD P t e][cF:dn P e sz b z](enc:aX->List Value) (tt:Nat) (l:Nat) (xs:List aX) (hx:bt tm c x v) (aY:bt tm c y (.int k (l:Int))) (hm:aB.own v tt sz enc xs∈H) (hb:c=true->l<=xs.length):bW P N (.slice t x (some y) none none) tm (Mem bs H) c (gU sz l xs.length v):=
 λai a w _ _ _ _ _ cy hw=>by simp only[execOp,hx.get cy ai,aY.get cy ai,Option.map];obtain⟨dJ,cap,ax,h1,h2,h3⟩:=sF (hw.own _ hm);subst ax;exact hX (T3 (hb ai))
end
section
variable {P:Program} {N:Nat} {Q pZ:Exit->Act->World->Prop} {tm:dY} {A BP:World->Prop} {ops:Array Oper} {rest:List Oper}
theorem Gx{P:Program}{N:Nat}{op:Op}{tm:dY}{A:World->Prop}{c:Bool}{v:Value}(h:bW P N op tm A c v:=by first | (show bW _ _ (.move _) _ _ _ _;exact afQ) | (show bW _ _ (.assign _) _ _ _ _;exact afc) | (show bW _ _ (.load _ _) _ _ _ _;first | exact afG | exact afH | exact afJ | exact zo | exact afI | exact afK | exact afF | exact amT) | (show bW _ _ (.fieldAddr _ _ _) _ _ _ _;first | exact afn | exact afo) | (show bW _ _ (.indexAddr _ (.global _) _) _ _ _ _;exact afw) | (show bW _ _ (.indexAddr _ _ _) _ _ _ _;first | exact afx | exact afy | exact Te | exact Tg) | (show bW _ _ (.call _) _ _ _ _;first | exact afz | exact afB | exact afA | exact afP) | (show bW _ _ (.index _ _ _) _ _ _ _;first | exact Tf | exact afv) | (show bW _ _ (.extract _ _) _ _ _ _;exact afm) | (show bW _ _ (.pick _ _ _) _ _ _ _;first | exact af2 | exact af3) | (show bW _ _ (.convert _ _ _) _ _ _ _;first | exact afe | exact aff | exact amQ | exact afd) | (show bW _ _ (.unOp .not _ _) _ _ _ _;exact afZ) | (show bW _ _ (.unOp .neg _ _) _ _ _ _;first | exact afU | exact amU) | (show bW _ _ (.build _ _) _ _ _ _;exact Gy) | (show bW _ _ (.makeFunc _ _ _) _ _ _ _;exact afp) | (show bW _ _ (.binOp .lss _ _ _ _) _ _ _ _;first | exact afM | exact afN | exact afO) | (show bW _ _ (.binOp .geq _ _ _ _) _ _ _ _;first | exact afq | exact afr | exact afs) | (show bW _ _ (.binOp .gtr _ _ _ _) _ _ _ _;first | exact aft | exact afu | exact amS) | (show bW _ _ (.binOp .leq _ _ _ _) _ _ _ _;first | exact afC | exact afD | exact afE) | (show bW _ _ (.binOp .neq _ _ _ _) _ _ _ _;first | exact afV | exact afW | exact afT | exact wN _ _ _ | exact afY | exact afX) | (show bW _ _ (.binOp .eql _ _ _ _) _ _ _ _;first | exact afi | exact afj | exact amR | exact GA | exact afl | exact afk) | (show bW _ _ (.binOp .add _ _ _ _) _ _ _ _;first | exact ae9 | exact amP) | (show bW _ _ (.binOp .sub _ _ _ _) _ _ _ _;first | exact af6 | exact af7) | (show bW _ _ (.binOp .mul _ _ _ _) _ _ _ _;first | exact afR | exact afS) | (show bW _ _ (.binOp .and _ _ _ _) _ _ _ _;exact afa) | (show bW _ _ (.binOp .or _ _ _ _) _ _ _ _;exact af0) | (show bW _ _ (.binOp .xor _ _ _ _) _ _ _ _;exact amV) | (show bW _ _ (.binOp .andNot _ _ _ _) _ _ _ _;exact afb) | (show bW _ _ (.binOp .shr _ _ _ _) _ _ _ _;exact af5) | (show bW _ _ (.binOp .shl _ _ _ _) _ _ _ _;exact af4) | (show bW _ _ (.binOp .rem _ _ _ _) _ _ _ _;exact zq _ _) | (show bW _ _ (.binOp .quo _ _ _ _) _ _ _ _;exact zp _ _)):bW P N op tm A c v:=h
theorem dh{d:Nat}{op:Op}{ty:TypeId}{pos:String}{cV:Array Edge}{v:Value}(h:bW P N op tm A true v:=by exact Gx) (hd:Nat.blt d N=true:=by rfl) (ab:kN P N ops Q rest ((d,true,v)::tm) A):kN P N ops Q (⟨some d,op,ty,pos,cV,none⟩::rest) tm A:=aj9 h hd ab
theorem vk{d j g:Nat}{want js b c:Bool}{op:Op}{ty:TypeId}{pos:String}{cV:Array Edge}{v:Value}(ae:(ops[j]?).bind (·.dst)=some g:=by rfl) (az:jB tm g=some (js,.bool b):=by rfl) (ai:c=(js&&(b==want)):=by first | exact EZ _ | exact EY _ | exact EX _ _ | exact EW _ _) (h:bW P N op tm A c v:=by exact Gx) (hd:Nat.blt d N=true:=by rfl) (ab:kN P N ops Q rest ((d,c,v)::tm) A):kN P N ops Q (⟨some d,op,ty,pos,cV,some (j,want)⟩::rest) tm A:=aka ae az ai h hd ab
variable {listed:Array Bool} {S:World->Prop} {order:List Nat} {fuel:Nat}
theorem jA{i d:Nat}{op:Op}{ty:TypeId}{pos:String}{cV:Array Edge}{v:Value}(hi:ops[i]?=some ⟨some d,op,ty,pos,cV,none⟩:=by rfl)(vS:vv Q:=by repeat (first | exact S7 | apply S8 | apply S6))(hok:A6 ops listed i=true:=by kernel_rfl) (h:bW P N op tm S true v:=by exact Gx) (hd:Nat.blt d N=true:=by rfl) (ab:cR N (hI P ops Q fuel (listed.setIfInBounds i true) S order) ((d,true,v)::tm) A):cR N (hI P ops Q (fuel+1) listed S (i::order)) tm A:=acs vS hi hok h hd ab
theorem Re{i j g d:Nat}{want js b c:Bool}{op:Op}{ty:TypeId}{pos:String}{cV:Array Edge}{v:Value}(hi:ops[i]?=some ⟨some d,op,ty,pos,cV,some (j,want)⟩:=by rfl)(vS:vv Q:=by repeat (first | exact S7 | apply S8 | apply S6))(hok:A6 ops listed i=true:=by kernel_rfl) (ae:(ops[j]?).bind (·.dst)=some g:=by rfl) (az:jB tm g=some (js,.bool b):=by rfl) (ai:c=(js&&(b==want)):=by first | exact EZ _ | exact EY _ | exact EX _ _ | exact EW _ _) (h:bW P N op tm S c v:=by exact Gx) (hd:Nat.blt d N=true:=by rfl) (ab:cR N (hI P ops Q fuel (listed.setIfInBounds i true) S order) ((d,c,v)::tm) A):cR N (hI P ops Q (fuel+1) listed S (i::order)) tm A:=acu vS hi hok ae az ai h hd ab
theorem acn(aM:Region.ready .any ops listed=[]:=by kernel_rfl)(h:gR N .normal Q tm A):cR N (hI P ops Q fuel listed S []) tm A:=acm aM h
theorem gw{i:Nat}{dst:Option Tmp}{op:Op}{ty:TypeId}{pos:String}{cV:Array Edge}(hi:ops[i]?=some ⟨dst,op,ty,pos,cV,none⟩:=by rfl)(aM:Region.ready .any ops listed=[i]:=by kernel_rfl) (hw:BK .any ops i=true:=by kernel_rfl) (we:Region.ready .any ops (listed.setIfInBounds i true)=[]:=by kernel_rfl) (h:gz P N op dst Q tm A (Q .normal)):cR N (hI P ops Q (fuel+1) listed S (i::order)) tm A:=acr hi aM hw we h
theorem eP{i:Nat}{dst:Option Tmp}{op:Op}{ty:TypeId}{pos:String}{cV:Array Edge}(S':World->Prop)(hi:ops[i]?=some ⟨dst,op,ty,pos,cV,none⟩:=by rfl)(aM:Region.ready .any ops listed=[i]:=by kernel_rfl) (qb:BL .any ops i listed=true:=by kernel_rfl) (h:gz P N op dst Q tm A (λdJ I=>S' I/\hI P ops Q fuel (listed.setIfInBounds i true) S' order dJ I)):cR N (hI P ops Q (fuel+1) listed S (i::order)) tm A:=aco hi aM qb h
theorem bO{i:Nat}{dst:Option Tmp}{op:Op}{ty:TypeId}{pos:String}{cV:Array Edge}(S':World->Prop)(hi:ops[i]?=some ⟨dst,op,ty,pos,cV,none⟩:=by rfl)(aM:Region.ready .any ops listed=[i]:=by kernel_rfl) (qK:∀w,S' w->S w:=by first | exact λ_ h=>h | exact λ_ h=>h.tail | exact λ_ h=>h.cX) (h:gz P N op dst Q tm A (λdJ I=>S' I/\hI P ops Q fuel (listed.setIfInBounds i true) S' order dJ I)):cR N (hI P ops Q (fuel+1) listed S (i::order)) tm A:=acp hi aM qK h
end
attribute [irreducible] bW gz vo cR hI qy r1 rj rk bw vr mQ
structure ny(Y:Prop):Prop where
 it:Y
theorem U{X Y:Prop}(ab:Y)(step:ny Y->X:=by intro hP;(repeat (first | (show cR _ (wpList _ _ _ (⟨some _,_,_,_,_,none⟩::_)) _ _;refine dh (ab:=?_)) | (show cR _ (wpList _ _ _ (⟨some _,_,_,_,_,some _⟩::_)) _ _;refine vk (ab:=?_)) | refine aj8 ?_ | refine aeJ ?_ | refine aj5 ?_ | refine aj1 ?_ | refine ajW ?_ | refine aeE ?_ | refine aj2 ?_ | refine aeM ?_ | refine aeH ?_ | refine ajZ ?_ | refine aeK ?_ | refine aeF ?_ | refine aeG rfl ?_ | refine aj6 ?_));exact hP.it):X:=step ⟨ab⟩
theorem aN{X Y:Prop}(ab:Y)(step:ny Y->X:=by intro hP;(repeat (first | refine jA (ab:=?_) | refine Re (ab:=?_) | refine acn (h:=?_)));exact hP.it):X:=step ⟨ab⟩
end Go.b9
namespace Go.b9
theorem af{X Y:Prop}(ab:Y)(step:ny Y->X:=by intro hP;(refine U ?_;repeat ((first | refine dh tT (ab:=?_) | refine vk (h:=tT) (ab:=?_));refine U ?_));exact hP.it):X:=step ⟨ab⟩
theorem bQ{X Y:Prop}(ab:Y)(step:ny Y->X:=by intro hP;(refine aN ?_;repeat ((first | refine jA (h:=tT) (ab:=?_) | refine Re (h:=tT) (ab:=?_));refine aN ?_));exact hP.it):X:=step ⟨ab⟩
end Go.b9
namespace Go.b9
open Go Go.RowKit
section
variable {P:Program} {N:Nat} {Q:Exit->Act->World->Prop} {K:Act->World->Prop} {tm:dY} {ops:Array Oper} {rest:List Oper} {bs:List dm} {H:List aB} {A:World->Prop} {ty:TypeId} {pos:String} {cV:Array Edge}
theorem bN{t n kO:Nat}{z v:Value}{x y:Operand}{b off tt:Nat}{cs vs:List Value}{Y:Prop}[cF:dn P t n kO z](i:Nat)(ab:Y)(hx:bt tm true x (.pointer (some ⟨b,off,none⟩)):=by exact cb)(aY:bt tm true y v:=by exact cb)(fP:v.cells=vs.toArray:=by exact te)(hi:H[i]?=some (.box b cs tt):=by rfl)(bd:vs.length=n:=by rfl)(rA:Nat.ble (off+n) cs.length=true:=by rfl)(h1:qx vs:=by exact Gp)(step:ny Y->kN P N ops Q rest tm (Mem bs (H.set i (.box b (lay cs off vs) tt))):=by intro hP;refine U ?_;exact hP.it):kN P N ops Q (⟨none,.store t x y,ty,pos,cV,none⟩::rest) tm (Mem bs H):=aq (bK i hx aY fP hi bd rA h1 (step ⟨ab⟩))
theorem b7{d:Nat}{t:TypeId}{x:Operand}{v:Value}{cs:List Value}{Y:Nat->Prop}(ab:∀b,Y b)(hx:bt tm true x v:=by exact cb)(fP:v.cells=cs.toArray:=by exact te)(hd:Nat.blt d N=true:=by rfl)(step:∀b,ny (Y b)->kN P N ops Q rest ((d,true,.pointer (some ⟨b,0,none⟩))::tm) (Mem bs (.box b cs t::H)):=by intro b hP;refine U ?_;exact hP.it):kN P N ops Q (⟨some d,.box t x,ty,pos,cV,none⟩::rest) tm (Mem bs H):=aq (ru (λb=>step b ⟨ab b⟩) hx fP hd)
theorem cH{d:Nat}{t:TypeId}{n b:Nat}{z:Value}{cs:List Value}{Y:Nat->Prop}[cF:dn P t n b z](ab:∀b,Y b)(fP:z.cells=cs.toArray:=by rfl)(hd:Nat.blt d N=true:=by rfl)(step:∀b,ny (Y b)->kN P N ops Q rest ((d,true,.pointer (some ⟨b,0,none⟩))::tm) (Mem bs (.box b cs t::H)):=by intro b hP;refine U ?_;exact hP.it):kN P N ops Q (⟨some d,.alloc t,ty,pos,cV,none⟩::rest) tm (Mem bs H):=aq (fb (λb=>step b ⟨ab b⟩) fP hd)
theorem bZ{k:FuncId}{fn:Func}{code:Code}{args:List Value}{w:World}{Φ:Nat->Value->World->Prop}{Y:Prop}(hf:P.funcs[k]?=some fn)(ir:fn.ntmps=N)(ab:Y)(hb:fn.body=some code:=by exact rfl)(bH:Nat.ble args.length N=true:=by exact rfl)(step:ny Y->cR N (code.wp P (bodyPost P fn (qy w Φ))) (q7 0 args) (Mem [(w,al)] []):=by intro hP;refine U ?_;exact hP.it):bl P k args w Φ:=OW hf ir hb bH (step ⟨ab⟩)
theorem hL{k:FuncId}{fn:Func}{code:Code}{args:List Value}{w:World}{Ψ:Nat->Value->List aB->World->Prop}{Y:Prop}(hf:P.funcs[k]?=some fn)(ir:fn.ntmps=N)(ab:Y)(hb:fn.body=some code:=by exact rfl)(bH:Nat.ble args.length N=true:=by exact rfl)(step:ny Y->cR N (code.wp P (bodyPost P fn (rj w Ψ))) (q7 0 args) (Mem [(w,al)] []):=by intro hP;refine U ?_;exact hP.it):en P k args w Ψ:=OV hf ir hb bH (step ⟨ab⟩)
theorem sa{k:FuncId}{fn:Func}{code:Code}{args:List Value}{es:List aB}{w:World}{Ψ:Nat->Value->List aB->World->Prop}{Y:Prop}(hf:P.funcs[k]?=some fn)(ir:fn.ntmps=N)(hw:Mem [] es w)(ab:Y)(hb:fn.body=some code:=by exact rfl)(bH:Nat.ble args.length N=true:=by exact rfl)(step:ny Y->cR N (code.wp P (bodyPost P fn (rk es w Ψ))) (q7 0 args) (Mem [(w,bJ es)] es):=by intro hP;refine U ?_;exact hP.it):eY P k args es w Ψ:=tk hf ir hb bH hw (step ⟨ab⟩)
theorem bf{X:Prop}{fn:Func}{w:World}{Φ:Nat->Value->World->Prop}{t:Tmp}{v:Value}(ab:∀I,Mem bs H I->Φ w.heap.size (pR [v]) I)(step:ny (gR N .ret (bodyPost P fn (qy w Φ)) tm (Mem bs H))->X:=by intro hP;refine U ?_;exact hP.it)(aM:fn.results=#[.tmp t]:=by exact rfl)(h:jB tm t=some (true,v):=by exact rfl)(hB:(w,al)∈bs:=by exact oR):X:=step ⟨bT (rs:=[.tmp t]) (vs:=[v]) aM (.tmp h .nil) (hB:=hB) (qS:=ab)⟩
theorem a8{X:Prop}{x:Operand}{b:Bool}{c d:Code}(aJ:b=true->fp P N c Q tm A)(hf:b=false->fp P N d Q tm A)(step:ny (fp P N (.cond x c d) Q tm A)->X:=by intro hP;refine U ?_;exact hP.it)(hx:aI tm x=some (true,.bool b):=by exact rfl):X:=step ⟨cM hx aJ hf⟩
theorem c7{t n kO:Nat}{z v:Value}{x y:Operand}{b off tt:Nat}{cs vs:List Value}{Y:Prop}[cF:dn P t n kO z](i:Nat)(ab:Y)(hx:bt tm true x (.pointer (some ⟨b,off,none⟩)):=by exact cb)(aY:bt tm true y v:=by exact cb)(fP:v.cells=vs.toArray:=by exact te)(hi:H[i]?=some (.box b cs tt):=by rfl)(bd:vs.length=n:=by rfl)(rA:Nat.ble (off+n) cs.length=true:=by rfl)(h1:qx vs:=by exact Gp)(step:ny Y->kN P N ops Q rest tm (Mem bs (H.set i (.box b (lay cs off vs) tt))):=by intro hP;refine af ?_;exact hP.it):kN P N ops Q (⟨none,.store t x y,ty,pos,cV,none⟩::rest) tm (Mem bs H):=aq (bK i hx aY fP hi bd rA h1 (step ⟨ab⟩))
theorem e4{d:Nat}{t:TypeId}{x:Operand}{v:Value}{cs:List Value}{Y:Nat->Prop}(ab:∀b,Y b)(hx:bt tm true x v:=by exact cb)(fP:v.cells=cs.toArray:=by exact te)(hd:Nat.blt d N=true:=by rfl)(step:∀b,ny (Y b)->kN P N ops Q rest ((d,true,.pointer (some ⟨b,0,none⟩))::tm) (Mem bs (.box b cs t::H)):=by intro b hP;refine af ?_;exact hP.it):kN P N ops Q (⟨some d,.box t x,ty,pos,cV,none⟩::rest) tm (Mem bs H):=aq (ru (λb=>step b ⟨ab b⟩) hx fP hd)
theorem ei{d:Nat}{t:TypeId}{n b:Nat}{z:Value}{cs:List Value}{Y:Nat->Prop}[cF:dn P t n b z](ab:∀b,Y b)(fP:z.cells=cs.toArray:=by rfl)(hd:Nat.blt d N=true:=by rfl)(step:∀b,ny (Y b)->kN P N ops Q rest ((d,true,.pointer (some ⟨b,0,none⟩))::tm) (Mem bs (.box b cs t::H)):=by intro b hP;refine af ?_;exact hP.it):kN P N ops Q (⟨some d,.alloc t,ty,pos,cV,none⟩::rest) tm (Mem bs H):=aq (fb (λb=>step b ⟨ab b⟩) fP hd)
theorem ha{k:FuncId}{fn:Func}{code:Code}{args:List Value}{w:World}{Φ:Nat->Value->World->Prop}{Y:Prop}(hf:P.funcs[k]?=some fn)(ir:fn.ntmps=N)(ab:Y)(hb:fn.body=some code:=by exact rfl)(bH:Nat.ble args.length N=true:=by exact rfl)(step:ny Y->cR N (code.wp P (bodyPost P fn (qy w Φ))) (q7 0 args) (Mem [(w,al)] []):=by intro hP;refine af ?_;exact hP.it):bl P k args w Φ:=OW hf ir hb bH (step ⟨ab⟩)
theorem Ag{k:FuncId}{fn:Func}{code:Code}{args:List Value}{w:World}{Ψ:Nat->Value->List aB->World->Prop}{Y:Prop}(hf:P.funcs[k]?=some fn)(ir:fn.ntmps=N)(ab:Y)(hb:fn.body=some code:=by exact rfl)(bH:Nat.ble args.length N=true:=by exact rfl)(step:ny Y->cR N (code.wp P (bodyPost P fn (rj w Ψ))) (q7 0 args) (Mem [(w,al)] []):=by intro hP;refine af ?_;exact hP.it):en P k args w Ψ:=OV hf ir hb bH (step ⟨ab⟩)
theorem j3{k:FuncId}{fn:Func}{code:Code}{args:List Value}{es:List aB}{w:World}{Ψ:Nat->Value->List aB->World->Prop}{Y:Prop}(hf:P.funcs[k]?=some fn)(ir:fn.ntmps=N)(hw:Mem [] es w)(ab:Y)(hb:fn.body=some code:=by exact rfl)(bH:Nat.ble args.length N=true:=by exact rfl)(step:ny Y->cR N (code.wp P (bodyPost P fn (rk es w Ψ))) (q7 0 args) (Mem [(w,bJ es)] es):=by intro hP;refine af ?_;exact hP.it):eY P k args es w Ψ:=tk hf ir hb bH hw (step ⟨ab⟩)
theorem pG{X:Prop}{fn:Func}{w:World}{Φ:Nat->Value->World->Prop}{t:Tmp}{v:Value}(ab:∀I,Mem bs H I->Φ w.heap.size (pR [v]) I)(step:ny (gR N .ret (bodyPost P fn (qy w Φ)) tm (Mem bs H))->X:=by intro hP;refine af ?_;exact hP.it)(aM:fn.results=#[.tmp t]:=by exact rfl)(h:jB tm t=some (true,v):=by exact rfl)(hB:(w,al)∈bs:=by exact oR):X:=step ⟨bT (rs:=[.tmp t]) (vs:=[v]) aM (.tmp h .nil) (hB:=hB) (qS:=ab)⟩
theorem dp{X:Prop}{x:Operand}{b:Bool}{c d:Code}(aJ:b=true->fp P N c Q tm A)(hf:b=false->fp P N d Q tm A)(step:ny (fp P N (.cond x c d) Q tm A)->X:=by intro hP;refine af ?_;exact hP.it)(hx:aI tm x=some (true,.bool b):=by exact rfl):X:=step ⟨cM hx aJ hf⟩
theorem bC{x:Operand}{b:Bool}{c d:Code}(aJ:b=true->fp P N c Q tm A)(hf:b=false->fp P N d Q tm A)(hx:aI tm x=some (true,.bool b):=by exact rfl):fp P N (.cond x c d) Q tm A:=cM hx aJ hf
theorem bD{es:List aB}{B:dm}(is:List Nat)(hB:bs.getLast?=some B:=by exact rfl)(lu:is.map (λi=>H[i]?)=es.map some:=by rfl)(bd:is.Nodup:=by decide):∀w,Mem bs H w->Mem [B] es w:=λw h=>(h.last hB).cC is lu bd
theorem cv{B:dm}(hB:bs.getLast?=some B:=by exact rfl):∀w,Mem bs H w->Mem [B] H w:=λw h=>h.last hB
theorem ek{B:dm}:∀w,Mem (B::bs) H w->Mem bs H w:=λ_ h=>h.cX
theorem iR{e:aB}:∀w,Mem bs (e::H) w->Mem bs H w:=λ_ h=>h.tail
theorem b4{es:List aB}(is:List Nat)(lu:is.map (λi=>H[i]?)=es.map some:=by rfl)(bd:is.Nodup:=by decide):∀w,Mem bs H w->Mem bs es w:=λ_ h=>h.cC is lu bd
theorem dz{α:Sort _}{B:α->Sort _}:∀a,B a->True:=λ_ _=>trivial
theorem jq.dv{t:Tmp}{ty b tt n:Nat}{cs:List Value}{rs:List ResultVar}{vs:List Value}[bL:ij P ty n](h:jB tm t=some (true,.pointer (some ⟨b,0,none⟩)))(hm:aB.box b cs tt∈H)(bd:Nat.beq cs.length n=true)(r:jq P tm H rs vs):jq P tm H (.cell t ty::rs) (.agg cs.toArray::vs):=.HQ bL h hm bd r
theorem bp{d k:Nat}{f:Operand}{xs:List Operand}{ts:Array TypeId}{first cap vs:List Value}{Φ:Nat->Value->World->Prop}[hF:aS P k](bb:∀w,Mem bs H w->bl P k (first++vs++cap) w Φ)(ab:∀v n bc,Φ n v bc->n<=bc.heap.size->cR N K ((d,true,v)::tm) (Mem ((bc,Fr n)::bs) H))(hf:bt tm true f (.func (.func k) first.toArray cap.toArray):=by exact cb)(hxs:kf tm true xs vs:=by exact yp)(hd:Nat.blt d N=true:=by rfl):gz P N (.call {callee:=.value f,args:=xs.toArray,argTypes:=ts}) (some d) Q tm (Mem bs H) K:=hq (hf:=hf) (hxs:=hxs) (hd:=hd) (bb:=bb) (ab:=ab)
theorem gi{d k:Nat}{f:Operand}{xs:List Operand}{ts:Array TypeId}{first cap vs:List Value}{Ψ:Nat->Value->List aB->World->Prop}[hF:aS P k](bb:∀w,Mem bs H w->en P k (first++vs++cap) w Ψ)(ab:∀v n es bc,Ψ n v es bc->cR N K ((d,true,v)::tm) (Mem ((bc,jK n es)::bs) (es++H)))(hf:bt tm true f (.func (.func k) first.toArray cap.toArray):=by exact cb)(hxs:kf tm true xs vs:=by exact yp)(hd:Nat.blt d N=true:=by rfl):gz P N (.call {callee:=.value f,args:=xs.toArray,argTypes:=ts}) (some d) Q tm (Mem bs H) K:=gI (hf:=hf) (hxs:=hxs) (hd:=hd) (bb:=bb) (ab:=ab)
end
theorem aP{α:Type _}{x:α}{l:List α}:x∈x::l:=.head _
theorem dg{α:Type _}{x a0:α}{l:List α}:x∈a0::x::l:=.tail _ (.head _)
theorem hy{α:Type _}{x a0 ds:α}{l:List α}:x∈a0::ds::x::l:=.tail _ (.tail _ (.head _))
theorem jC{α:Type _}{x a0 ds a2:α}{l:List α}:x∈a0::ds::a2::x::l:=.tail _ (.tail _ (.tail _ (.head _)))
theorem qU{α:Type _}{x a0 ds a2 a3:α}{l:List α}:x∈a0::ds::a2::a3::x::l:=.tail _ (.tail _ (.tail _ (.tail _ (.head _))))
theorem pN{α:Type _}{x a0 ds a2 a3 a4:α}{l:List α}:x∈a0::ds::a2::a3::a4::x::l:=.tail _ (.tail _ (.tail _ (.tail _ (.tail _ (.head _)))))
theorem oQ{α:Type _}{x a0 ds a2 a3 a4 a5:α}{l:List α}:x∈a0::ds::a2::a3::a4::a5::x::l:=.tail _ (.tail _ (.tail _ (.tail _ (.tail _ (.tail _ (.head _))))))
theorem xR{α:Type _}{x a0 ds a2 a3 a4 a5 l4:α}{l:List α}:x∈a0::ds::a2::a3::a4::a5::l4::x::l:=.tail _ (.tail _ (.tail _ (.tail _ (.tail _ (.tail _ (.tail _ (.head _)))))))
theorem KD{α:Type _}{x a0 ds a2 a3 a4 a5 l4 mT:α}{l:List α}:x∈a0::ds::a2::a3::a4::a5::l4::mT::x::l:=.tail _ (.tail _ (.tail _ (.tail _ (.tail _ (.tail _ (.tail _ (.tail _ (.head _))))))))
theorem RF{α:Type _}{x a0 ds a2 a3 a4 a5 l4 mT pA:α}{l:List α}:x∈a0::ds::a2::a3::a4::a5::l4::mT::pA::x::l:=.tail _ (.tail _ (.tail _ (.tail _ (.tail _ (.tail _ (.tail _ (.tail _ (.tail _ (.head _)))))))))
theorem F9{α:Type _}{x a0 ds a2 a3 a4 a5 l4 mT pA a9:α}{l:List α}:x∈a0::ds::a2::a3::a4::a5::l4::mT::pA::a9::x::l:=.tail _ (.tail _ (.tail _ (.tail _ (.tail _ (.tail _ (.tail _ (.tail _ (.tail _ (.tail _ (.head _))))))))))
theorem KC{α:Type _}{x a0 ds a2 a3 a4 a5 l4 mT pA a9 vx:α}{l:List α}:x∈a0::ds::a2::a3::a4::a5::l4::mT::pA::a9::vx::x::l:=.tail _ (.tail _ (.tail _ (.tail _ (.tail _ (.tail _ (.tail _ (.tail _ (.tail _ (.tail _ (.tail _ (.head _)))))))))))
theorem adh{α:Type _}{x a0 ds a2 a3 a4 a5 l4 mT pA a9 vx x8:α}{l:List α}:x∈a0::ds::a2::a3::a4::a5::l4::mT::pA::a9::vx::x8::x::l:=.tail _ (.tail _ (.tail _ (.tail _ (.tail _ (.tail _ (.tail _ (.tail _ (.tail _ (.tail _ (.tail _ (.tail _ (.head _))))))))))))
theorem adi{α:Type _}{x a0 ds a2 a3 a4 a5 l4 mT pA a9 vx x8 a12:α}{l:List α}:x∈a0::ds::a2::a3::a4::a5::l4::mT::pA::a9::vx::x8::a12::x::l:=.tail _ (.tail _ (.tail _ (.tail _ (.tail _ (.tail _ (.tail _ (.tail _ (.tail _ (.tail _ (.tail _ (.tail _ (.tail _ (.head _)))))))))))))
theorem RE{α:Type _}{x a0 ds a2 a3 a4 a5 l4 mT pA a9 vx x8 a12 Hy Hz:α}{l:List α}:x∈a0::ds::a2::a3::a4::a5::l4::mT::pA::a9::vx::x8::a12::Hy::Hz::x::l:=.tail _ (.tail _ (.tail _ (.tail _ (.tail _ (.tail _ (.tail _ (.tail _ (.tail _ (.tail _ (.tail _ (.tail _ (.tail _ (.tail _ (.tail _ (.head _)))))))))))))))
theorem adj{α:Type _}{x a0 ds a2 a3 a4 a5 l4 mT pA a9 vx x8 a12 Hy Hz Wg:α}{l:List α}:x∈a0::ds::a2::a3::a4::a5::l4::mT::pA::a9::vx::x8::a12::Hy::Hz::Wg::x::l:=.tail _ (.tail _ (.tail _ (.tail _ (.tail _ (.tail _ (.tail _ (.tail _ (.tail _ (.tail _ (.tail _ (.tail _ (.tail _ (.tail _ (.tail _ (.tail _ (.head _))))))))))))))))
end Go.b9
