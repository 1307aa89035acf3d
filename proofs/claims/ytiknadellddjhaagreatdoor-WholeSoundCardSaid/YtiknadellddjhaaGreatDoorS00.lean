/- Lemmas for the law WholeSound. -/
import Derived.WalkKit
import Derived.OrdersHeld
set_option linter.all false
namespace Go
def anu:=@Array.getElem?_eq_none
def aot:=@Array.getElem?_eq_some_iff
def aoy:=@Array.getElem?_toList
def aop:=@Array.length_toList
def an5:=@BitVec.eq_of_getLsbD_eq
def an6:=@BitVec.getLsbD_and
def an4:=@BitVec.getLsbD_one
def anW:=@BitVec.getLsbD_or
def anQ:=@BitVec.getLsbD_shiftLeft
def anZ:=@BitVec.getLsbD_ushiftRight
def aoh:=@BitVec.getLsbD_zero
def aok:=@BitVec.ofInt_natCast
def aoN:=@BitVec.toInt_ofInt
def ans:=@BitVec.zero_shiftLeft
def amx:=@Bool.and_eq_false_iff
def ami:=@Bool.and_eq_true
def anM:=@Bool.and_false
def aoG:=@Bool.and_true
def amP:=@Bool.eq_false_iff
def amN:=@Bool.eq_iff_iff
def anT:=@Bool.false_and
def aov:=@Bool.false_eq_true
def ant:=@Bool.false_ne_true
def anU:=@Bool.false_or
def amm:=@Bool.not_eq_false'
def anK:=@Bool.not_eq_true
def amk:=@Bool.not_eq_true'
def aoT:=@Bool.not_true
def amt:=@Bool.or_eq_false_iff
def amr:=@Bool.or_eq_true
def aoU:=@Bool.or_false
def aoR:=@Bool.or_true
def anA:=@Bool.true_and
def aoa:=@ByteArray.size_extract
def amT:=@Classical.byContradiction
def aoJ:=@Classical.epsilon_spec
def aox:=@Int.emod_lt_of_pos
def aoE:=@Int.emod_nonneg
def amw:=@Int.toNat_natCast
def anC:=@List.Pairwise.filter
def anV:=@List.Pairwise.imp
def anR:=@List.Pairwise.imp_of_mem
def ank:=@List.all_eq_true
def aoi:=@List.any_eq_false
def anl:=@List.any_eq_true
def amJ:=@List.append_assoc
def amB:=@List.append_nil
def aoB:=@List.cons.injEq
def aoI:=@List.cons_append
def anL:=@List.drop_length
def an9:=@List.drop_of_length_le
def aon:=@List.drop_zero
def amO:=@List.eq_nil_of_length_eq_zero
def anw:=@List.ext_getElem
def aof:=@List.ext_getElem?
def anc:=@List.filter_append
def anI:=@List.filter_cons_of_neg
def anX:=@List.filter_cons_of_pos
def anN:=@List.filter_eq_nil_iff
def am4:=@List.flatMap_append
def am0:=@List.flatMap_cons
def aoM:=@List.flatMap_singleton
def an3:=@List.foldl_append
def anJ:=@List.foldl_cons
def aml:=@List.getD_eq_getElem?_getD
def amM:=@List.getElem?_append_left
def amL:=@List.getElem?_append_right
def anY:=@List.getElem?_cons_succ
def anP:=@List.getElem?_drop
def amp:=@List.getElem?_eq_getElem
def amR:=@List.getElem?_eq_none
def amV:=@List.getElem?_eq_some_iff
def amZ:=@List.getElem?_map
def anv:=@List.getElem?_of_mem
def ann:=@List.getElem?_range
def anb:=@List.getElem?_replicate
def aoC:=@List.getElem?_set
def an8:=@List.getElem?_set_self
def anO:=@List.getElem?_take
def anx:=@List.getElem_mem
def aod:=@List.getElem_of_mem
def anG:=@List.idxOf_lt_length_of_mem
def ams:=@List.length_append
def amI:=@List.length_cons
def anD:=@List.length_drop
def anj:=@List.length_filter_le
def amD:=@List.length_map
def amW:=@List.length_nil
def aoD:=@List.length_range
def amS:=@List.length_replicate
def amQ:=@List.length_set
def anr:=@List.length_singleton
def amX:=@List.length_take
def ane:=@List.map_append
def an0:=@List.map_congr_left
def am8:=@List.map_cons
def aoP:=@List.map_map
def amA:=@List.mem_append
def amE:=@List.mem_append_left
def anq:=@List.mem_append_right
def amG:=@List.mem_cons
def am5:=@List.mem_filter
def ana:=@List.mem_flatMap
def am1:=@List.mem_map
def amF:=@List.mem_of_getElem?
def amH:=@List.mem_range
def amv:=@List.mem_singleton
def aoe:=@List.mergeSort_perm
def anf:=@List.nil_append
def aoW:=@List.nodup_append
def an7:=@List.nodup_range
def aoH:=@List.not_mem_nil
def ano:=@List.pairwise_append
def am2:=@List.pairwise_cons
def am9:=@List.pairwise_iff_getElem
def aoL:=@List.pairwise_lt_range
def anz:=@List.pairwise_map
def aol:=@List.pairwise_mergeSort
def anB:=@List.perm_append_comm
def aou:=@List.perm_ext_iff_of_nodup
def am6:=@List.range_succ
def aoF:=@List.replicate_succ
def aoz:=@List.replicate_succ'
def an2:=@List.size_toArray
def ang:=@List.take_add_one
def amU:=@List.take_length
def aoK:=@List.take_of_length_le
def aob:=@Nat.add_mul
def aoo:=@Nat.add_one_mul
def aom:=@Nat.add_sub_cancel_left
def anm:=@Nat.ble_eq
def anS:=@Nat.eq_of_beq_eq_true
def amK:=@Nat.le_refl
def aoY:=@Nat.le_succ
def ani:=@Nat.le_trans
def aow:=@Nat.lt_irrefl
def anH:=@Nat.lt_of_lt_of_le
def amY:=@Nat.lt_or_ge
def anF:=@Nat.lt_succ_self
def aoV:=@Nat.lt_trichotomy
def aoA:=@Nat.min_eq_left
def aoj:=@Nat.mod_eq_of_lt
def anh:=@Nat.mul_le_mul_right
def anp:=@Nat.not_lt_zero
def aoS:=@Nat.sub_self
def aoO:=@Nat.zero_add
def amz:=@Nat.zero_le
def anE:=@Option.getD_some
def am7:=@Option.isSome_iff_exists
def aos:=@Option.map_eq_some_iff
def aoq:=@Option.map_some
def aoc:=@Option.some.injEq
def an1:=@beq_iff_eq
def amC:=@congrArg
def am3:=@decide_eq_decide
def amy:=@decide_eq_false
def amu:=@decide_eq_false_iff_not
def amq:=@decide_eq_true
def amj:=@decide_eq_true_eq
def aoQ:=@decide_false
def aor:=@if_false
def amn:=@if_neg
def amo:=@if_pos
def aoX:=@not_true
def aog:=@of_decide_eq_true
end Go
namespace Go.gH
end Go.gH
namespace Go.bU
end Go.bU
namespace Go.eV
end Go.eV
namespace Go.cc
open Go Go.RowKit
abbrev dU:=List (Nat×Bool×Value)
def jq:dU->Nat->Option (Bool×Value)
 | [],_=>none
 | (k,p)::r,d=>bif Nat.beq k d then some p else jq r d
structure iq(N:Nat)(tm:dU)(a:Act):Prop where
 size:a.tmps.size=N
 Ak:a.defers=[]
 get:∀d c v,jq tm d=some (c,v)->a.tmps[d]?=some (if c=true then v else undef)
def u64(x:BitVec 64):Value:=.int .u64 (x.toNat:Int)
def Hu:Value->Value
 | .int .u64 (.ofNat m)=>bif Nat.blt m 18446744073709551616 then u64 (BitVec.ofNat 64 m)else .int .u64 (.ofNat m)
 | v=>v
def aN(tm:dU):Operand->Option (Bool×Value)
 | .tmp t=>jq tm t
 | .const v=>some (true,Hu v)
 | .global g=>some (true,.pointer (some ⟨g,0,none⟩))
 | .func f=>some (true,.func (.func f) #[] #[])
theorem ahy(m:Nat)(h:m<18446744073709551616):u64 (BitVec.ofNat 64 m)=.int .u64 (Int.ofNat m):=by unfold u64;rw[BitVec.toNat_ofNat,aoj (by omega)];rfl
theorem WE(v:Value):Hu v=v:=by
 unfold Hu;split
 ·rename_i m;cases hm:Nat.blt m 18446744073709551616 with
  | true=>rw[cond_true];exact ahy m (anm.mp hm)
  | false=>rfl
 rfl
theorem iq.eval{N:Nat}{tm:dU}{a:Act}(h:iq N tm a){x:Operand}{c:Bool}{v:Value}(he:aN tm x=some (c,v))(ai:c=true):a.eval x=v:=by
 subst ai;cases x with
 | tmp t=>have:=h.get t true v he;simp only[Act.eval,Array.getD_eq_getD_getElem?,this];rfl
 | const u=>simp only[aN,WE]at he;injection he with he;injection he with _ he
 | global g=>simp only[aN]at he;injection he with he;injection he with _ he
 | func f=>simp only[aN]at he;injection he with he;injection he with _ he
theorem iq.put{N:Nat}{tm:dU}{a:Act}(h:iq N tm a){d:Nat}(hd:d<N)(c:Bool)(v:Value):iq N ((d,c,v)::tm) (a.put (some d) (if c=true then v else undef)):=by
 refine⟨by simp[Act.put,h.size],h.Ak,?_⟩;intro Hw xF dL aB;simp only[jq]at aB;by_cases Il:d=Hw
 ·subst Il;simp only[Nat.beq_refl,cond_true]at aB;injection aB with aB;injection aB with h1 h2;subst h1;subst h2;have ag:d<a.tmps.size:=by rw[h.size];exact hd
  simp[Act.put,ag]
 have hb:Nat.beq d Hw=false:=by
  cases aZ:Nat.beq d Hw with
  | true=>exact absurd (anS aZ) Il
  | false=>rfl
 rw[hb,cond_false]at aB;have:=h.get _ _ _ aB;simp only[Act.put,Array.getElem?_setIfInBounds_ne Il];exact this
def u2:dU->dU->Prop
 | [],_=>True
 | (d,p)::r,tm=>jq tm d=some p/\u2 r tm
theorem u2.jq{t tm:dU}(h:u2 t tm):∀{d:Nat} {p:Bool×Value},jq t d=some p->jq tm d=some p:=by
 induction t with
 | nil=>intro d p aB;cases aB
 | cons e r bH=>
  obtain⟨k,q⟩:=e;intro d p aB;simp only[cc.jq]at aB;cases hb:Nat.beq k d with
  | true=>rw[hb,cond_true]at aB;injection aB with aB;subst aB;have:=anS hb;subst this;exact h.1
  | false=>rw[hb,cond_false]at aB;exact bH h.2 aB
theorem iq.sub{N:Nat}{t tm:dU}{a:Act}(h:iq N tm a)(ag:u2 t tm):iq N t a:=⟨h.size,h.Ak,λd c v aB=>h.get d c v (ag.jq aB)⟩
inductive aA:Type 1 where
 | box (b:Nat) (cs:List Value) (t:TypeId)
 | own {aQ:Type} (v:Value) (t:TypeId) (sz:Nat) (enc:aQ->List Value) (xs:List aQ)
 | gen (cX:List Nat) (ok:World->Prop)
def aA.cX:aA->List Nat
 | .box b _ _=>[b]
 | .own v _ _ _ _=>v.ownBlock.toList
 | .gen cX _=>cX
def aA.ok:aA->World->Prop
 | .box b cs t,w=>w.heap[b]?=some (.cells cs.toArray t (0,0))
 | .own v t sz enc xs,w=>w.ownsRow 0 t sz v xs.length (xs.flatMap enc)
 | .gen cX ok,w=>∀I,(∀k,k∈cX->I.heap[k]?=w.heap[k]?)->ok I
theorem aA.FQ{e:aA}{w I:World}(h:e.ok w)(ag:∀k,k∈e.cX->I.heap[k]?=w.heap[k]?):e.ok I:=by
 cases e with
 | box b cs t=>simp only[aA.ok]at *;rw[ag b (by simp[aA.cX])];exact h
 | own v t sz enc xs=>
  obtain⟨h1,h2⟩:=h;refine⟨h1,?_⟩;rcases h2 with h2 | ⟨g,cap,cur,aw,ay,eO,r⟩
  ·exact .inl h2
  exact .inr ⟨g,cap,cur,aw,ay,by rw[ag g (by simp[aA.cX,aw,Value.ownBlock])];exact eO,r⟩
 | gen cX ok=>intro ahW qB;exact h ahW λk hk=>(qB k hk).trans (ag k hk)
structure ks(S:Nat->Prop)(B w:World):Prop where
 os:w.os=B.os
 tape:w.tape=B.tape
 output:w.output=B.output
 size:B.heap.size<=w.heap.size
 sR:∀k,k<B.heap.size->S k->w.heap[k]?=B.heap[k]?
theorem ks.refl(S:Nat->Prop)(w:World):ks S w w:=⟨rfl,rfl,rfl,amK _,λ_ _ _=>rfl⟩
abbrev dr:=World×(Nat->Prop)
structure Mem(bs:List dr)(H:List aA)(w:World):Prop where
 base:∀B,B∈bs->ks B.2 B.1 w
 own:∀e,e∈H->e.ok w
 fw:∀e,e∈H->∀k,k∈e.cX->k<w.heap.size
 apart:∀B,B∈bs->∀e,e∈H->∀k,k∈e.cX->B.2 k->B.1.heap.size<=k
 h9:∀(i j:Nat) (fY gh:aA),i≠j->H[i]?=some fY->H[j]?=some gh->∀k,k∈fY.cX->k∈gh.cX->False
theorem Mem.tail{bs:List dr}{e:aA}{H:List aA}{w:World}(h:Mem bs (e::H) w):Mem bs H w:=
 ⟨h.base,λe he=>h.own e (.tail _ he),λe he=>h.fw e (.tail _ he),λB hB e he=>h.apart B hB e (.tail _ he),λi j fY gh hN hi ad=>h.h9 (i+1) (j+1) fY gh (by omega) (by simpa using hi) (by simpa using ad)⟩
theorem Mem.cI{B:dr}{bs:List dr}{H:List aA}{w:World}(h:Mem (B::bs) H w):Mem bs H w:=⟨λB hB=>h.base B (.tail _ hB),h.own,h.fw,λB hB=>h.apart B (.tail _ hB),h.h9⟩
theorem Mem.KU{bs:List dr}{H:List aA}{w:World}(h:Mem bs H w):Mem ((w,λk=>∀e,e∈H->k∉e.cX)::bs) H w:=by
 refine⟨λB hB=>?_,h.own,h.fw,λB hB e he k hk ct=>?_,h.h9⟩
 ·rcases amG.1 hB with rfl | hB
  ·exact ks.refl _ _
  exact h.base B hB
 rcases amG.1 hB with rfl | hB
 ·exact absurd hk (ct e he)
 exact h.apart B hB e he k hk ct
theorem Mem.rC{bs:List dr}{H:List aA}{w I:World}(h:Mem bs H w){i:Nat}{e e':aA}(hi:H[i]?=some e) (mE:I.os=w.os) (Jb:I.tape=w.tape) (ie:I.output=w.output) (eh:w.heap.size<=I.heap.size) (hblk:∀k,k<w.heap.size->k∉e.cX->I.heap[k]?=w.heap[k]?) (hok:e'.ok I) (ID:∀k,k∈e'.cX->k<I.heap.size) (r0:∀k,k∈e'.cX->k∈e.cX\/w.heap.size<=k):Mem bs (H.set i e') I:=by
 have IB:i<H.length:=by
  rcases amY i H.length with cr | cr
  ·exact cr
  simp[amR cr]at hi
 have O5:e∈H:=amF hi;have mem:∀x,x∈H.set i e'->x=e'\/∃j,j≠i/\H[j]?=some x:=by
  intro x hx;obtain⟨j,ad⟩:=anv hx;by_cases kh:i=j
  ·subst kh;rw[an8 IB]at ad;exact .inl (by injection ad with ad;exact ad.symm)
  rw[List.getElem?_set_ne kh]at ad;exact .inr ⟨j,λe=>kh e.symm,ad⟩
 have other:∀x j,j≠i->H[j]?=some x->∀k,k∈x.cX->k∉e.cX/\k<w.heap.size:=by intro x j ad hx k hk;exact⟨λnh=>h.h9 j i x e ad hx hi k hk nh,h.fw x (amF hx) k hk⟩
 refine⟨λB hB=>?_,λx hx=>?_,λx hx k hk=>?_,λB hB x hx k hk ct=>?_,?_⟩
 ·have hb:=h.base B hB;refine⟨mE.trans hb.os,Jb.trans hb.tape,ie.trans hb.output,ani hb.size eh,λk hk ct=>?_⟩;rw[hblk k (anH hk hb.size) λnh=>by have:=h.apart B hB e O5 k nh ct;omega];exact hb.sR k hk ct
 ·rcases mem x hx with rfl | ⟨j,ad,hx⟩
  ·exact hok
  exact aA.FQ (h.own x (amF hx)) λk hk=>hblk k (other x j ad hx k hk).2 (other x j ad hx k hk).1
 ·rcases mem x hx with rfl | ⟨j,ad,hx⟩
  ·exact ID k hk
  exact anH (other x j ad hx k hk).2 eh
 ·rcases mem x hx with rfl | ⟨j,ad,hx⟩
  ·rcases r0 k hk with fe | fe
   ·exact h.apart B hB e O5 k fe ct
   exact ani (h.base B hB).size fe
  exact h.apart B hB x (amF hx) k hk ct
 have aux:∀j x,j≠i->H[j]?=some x->∀k,k∈x.cX->k∈e'.cX->False:=by
  intro j x ad hx k hk fe;have:=other x j ad hx k hk;rcases r0 k fe with h1 | h1
  ·exact this.1 h1
  omega
 intro a b s0 wN oe au hb k zM IF;by_cases H8:i=a
 ·subst H8;rw[an8 IB]at au;injection au with au;subst au;rw[List.getElem?_set_ne oe]at hb;exact aux b wN (λe=>oe e.symm) hb k IF zM
 rw[List.getElem?_set_ne H8]at au;by_cases OX:i=b
 ·subst OX;rw[an8 IB]at hb;injection hb with hb;subst hb;exact aux a s0 (λe=>H8 e.symm) au k zM IF
 rw[List.getElem?_set_ne OX]at hb;exact h.h9 a b s0 wN oe au hb k zM IF
theorem Mem.new{bs:List dr}{H:List aA}{w I:World}(h:Mem bs H w){e':aA} (mE:I.os=w.os) (Jb:I.tape=w.tape) (ie:I.output=w.output) (eh:w.heap.size<=I.heap.size) (hblk:∀k,k<w.heap.size->I.heap[k]?=w.heap[k]?) (hok:e'.ok I) (ID:∀k,k∈e'.cX->k<I.heap.size) (r0:∀k,k∈e'.cX->w.heap.size<=k):Mem bs (e'::H) I:=by
 have hH:Mem bs (.gen [] (λ_=>True)::H) w:=by
  refine⟨h.base,λx hx=>?_,λx hx k hk=>?_,λB hB x hx k hk ct=>?_,λi j fY gh hN hi ad k hk fe=>?_⟩
  ·rcases amG.1 hx with rfl | hx
   ·exact λ_ _=>trivial
   exact h.own x hx
  ·rcases amG.1 hx with rfl | hx
   ·simp[aA.cX]at hk
   exact h.fw x hx k hk
  ·rcases amG.1 hx with rfl | hx
   ·simp[aA.cX]at hk
   exact h.apart B hB x hx k hk ct
  cases i with
  | zero=>simp at hi;subst hi;simp[aA.cX]at hk
  | succ i=>
   cases j with
   | zero=>simp at ad;subst ad;simp[aA.cX]at fe
   | succ j=>exact h.h9 i j fY gh (by omega) (by simpa using hi) (by simpa using ad) k hk fe
 exact hH.rC (i:=0) (e':=e') rfl mE Jb ie eh (λk hk _=>hblk k hk) hok ID λk hk=>.inr (r0 k hk)
theorem Mem.ext{bs:List dr}{H:List aA}{w I:World}(h:Mem bs H w)(hb:Below w.heap.size w I):Mem bs H I:=(h.new (e':=.gen [] (λ_=>True)) hb.os hb.tape hb.output hb.size hb.block (λ_ _=>trivial) (by simp[aA.cX]) (by simp[aA.cX])).tail
theorem Mem.drewN{bs:List dr}{H:List aA}{w:World}(h:Mem bs H w):Mem bs H w.drew:=h.ext (Below.refl _ _).drew
end Go.cc
namespace Go.cc
universe u
open Go Go.RowKit
def cL(N:Nat)(K:Act->World->Prop)(tm:dU)(A:World->Prop):Prop:=∀a w,iq N tm a->A w->K a w
abbrev fh(P:Program)(N:Nat)(c:Code)(Q:Exit->Act->World->Prop)(tm:dU)(A:World->Prop):Prop:=cL N (c.wp P Q) tm A
abbrev kv(P:Program)(N:Nat)(ops:Array Oper)(Q:Exit->Act->World->Prop)(l:List Oper)(tm:dU)(A:World->Prop):Prop:=cL N (wpList P ops Q l) tm A
abbrev gN(N:Nat)(e:Exit)(Q:Exit->Act->World->Prop)(tm:dU)(A:World->Prop):Prop:=cL N (Q e) tm A
section
variable {P:Program} {N:Nat} {Q pU:Exit->Act->World->Prop} {tm:dU} {A Bb:World->Prop} {ops:Array Oper} {rest:List Oper}
theorem aik{x y:Code}(h:fh P N x (Exit.then (λa w=>y.wp P Q a w) Q) tm A):fh P N (.seq x y) Q tm A:=λa w ag hw=>wp_seq (h a w ag hw)
theorem ail(h:gN N .normal Q tm A):fh P N .skip Q tm A:=λa w ag hw=>wp_skip (h a w ag hw)
theorem aih(h:gN N .ret Q tm A):fh P N .ret Q tm A:=λa w ag hw=>wp_ret (h a w ag hw)
theorem aid{id:Nat}(h:gN N (.exit id) Q tm A):fh P N (.exit id) Q tm A:=λa w ag hw=>wp_exit (h a w ag hw)
theorem aib{id:Nat}{c:Code}(h:fh P N c (Exit.inBlock id Q) tm A):fh P N (.block id c) Q tm A:=λa w ag hw=>wp_block (h a w ag hw)
theorem ado{y:Code}(h:fh P N y Q tm A):gN N .normal (Exit.then (λa w=>y.wp P Q a w) pU) tm A:=h
theorem adr{K:Act->World->Prop}(h:gN N .ret Q tm A):gN N .ret (Exit.then K Q) tm A:=h
theorem adp{K:Act->World->Prop}{id:Nat}(h:gN N (.exit id) Q tm A):gN N (.exit id) (Exit.then K Q) tm A:=h
theorem adj{id:Nat}(h:gN N .normal Q tm A):gN N .normal (Exit.inBlock id Q) tm A:=h
theorem adm{id:Nat}(h:gN N .ret Q tm A):gN N .ret (Exit.inBlock id Q) tm A:=h
theorem adk{id:Nat}(h:gN N .normal Q tm A):gN N (.exit id) (Exit.inBlock id Q) tm A:=λa w ag hw=>by show(if id=id then Q .normal a w else _);rw[amo rfl];exact h a w ag hw
theorem adl{id tp:Nat}(dC:Nat.beq tp id=false)(h:gN N (.exit tp) Q tm A):gN N (.exit tp) (Exit.inBlock id Q) tm A:=λa w ag hw=>by show(if tp=id then Q .normal a w else Q (.exit tp) a w);rw[amn (Nat.ne_of_beq_eq_false dC)];exact h a w ag hw
theorem cK{x:Operand}{b:Bool}{c d:Code}(hx:aN tm x=some (true,.bool b))(aE:b=true->fh P N c Q tm A)(hf:b=false->fh P N d Q tm A): fh P N (.cond x c d) Q tm A:=λa w ag hw=>wp_cond_split (ag.eval hx rfl) (λh=>aE h a w ag hw) λh=>hf h a w ag hw
def uY(N:Nat){eT:Type u}(dX:eT->Prop)(T:eT->dU)(bN:eT->World->Prop)(iV:eT->Nat)(s:eT):Act->World->Prop:=λa w=>∃s',dX s'/\iV s'<iV s/\iq N (T s') a/\bN s' w
def mn(N:Nat){eT:Type u}(dX:eT->Prop)(T:eT->dU)(bN:eT->World->Prop):Act->World->Prop:=λa w=>∃s,dX s/\iq N (T s) a/\bN s w
theorem bZ{eT:Type u}{dX:eT->Prop}{T:eT->dU}{bN:eT->World->Prop}(s:eT)(ia:dX s)(ag:u2 (T s) tm:=by repeat (first | exact trivial | refine⟨rfl,?_⟩))(hA:∀w,A w->bN s w:=by exact λ_ h=>h): gN N .normal (Exit.then (mn N dX T bN) Q) tm A:=λ_ w cn hw=>⟨s,ia,cn.sub ag,hA w hw⟩
theorem b9{c:Code}{eT:Type u}(dX:eT->Prop) (T:eT->dU) (bN:eT->World->Prop) (iV:eT->Nat) (db:eT) (h0:dX db) (body:∀s,dX s->fh P N c (Exit.then (uY N dX T bN iV s) Q) (T s) (bN s)) (yj:u2 (T db) tm:=by repeat (first | exact trivial | refine⟨rfl,?_⟩)) (hA:∀w,A w->bN db w:=by exact λ_ h=>h):fh P N (.loop c) Q tm A:=by
 intro a w ag hw;have key:∀n s,iV s=n->dX s->∀a w,iq N (T s) a->bN s w->(Code.loop c).wp P Q a w:=by
  intro n s bh ia a w cn fi;refine wp_loop (λa w=>∃s,dX s/\iq N (T s) a/\bN s w) (λa w=>Classical.epsilon λm=>(∃s,dX s/\iq N (T s) a/\bN s w/\iV s=m)/\∀s,dX s->iq N (T s) a->bN s w->m<=iV s) ⟨s,ia,cn,fi⟩ ?_;intro a w hex;have least:∃m,(∃s,dX s/\iq N (T s) a/\bN s w/\iV s=m)/\∀s,dX s->iq N (T s) a->bN s w->m<=iV s:=by
   obtain⟨s,h1,h2,h3⟩:=hex;generalize hk:iV s=k
   induction k using Nat.strongRecOn generalizing s with
   | ind k bH=>
    by_cases dn:∃s',dX s'/\iq N (T s') a/\bN s' w/\iV s'<k
    ·obtain⟨s',g1,g2,g3,g4⟩:=dn;exact bH _ g4 s' g1 g2 g3 rfl
    exact⟨k,⟨s,h1,h2,h3,hk⟩,λs' g1 g2 g3=>Nat.le_of_not_lt λg4=>dn ⟨s',g1,g2,g3,g4⟩⟩
  obtain⟨⟨s,h1,h2,h3,aC⟩,Za⟩:=aoJ least;refine wp_mono (body s h1 a w h2 h3) λe dI I q=>?_;cases e with
  | normal=>
   obtain⟨s',g1,g2,g3,g4⟩:=q;have abA:∃m,(∃s,dX s/\iq N (T s) dI/\bN s I/\iV s=m)/\∀s,dX s->iq N (T s) dI->bN s I->m<=iV s:=by
    generalize hk:iV s'=k at g2;clear g2
    induction k using Nat.strongRecOn generalizing s' with
    | ind k bH=>
     by_cases dn:∃s',dX s'/\iq N (T s') dI/\bN s' I/\iV s'<k
     ·obtain⟨afO,g1,g2,g3,g4⟩:=dn;exact bH _ g4 afO g1 g2 g3 rfl
     exact⟨k,⟨s',g1,g3,g4,hk⟩,λs' g1 g2 g3=>Nat.le_of_not_lt λg4=>dn ⟨s',g1,g2,g3,g4⟩⟩
   have ki:=aoJ abA;refine⟨⟨s',g1,g3,g4⟩,?_⟩;exact Nat.lt_of_le_of_lt (ki.2 s' g1 g3 g4) (anH g2 (Nat.le_of_eq aC))
  | _=>exact q
 exact key _ db rfl h0 a w (ag.sub yj) (hA w hw)
theorem bt{eT:Type u}{dX:eT->Prop}{T:eT->dU}{bN:eT->World->Prop}{iV:eT->Nat}{s:eT}(s':eT)(ia:dX s')(Jx:iV s'<iV s:=by first | omega | (dsimp only;omega))(ag:u2 (T s') tm:=by repeat (first | exact trivial | refine⟨rfl,?_⟩))(hA:∀w,A w->bN s' w:=by exact λ_ h=>h): gN N .normal (Exit.then (uY N dX T bN iV s) Q) tm A:=λ_ w cn hw=>⟨s',ia,Jx,cn.sub ag,hA w hw⟩
theorem aif{id:Nat}{l:List Oper}(h:kv P N l.toArray Q l tm A):fh P N (.region id l.toArray false) Q tm A:=λa w ag hw=>wp_region_lit (h a w ag hw)
theorem ain(h:gN N .normal Q tm A):kv P N ops Q [] tm A:=h
def bR(P:Program)(N:Nat)(op:Op)(tm:dU)(A:World->Prop)(c:Bool)(v:Value):Prop:=
 c=true->∀(a:Act) (w:World) (d:Option Tmp) (ty:TypeId) (pos:String) (cR:Array Edge) (g:Option (Nat×Bool)),iq N tm a->A w-> (execOp a.eval ⟨d,op,ty,pos,cR,g⟩).run P w=.ok (.value v) w
theorem aio{d:Nat}{op:Op}{ty:TypeId}{pos:String}{cR:Array Edge}{v:Value}(h:bR P N op tm A true v)(hd:Nat.blt d N=true) (ab:kv P N ops Q rest ((d,true,v)::tm) A):kv P N ops Q (⟨some d,op,ty,pos,cR,none⟩::rest) tm A:=by intro a w ag hw;refine wpList_plain rfl λK jE=>?_;unfold Oper.wp;rw[h rfl a w _ _ _ _ _ ag hw];exact jE _ _ (ab _ _ (by simpa using ag.put (anm.mp hd) true v) hw)
theorem Ba{a:Act}{j g:Nat}{ji b:Bool}(ag:iq N tm a)(ad:(ops[j]?).bind (·.dst)=some g)(ay:jq tm g=some (ji,.bool b)): yielded ops a.tmps j=if ji=true then some b else none:=by unfold yielded;rw[ad];simp only[Option.bind_some,ag.get _ _ _ ay];cases ji<;>rfl
theorem aip{d j g:Nat}{want ji b c:Bool}{op:Op}{ty:TypeId}{pos:String}{cR:Array Edge}{v:Value}(ad:(ops[j]?).bind (·.dst)=some g) (ay:jq tm g=some (ji,.bool b)) (ai:c=(ji&&(b==want))) (h:bR P N op tm A c v) (hd:Nat.blt d N=true) (ab:kv P N ops Q rest ((d,c,v)::tm) A):kv P N ops Q (⟨some d,op,ty,pos,cR,some (j,want)⟩::rest) tm A:=by
 intro a w ag hw;refine wpList_step λK jE=>?_;have aR:=Ba (ops:=ops) ag ad ay;unfold Region.wanted;simp only[aR];have x4:=anm.mp hd;by_cases iL:c=true
 ·have h1:ji=true/\b=want:=by rw[iL]at ai;have:=ai.symm;simp only[ami,an1]at this;exact this
  rw[h1.1,h1.2];simp only[if_true,beq_self_eq_true];unfold Oper.wp;rw[h iL a w _ _ _ _ _ ag hw];exact jE _ _ (ab _ _ (by simpa[iL]using ag.put x4 c v) hw)
 have h1:((if ji=true then some b else none)==some want)=false:=by cases ji<;>simp at ai⊢;intro hb;exact iL (by rw[ai,hb];simp)
 rw[h1];simp only[aov,aor];exact jE _ _ (ab _ _ (by simpa[iL]using ag.put x4 c v) hw)
theorem Ek(b:Bool):b=(true&&(b==true)):=by cases b<;>rfl
theorem Ej(b:Bool):(!b)=(true&&(b==false)):=by cases b<;>rfl
theorem Ei(c b:Bool):(c&&b)=(c&&(b==true)):=by cases b<;>rfl
theorem Eh(c b:Bool):(c&&!b)=(c&&(b==false)):=by cases b<;>rfl
def gq(P:Program)(N:Nat)(op:Op)(dst:Option Tmp)(Q:Exit->Act->World->Prop)(tm:dU)(A:World->Prop)(K:Act->World->Prop):Prop:=∀(a:Act) (w:World) (ty:TypeId) (pos:String) (cR:Array Edge) (g:Option (Nat×Bool)),iq N tm a->A w->Oper.wp P ⟨dst,op,ty,pos,cR,g⟩ a w K Q
theorem ao{dst:Option Tmp}{op:Op}{ty:TypeId}{pos:String}{cR:Array Edge}(h:gq P N op dst Q tm A (wpList P ops Q rest)): kv P N ops Q (⟨dst,op,ty,pos,cR,none⟩::rest) tm A:=by intro a w ag hw;refine wpList_plain rfl λK jE=>?_;exact Oper.wp_mono (λa w h=>jE a w h) (h a w ty pos cR none ag hw)
theorem L2{dst:Option Tmp}{j g:Nat}{want b:Bool}{op:Op}{ty:TypeId}{pos:String}{cR:Array Edge}(ad:(ops[j]?).bind (·.dst)=some g) (ay:jq tm g=some (true,.bool b)) (hb:b=want) (h:kv P N ops Q (⟨dst,op,ty,pos,cR,none⟩::rest) tm A): kv P N ops Q (⟨dst,op,ty,pos,cR,some (j,want)⟩::rest) tm A:=by intro a w ag hw;have h1:=h a w ag hw;unfold wpList at h1⊢;have aR:=Ba (ops:=ops) ag ad ay;rw[amo (by simp[Region.wanted])]at h1;rw[amo (by simp[Region.wanted,aR,hb])];exact h1
end
end Go.cc
namespace Go.cc
open Go Go.RowKit
class jg(P:Program)(t:TypeId)(d:outParam TypeDesc):Prop where
 h:P.underlying t=some d
def bo(tm:dU)(c:Bool)(x:Operand)(v:Value):Prop:=∃cx,aN tm x=some (cx,v)/\(c=true->cx=true)
theorem zc{a b:Bool}(h:(a&&b)=true):a=true:=by cases a<;>simp_all
theorem b7{tm:dU}{c:Bool}{x:Operand}{v:Value}(h:bo tm c x v:=by first | exact⟨_,rfl,λ_=>rfl⟩ | exact⟨_,rfl,λh=>h⟩ | exact⟨_,rfl,zc⟩):bo tm c x v:=h
theorem ox{α:Type _}{a:α}{l:List α}(h:a∈l:=by(repeat (first | exact List.Mem.head _ | refine List.Mem.tail _ ?_))):a∈l:=h
theorem MK{a b:Bool}(h:(a&&b)=true):b=true:=by cases a<;>simp_all
theorem bY{tm:dU}{c:Bool}{x:Operand}{v:Value}(h:aN tm x=some (true,v)):bo tm c x v:=⟨_,h,λ_=>rfl⟩
abbrev U:Value:=.slice none 0 0
abbrev ax(b:Nat):Value:=.pointer (some ⟨b,0,none⟩)
theorem bo.get{N:Nat}{tm:dU}{a:Act}{c:Bool}{x:Operand}{v:Value}(h:bo tm c x v)(ag:iq N tm a)(ai:c=true):a.eval x=v:=by obtain⟨cx,h1,h2⟩:=h;exact ag.eval h1 (h2 ai)
def gI(v:Value)(sz i o:Nat):Addr:=
 match v with
 | .slice (some a) _ _=>(a.add (i* sz)).add o
 | _=>(⟨0,0,none⟩:Addr).add o
theorem add_add(a:Addr)(m n:Nat):(a.add m).add n=a.add (m+n):=by
 unfold Addr.add;by_cases hm:m=0
 ·subst hm;simp
 by_cases bh:n=0
 ·subst bh;simp[hm]
 simp[hm,bh,Nat.add_assoc]
theorem Bm(a:Addr)(m:Nat):(a.add m).block=a.block:=by unfold Addr.add;split<;>rfl
structure aV{aQ:Type}(S:Nat->Prop)(w:World)(enc:aQ->List Value)(sz:Nat)(v:Value)(xs:List aQ):Prop where
 is:∃a n cap,v=.slice a n cap/\n=xs.length/\n<=cap/\cap<=maxLen/\(0<n->a.isSome=true)
 cell:∀i x j u,xs[i]?=some x->(enc x)[j]?=some u->w.cell? (gI v sz i j)=some u
 w7:∀a n cap,v=.slice (some a) n cap->0<n->S a.block
theorem aV.len{aQ:Type}{S:Nat->Prop}{w:World}{enc:aQ->List Value}{sz:Nat}{v:Value}{xs:List aQ}(h:aV S w enc sz v xs):∃a cap,v=.slice a xs.length cap/\xs.length<=cap/\cap<=maxLen:=by obtain⟨a,n,cap,h1,h2,h3,aC,_⟩:=h.is;subst h2;exact⟨a,cap,h1,h3,aC⟩
theorem aV.le{aQ:Type}{S:Nat->Prop}{w:World}{enc:aQ->List Value}{sz:Nat}{v:Value}{xs:List aQ}(h:aV S w enc sz v xs):xs.length<=9223372036854775807:=by obtain⟨_,cap,_,h1,h2⟩:=h.len;unfold maxLen at h2;omega
theorem zh{S:Nat->Prop}{B w:World}(h:ks S B w){a:Addr}{v:Value}(ct:S a.block)(ai:B.cell? a=some v):w.cell? a=some v:=by have dn:=World.block_lt_of_cell? B a ai;rw[<-ai];exact World.cell?_of_block (h.sR _ dn ct)
theorem aV.mono{aQ:Type}{S S':Nat->Prop}{B w:World}{enc:aQ->List Value}{sz:Nat}{v:Value}{xs:List aQ}(h:aV S B enc sz v xs)(hA:ks S B w)(qy:∀k,k<B.heap.size->S k->S' k)(dC:∀x,x∈xs->enc x≠[]):aV S' w enc sz v xs:=by
 refine⟨h.is,?_,?_⟩
 ·intro i x j u hi ad;have ai:=h.cell i x j u hi ad;obtain⟨a,n,cap,aw,bh,_,_,fR⟩:=h.is;have gB:i<xs.length:=by
   rcases amY i xs.length with cr | cr
   ·exact cr
   simp[amR cr]at hi
  have oh:0<n:=by omega
  obtain⟨A,rfl⟩:=am7.1 (fR oh);subst aw;refine zh hA ?_ ai;simp only[gI,Bm];exact h.w7 A n cap rfl oh
 intro A n cap aw oh;have ct:=h.w7 A n cap aw oh;obtain⟨dI,uA,DN,yl,Ze,_⟩:=h.is;rw[aw]at yl;injection yl with bC cd hY;subst bC;subst cd;subst hY;cases xs with
 | nil=>simp at Ze;omega
 | cons x xs=>
  cases he:enc x with
  | nil=>exact absurd he (dC x (by simp))
  | cons u r=>have ai:=h.cell 0 x 0 u (by simp) (by rw[he];rfl);have dn:=World.block_lt_of_cell? B _ ai;subst aw;simp only[gI,Bm]at dn;exact qy _ dn ct
section
variable {P:Program} {N:Nat} {tm:dU} {A:World->Prop} {c:Bool} {bs:List dr} {H:List aA}
theorem aev{x:Operand}{v:Value}(hx:bo tm c x v:=by exact b7):bR P N (.move x) tm A c v:=λai a w _ _ _ _ _ ag _=>by simp only[execOp,hx.get ag ai];rfl
theorem adS{x:Operand}{v:Value}(hx:bo tm c x v:=by exact b7):bR P N (.assign x) tm A c v:=λai a w _ _ _ _ _ ag _=>by simp only[execOp,hx.get ag ai];rfl
theorem hG{s:Sem Value}{v:Value}{w:World}(h:s.run P w=.ok v w):(do pure (Next.value (<-s)):Sem Next).run P w=.ok (.value v) w:=by simp[h]
theorem aeG{x y:Operand}{b d:Bool}(hx:bo tm c x (.bool b):=by exact b7) (aR:bo tm (c&&b) y (.bool d):=by first | exact⟨_,rfl,λ_=>rfl⟩ | exact⟨_,rfl,MK⟩ | exact⟨_,rfl,λh=>h⟩ | exact⟨_,rfl,zc⟩):bR P N (.pick x y (.const (.bool false))) tm A c (.bool (b&&d)):=
 λai a w _ _ _ _ _ ag _=>by
  simp only[execOp,hx.get ag ai];cases b with
  | false=>rfl
  | true=>rw[aR.get ag (by rw[ai];rfl)];rfl
theorem aeH{x y:Operand}{b d:Bool}(hx:bo tm c x (.bool b):=by exact b7) (aR:bo tm (c&&!b) y (.bool d):=by first | exact⟨_,rfl,λ_=>rfl⟩ | exact⟨_,rfl,MK⟩ | exact⟨_,rfl,λh=>h⟩ | exact⟨_,rfl,zc⟩):bR P N (.pick x (.const (.bool true)) y) tm A c (.bool (b||d)):=
 λai a w _ _ _ _ _ ag _=>by
  simp only[execOp,hx.get ag ai];cases b with
  | true=>rfl
  | false=>rw[aR.get ag (by rw[ai];rfl)];rfl
theorem oA{op:BinOp}{t dt:TypeId}{x y:Operand}{k:IntKind}{m n:Int}{v:Value}(hx:bo tm c x (.int k m))(aR:bo tm c y (.int k n)) (aH:∀w,(binOp op t (.int k m) (.int k n)).run P w=.ok v w):bR P N (.binOp op t x y dt) tm A c v:=
 λai a w _ _ _ _ _ ag _=>by
  simp only[execOp,hx.get ag ai,aR.get ag ai];have ay:(eqGuard op t x y (.int k m) (.int k n)).run P w=.ok () w:=by unfold eqGuard;cases op<;>rfl
  simp[ay,aH w]
def yp(k:IntKind)(n:Int):Prop:=k.wrap n=n
theorem z6{n:Int}(h: -9223372036854775808<=n/\n<=9223372036854775807):yp .i64 n:=by unfold yp;rw[IntKind.wrap_i64];omega
theorem adP{t dt:TypeId}{x y:Operand}{m n:Int}(hx:bo tm c x (.int .i64 m):=by exact b7) (aR:bo tm c y (.int .i64 n):=by exact b7) (hb:c=true-> -9223372036854775808<=m+n/\m+n<=9223372036854775807:=by(intro _;omega)):bR P N (.binOp .add t x y dt) tm A c (.int .i64 (m+n)):=λai=>oA hx aR (λw=>by have h:=z6 (hb ai);unfold yp at h;simp[binOp,Op.intArith,h]) ai
theorem aeK{t dt:TypeId}{x y:Operand}{m n:Int}(hx:bo tm c x (.int .i64 m):=by exact b7) (aR:bo tm c y (.int .i64 n):=by exact b7) (hb:c=true-> -9223372036854775808<=m-n/\m-n<=9223372036854775807:=by(intro _;omega)):bR P N (.binOp .sub t x y dt) tm A c (.int .i64 (m-n)):=λai=>oA hx aR (λw=>by have h:=z6 (hb ai);unfold yp at h;simp[binOp,Op.intArith,h]) ai
def bO(p:Prop)[Decidable p]:Bool:=decide p
theorem aq{p:Prop}[Decidable p]:(bO p=true)=p:=by unfold bO;simp
theorem ar{p:Prop}[Decidable p]:(bO p=false)=¬p:=by unfold bO;simp
theorem ch{p:Prop}[Decidable p]:bO p=decide p:=rfl
def DQ:BinOp->Int->Int->Bool
 | .eql,m,n=>bO (m=n)
 | .neq,m,n=>!bO (m=n)
 | .lss,m,n=>bO (m<n)
 | .leq,m,n=>bO (m<=n)
 | .gtr,m,n=>bO (n<m)
 | .geq,m,n=>bO (n<=m)
 | _,_,_=>false
theorem qL{op:BinOp}{t dt:TypeId}{x y:Operand}{k:IntKind}{m n:Int}{b:Bool}(hx:bo tm c x (.int k m))(aR:bo tm c y (.int k n)) (bm:op=.eql\/op=.neq\/op=.lss\/op=.leq\/op=.gtr\/op=.geq) (hb:DQ op m n=b):bR P N (.binOp op t x y dt) tm A c (.bool b):=by
 subst hb;refine λai=>oA hx aR (λw=>?_) ai;rcases bm with rfl | rfl | rfl | rfl | rfl | rfl<;>simp[binOp,Op.intCmp,DQ,bO]
 ·exact am3.2 Iff.rfl
 simp[bne];exact am3.2 Iff.rfl
section
variable {Q:Exit->Act->World->Prop}
theorem sA{x:Operand}{p:Prop}[Decidable p]{c d:Code}(hx:aN tm x=some (true,.bool (bO p)))(aE:p->fh P N c Q tm A)(hf:¬p->fh P N d Q tm A): fh P N (.cond x c d) Q tm A:=cK hx (λh=>aE ((aq (p:=p)).mp h)) λh=>hf ((ar (p:=p)).mp h)
end
end
section
variable {P:Program} {N:Nat} {tm:dU} {A:World->Prop} {c:Bool} {bs:List dr} {H:List aA}
theorem adY{t dt:TypeId}{x y:Operand}{m n:Int}(hx:bo tm c x (.int .i64 m):=by exact b7) (aR:bo tm c y (.int .i64 n):=by exact b7):bR P N (.binOp .eql t x y dt) tm A c (.bool (bO (m=n))):=qL hx aR (by simp) rfl
theorem aez{t dt:TypeId}{x y:Operand}{m n:Int}(hx:bo tm c x (.int .i64 m):=by exact b7) (aR:bo tm c y (.int .i64 n):=by exact b7):bR P N (.binOp .neq t x y dt) tm A c (.bool (!bO (m=n))):=qL hx aR (by simp) rfl
theorem aes{t dt:TypeId}{x y:Operand}{m n:Int}(hx:bo tm c x (.int .i64 m):=by exact b7) (aR:bo tm c y (.int .i64 n):=by exact b7):bR P N (.binOp .lss t x y dt) tm A c (.bool (bO (m<n))):=qL hx aR (by simp) rfl
theorem aei{t dt:TypeId}{x y:Operand}{m n:Int}(hx:bo tm c x (.int .i64 m):=by exact b7) (aR:bo tm c y (.int .i64 n):=by exact b7):bR P N (.binOp .leq t x y dt) tm A c (.bool (bO (m<=n))):=qL hx aR (by simp) rfl
theorem ad9{t dt:TypeId}{x y:Operand}{m n:Int}(hx:bo tm c x (.int .i64 m):=by exact b7) (aR:bo tm c y (.int .i64 n):=by exact b7):bR P N (.binOp .gtr t x y dt) tm A c (.bool (bO (n<m))):=qL hx aR (by simp) rfl
theorem ad6{t dt:TypeId}{x y:Operand}{m n:Int}(hx:bo tm c x (.int .i64 m):=by exact b7) (aR:bo tm c y (.int .i64 n):=by exact b7):bR P N (.binOp .geq t x y dt) tm A c (.bool (bO (n<=m))):=qL hx aR (by simp) rfl
theorem LO(x:BitVec 64):BitVec.ofInt 64 ((x.toNat:Nat):Int)=x:=by simp
theorem Dl(n:Nat):IntKind.u64.wrap (n:Int)=((n % 2 ^ 64:Nat):Int):=by rw[IntKind.wrap_u64];omega
theorem Ub{x y:BitVec 64}:((x.toNat:Nat):Int)=((y.toNat:Nat):Int)↔x=y:=by
 constructor
 ·intro h;exact BitVec.eq_of_toNat_eq (by omega)
 intro h;rw[h]
theorem adZ{t dt:TypeId}{x y:Operand}{m n:BitVec 64}(hx:bo tm c x (u64 m):=by exact b7) (aR:bo tm c y (u64 n):=by exact b7):bR P N (.binOp .eql t x y dt) tm A c (.bool (bO (m=n))):=qL hx aR (by simp) (by simp only[DQ,Ub])
theorem aeA{t dt:TypeId}{x y:Operand}{m n:BitVec 64}(hx:bo tm c x (u64 m):=by exact b7) (aR:bo tm c y (u64 n):=by exact b7):bR P N (.binOp .neq t x y dt) tm A c (.bool (!bO (m=n))):=qL hx aR (by simp) (by simp only[DQ,Ub])
theorem adQ{t dt:TypeId}{x y:Operand}{m n:BitVec 64}(hx:bo tm c x (u64 m):=by exact b7) (aR:bo tm c y (u64 n):=by exact b7):bR P N (.binOp .and t x y dt) tm A c (u64 (m&&& n)):=
 λai=>oA hx aR (λw=>by simp only[binOp,Op.intBits,ne_eq,aoX,aor,IntKind.bits,LO];show Result.ok (Value.int .u64 (IntKind.u64.wrap ((m&&& n).toNat:Int))) w=_;rw[Dl,aoj (BitVec.isLt _)];rfl) ai
theorem aeE{t dt:TypeId}{x y:Operand}{m n:BitVec 64}(hx:bo tm c x (u64 m):=by exact b7) (aR:bo tm c y (u64 n):=by exact b7):bR P N (.binOp .or t x y dt) tm A c (u64 (m||| n)):=
 λai=>oA hx aR (λw=>by simp only[binOp,Op.intBits,ne_eq,aoX,aor,IntKind.bits,LO];show Result.ok (Value.int .u64 (IntKind.u64.wrap ((m||| n).toNat:Int))) w=_;rw[Dl,aoj (BitVec.isLt _)];rfl) ai
theorem adR{t dt:TypeId}{x y:Operand}{m n:BitVec 64}(hx:bo tm c x (u64 m):=by exact b7) (aR:bo tm c y (u64 n):=by exact b7):bR P N (.binOp .andNot t x y dt) tm A c (u64 (m&&& ~~~n)):=
 λai=>oA hx aR (λw=>by simp only[binOp,Op.intBits,ne_eq,aoX,aor,IntKind.bits,LO];show Result.ok (Value.int .u64 (IntKind.u64.wrap ((m&&& ~~~n).toNat:Int))) w=_;rw[Dl,aoj (BitVec.isLt _)];rfl) ai
theorem aeL{t dt:TypeId}{x y:Operand}{m n:BitVec 64}(hx:bo tm c x (u64 m):=by exact b7) (aR:bo tm c y (u64 n):=by exact b7):bR P N (.binOp .sub t x y dt) tm A c (u64 (m-n)):=
 λai=>oA hx aR (λw=>by
  simp only[binOp,Op.intArith,ne_eq,aoX,aor];show Result.ok (Value.int .u64 (IntKind.u64.wrap ((m.toNat:Int)-(n.toNat:Int)))) w=_;have:IntKind.u64.wrap ((m.toNat:Int)-(n.toNat:Int))=(((m-n:BitVec 64).toNat:Nat):Int):=by rw[BitVec.toNat_sub,IntKind.wrap_u64];have:=m.isLt;have:=n.isLt;omega
  rw[this];rfl) ai
theorem aeJ{t dt:TypeId}{x y:Operand}{m n:BitVec 64}(hx:bo tm c x (u64 m):=by exact b7) (aR:bo tm c y (u64 n):=by exact b7):bR P N (.binOp .shr t x y dt) tm A c (u64 (m>>>n.toNat)):=
 λai=>oA hx aR (λw=>by
  have h0:(0:Int)<=(n.toNat:Int):=by omega
  simp only[binOp,shift_shr_any .u64 .u64 _ _ h0,IntKind.bits,amw];show Result.ok (Value.int .u64 ((m.toNat:Int) / 2 ^ min n.toNat 64)) w=_;have:((m.toNat:Int) / 2 ^ min n.toNat 64)=(((m>>>n.toNat).toNat:Nat):Int):=by
   rw[BitVec.toNat_ushiftRight,Nat.shiftRight_eq_div_pow];by_cases h:n.toNat<=64
   ·rw[aoA h];simp
   rw[Nat.min_eq_right (by omega)];have h1:m.toNat / 2 ^ n.toNat=0:=Nat.div_eq_of_lt (anH m.isLt (Nat.pow_le_pow_right (by decide) (by omega)));rw[h1];have:=m.isLt;omega
  rw[this];rfl) ai
theorem aeI{t dt:TypeId}{x y:Operand}{m n:BitVec 64}(hx:bo tm c x (u64 m):=by exact b7) (aR:bo tm c y (u64 n):=by exact b7):bR P N (.binOp .shl t x y dt) tm A c (u64 (m<<<n.toNat)):=
 λai=>oA hx aR (λw=>by
  have h0:(0:Int)<=(n.toNat:Int):=by omega
  simp only[binOp,shift_shl_any .u64 .u64 _ _ h0,IntKind.bits,amw];show Result.ok (Value.int .u64 (IntKind.u64.wrap ((m.toNat:Int)* 2 ^ min n.toNat 64))) w=_;have e:((m.toNat:Int)* 2 ^ min n.toNat 64)=((m.toNat* 2 ^ min n.toNat 64:Nat):Int):=by simp
  have:IntKind.u64.wrap ((m.toNat:Int)* 2 ^ min n.toNat 64)=(((m<<<n.toNat).toNat:Nat):Int):=by
   rw[e,Dl,BitVec.toNat_shiftLeft,Nat.shiftLeft_eq];by_cases h:n.toNat<=64
   ·rw[aoA h]
   rw[Nat.min_eq_right (by omega)];have h1:(2:Nat) ^ n.toNat=2 ^ 64* 2 ^ (n.toNat-64):=by rw[<-Nat.pow_add];congr 1;omega
   rw[h1,<-Nat.mul_assoc,Nat.mul_right_comm,Nat.mul_mod_left,Nat.mul_mod_left]
  rw[this];rfl) ai
inductive jX(tm:dU)(c:Bool):List Operand->List Value->Prop where
 | nil:jX tm c [] []
 | cons {x:Operand} {v:Value} {xs:List Operand} {vs:List Value}:bo tm c x v->jX tm c xs vs->jX tm c (x::xs) (v::vs)
theorem jX.get{a:Act}{xs:List Operand}{vs:List Value}(h:jX tm c xs vs)(ag:iq N tm a)(ai:c=true):xs.map a.eval=vs:=by
 induction h with
 | nil=>rfl
 | cons h1 _ bH=>rw[am8,h1.get ag ai,bH]
theorem adU{s t:TypeId}{x:Operand}{n:Int}{d:TypeDesc}[ag:jg P s d][aE:jg P t (.int .u64)](hx:bo tm c x (.int .i64 n):=by exact b7):bR P N (.convert s t x) tm A c (u64 (BitVec.ofInt 64 n)):=
 λai a w _ _ _ _ _ cn _=>by simp only[execOp,hx.get cn ai];refine hG ?_;simp[convert,run_underlying ag.h,run_underlying aE.h,Conv.intToInt];show _=u64 _;unfold u64;rw[BitVec.toNat_ofInt,IntKind.wrap_u64];congr 1;omega
theorem adV{s t:TypeId}{x:Operand}{n:BitVec 64}{d:TypeDesc}[ag:jg P s d][aE:jg P t (.int .i64)](hx:bo tm c x (u64 n):=by exact b7) (hb:c=true->n.toNat<9223372036854775808:=by(intro _;first | assumption | omega)):bR P N (.convert s t x) tm A c (.int .i64 (n.toNat:Int)):=
 λai a w _ _ _ _ _ cn _=>by simp only[execOp,hx.get cn ai];refine hG ?_;have h:=z6 (n:=(n.toNat:Int)) ⟨by omega,by have:=hb ai;omega⟩;unfold yp at h;simp[convert,run_underlying ag.h,run_underlying aE.h,Conv.intToInt,u64,h]
theorem aeD{t:TypeId}{x:Operand}{b:Bool}(hx:bo tm c x (.bool b):=by exact b7):bR P N (.unOp .not t x) tm A c (.bool (!b)):=
 λai a w _ _ _ _ _ cn _=>by simp only[execOp,hx.get cn ai];rfl
theorem aex{t dt:TypeId}{x y:Operand}{b d:Bool}[aE:jg P t .bool](hx:bo tm c x (.bool b):=by exact b7)(aR:bo tm c y (.bool d):=by exact b7):bR P N (.binOp .neq t x y dt) tm A c (.bool (!(b==d))):=
 λai a w _ _ _ _ _ cn _=>by simp only[execOp,hx.get cn ai,aR.get cn ai];have ay:(eqGuard .neq t x y (.bool b) (.bool d)).run P w=.ok () w:=rfl;simp[ay,run_neq_bool w t b d aE.h]
theorem ad2{x:Operand}{vs:List Value}{i:Nat}{v:Value}(hx:bo tm c x (.tuple vs.toArray):=by exact b7)(aw:vs[i]?=some v:=by rfl):bR P N (.extract x i) tm A c v:=
 λai a w _ _ _ _ _ cn _=>by simp only[execOp,hx.get cn ai];refine hG ?_;simp[Instr.extract,aw]
theorem ad5{fn:Fn}{fG cs:List Operand}{Up Uo:List Value}(hf:jX tm c fG Up:=by first | exact .nil | exact .cons ⟨_,rfl,λ_=>rfl⟩ .nil | exact .cons ⟨_,rfl,λ_=>rfl⟩ (.cons ⟨_,rfl,λ_=>rfl⟩ .nil) | (repeat (first | exact .nil | apply jX.cons ⟨_,rfl,λ_=>rfl⟩ | apply jX.cons ⟨_,rfl,λh=>h⟩ | apply jX.cons ⟨_,rfl,zc⟩)))(fC:jX tm c cs Uo:=by first | exact .nil | exact .cons ⟨_,rfl,λ_=>rfl⟩ .nil | exact .cons ⟨_,rfl,λ_=>rfl⟩ (.cons ⟨_,rfl,λ_=>rfl⟩ .nil) | (repeat (first | exact .nil | apply jX.cons ⟨_,rfl,λ_=>rfl⟩ | apply jX.cons ⟨_,rfl,λh=>h⟩ | apply jX.cons ⟨_,rfl,zc⟩))): bR P N (.makeFunc fn fG.toArray cs.toArray) tm A c (.func fn Up.toArray Uo.toArray):=
 λai a w _ _ _ _ _ cn _=>by simp only[execOp];refine hG ?_;simp[Instr.makeFunc,hf.get cn ai,fC.get cn ai]
class gO(P:Program)(t:TypeId):Prop where
 h:(isAgg t).run P=λw=>.ok false w
class hI(P:Program)(t:TypeId)(n:outParam Nat):Prop where
 h:(isAgg t).run P=λw=>.ok true w
 n:(sizeOf t).run P=λw=>.ok n w
class b4(P:Program)(s:TypeId)(f:Nat)(o:outParam Nat):Prop where
 h:∀a w,(Instr.fieldAt s (.pointer (some a)) f).run P w=.ok (.pointer (some (a.add o))) w
class fz(P:Program)(t:TypeId)(e:outParam TypeId):Prop where
 h:P.underlying t=some (.slice e)
class dh(P:Program)(e:TypeId)(n b:outParam Nat)(z:outParam Value):Prop where
 h:∃i,P.info? e=some i/\i.size=n/\i.bytes=b/\i.zero=some z
theorem gO.of{t:TypeId}{d:TypeDesc}(h:P.underlying t=some d)(hd:(match d with | .struct _ | .array _ _=>true | _=>false)=false:=by rfl):gO P t:=by refine⟨funext λw=>?_⟩;cases d<;>simp_all [isAgg,run_underlying h]
theorem hI.of{t:TypeId}{d:TypeDesc}{n:Nat}(h:P.underlying t=some d)(hd:(match d with | .struct _ | .array _ _=>true | _=>false)=true:=by rfl) (bh:(P.info? t).map (·.size)=some n:=by kernel_rfl):hI P t n:=by
 refine⟨funext λw=>?_,funext λw=>?_⟩
 ·cases d<;>simp_all [isAgg,run_underlying h]
 obtain⟨i,hi,hy⟩:=aos.1 bh;simp[sizeOf,typeInfo,hi,hy]
theorem dh.of{e:TypeId}{n b:Nat}{z:Value}(h:(P.info? e).map (λi=>(i.size,i.bytes,i.zero))=some (n,b,some z):=by kernel_rfl):dh P e n b z:=by obtain⟨i,hi,hy⟩:=aos.1 h;injection hy with h1 h2;injection h2 with h2 h3;exact⟨i,hi,h1,h2,h3⟩
theorem b4.of{s:TypeId}{fG:Array Field}{f:Nat}{fd:Field}{o n:Nat}(h:P.underlying s=some (.struct fG))(hf:fG[f]?=some fd:=by rfl)(bm:fd.offset=o:=by rfl) (bh:(P.info? fd.type).map (·.size)=some (n+1):=by kernel_rfl):b4 P s f o:=by refine⟨λa w=>?_⟩;obtain⟨i,hi,hy⟩:=aos.1 bh;simp[Instr.fieldAt,run_underlying h,hf,Instr.sureAddr,fieldPlace,sizeOf,typeInfo,hi,hy,bm]
theorem ad3{s:TypeId}{x:Operand}{f o b off:Nat}[hf:b4 P s f o](hx:bo tm c x (.pointer (some ⟨b,off,none⟩)):=by exact b7): bR P N (.fieldAddr s x f) tm A c (.pointer (some ⟨b,off+o,none⟩)):=
 λai a w _ _ _ _ _ cn _=>by
  simp only[execOp,hx.get cn ai];refine hG ?_;rw[hf.h];unfold Addr.add;split
  ·rename_i h;subst h;rfl
  rfl
theorem DZ(v:Value)(sz i o xh:Nat):(gI v sz i o).add xh=gI v sz i (o+xh):=by unfold gI;split<;>rw[add_add]
theorem ad4{s:TypeId}{x:Operand}{f o sz i xh:Nat}{v:Value}[hf:b4 P s f o](hx:bo tm c x (.pointer (some (gI v sz i xh))):=by exact b7): bR P N (.fieldAddr s x f) tm A c (.pointer (some (gI v sz i (xh+o)))):=
 λai a w _ _ _ _ _ cn _=>by simp only[execOp,hx.get cn ai];refine hG ?_;rw[hf.h,DZ]
theorem Gl{t:TypeId}{p:Addr}{v:Value}{w:World}[aE:gO P t](h:w.cell? p=some v):(Instr.loadAt t (.pointer (some p))).run P w=.ok v w:=by simp[Instr.loadAt,Instr.sureAddr,loadVar,aE.h,h]
theorem Gm{t:TypeId}{p:Addr}{n:Nat}{w:World}[aE:hI P t n](cs:List Value)(bh:cs.length=n)(h:∀j v,cs[j]?=some v->w.cell? (p.add j)=some v): (Instr.loadAt t (.pointer (some p))).run P w=.ok (.agg cs.toArray) w:=by subst bh;simp[Instr.loadAt,Instr.sureAddr,loadVar,aE.h,aE.n,run_loadCells_list w p cs h]
theorem xD{b:Nat}{cs:List Value}{tt:TypeId}{w:World}(h:(aA.box b cs tt).ok w){j:Nat}{v:Value}(ad:cs[j]?=some v):w.cell? ⟨b,j,none⟩=some v:=by simp only[aA.ok]at h;simp[World.cell?,h,ad]
theorem ael{t b off tt:Nat}{x:Operand}{v:Value}{cs:List Value}[aE:gO P t](hx:bo tm c x (.pointer (some ⟨b,off,none⟩)):=by exact b7) (hm:aA.box b cs tt∈H:=by exact ox) (aw:cs[off]?=some v:=by rfl):bR P N (.load t x) tm (Mem bs H) c v:=
 λai a w _ _ _ _ _ cn hw=>by simp only[execOp,hx.get cn ai];exact hG (Gl (xD (hw.own _ hm) aw))
theorem yO{t b off tt n:Nat}{x:Operand}{cs:List Value}[aE:hI P t n](hx:bo tm c x (.pointer (some ⟨b,off,none⟩)):=by exact b7) (hm:aA.box b cs tt∈H:=by exact ox) (bh:Nat.ble (off+n) cs.length=true:=by rfl):bR P N (.load t x) tm (Mem bs H) c (.agg ((cs.drop off).take n).toArray):=
 λai a w _ _ _ _ _ cn hw=>by
  simp only[execOp,hx.get cn ai];refine hG (Gm _ (by have:=anm.mp bh;simp;omega) λj v ad=>?_);have qz:cs[off+j]?=some v:=by
   rw[anO]at ad;split at ad
   ·rw[anP]at ad;exact ad
   cases ad
  have ai:=xD (hw.own _ hm) qz;unfold Addr.add;split
  ·rename_i h0;subst h0;exact ai
  exact ai
class ee{aQ:Type}(enc:aQ->List Value)(sz:outParam Nat):Prop where
 len:∀x,(enc x).length=sz
 pos:0<sz
theorem ee.ne{aQ:Type}{enc:aQ->List Value}{sz:Nat}[he:ee enc sz](x:aQ):enc x≠[]:=λh=>by have h1:=he.len x;have h2:=he.pos;rw[h]at h1;simp at h1;omega
theorem getD_some{aQ:Type}[Inhabited aQ]{xs:List aQ}{i:Nat}(h:i<xs.length):xs[i]?=some (xs.getD i default):=by rw[amp h,aml,amp h];rfl
theorem Hd{aQ:Type}{S:Nat->Prop}{B w:World}{enc:aQ->List Value}{sz:Nat}{v:Value}{xs:List aQ}(h:aV S B enc sz v xs)(hA:ks S B w){i j:Nat}{x:aQ}{u:Value} (hi:xs[i]?=some x) (ad:(enc x)[j]?=some u):w.cell? (gI v sz i j)=some u:=by
 have ai:=h.cell i x j u hi ad;obtain⟨a,n,cap,aw,bh,_,_,fR⟩:=h.is;have gB:i<xs.length:=by
  rcases amY i xs.length with cr | cr
  ·exact cr
  simp[amR cr]at hi
 have oh:0<n:=by omega
 obtain⟨A,rfl⟩:=am7.1 (fR oh);subst aw;refine zh hA ?_ ai;simp only[gI,Bm];exact h.w7 A n cap rfl oh
theorem aem{aQ:Type}[Inhabited aQ]{S:Nat->Prop}{B:World}{enc:aQ->List Value}{sz i o t:Nat}{v u:Value}{xs:List aQ}{x:Operand}[aE:gO P t] (hx:bo tm c x (.pointer (some (gI v sz i o))):=by exact b7) (h:aV S B enc sz v xs:=by assumption) (hB:(B,S)∈bs:=by exact ox) (hi:c=true->i<xs.length:=by first | (intro _;assumption) | (intro _;omega) | (intro ai;simp only[ami,amr,amk,amt,amx,amm,aq,ar]at ai;omega)) (aw:(enc (xs.getD i default))[o]?=some u:=by rfl):bR P N (.load t x) tm (Mem bs H) c u:=
 λai a w _ _ _ _ _ cn hw=>by simp only[execOp,hx.get cn ai];exact hG (Gl (Hd h (hw.base _ hB) (getD_some (hi ai)) aw))
theorem aen{aQ:Type}[Inhabited aQ]{S:Nat->Prop}{B:World}{enc:aQ->List Value}{sz i t:Nat}{v:Value}{xs:List aQ}{x:Operand}[aE:hI P t sz][he:ee enc sz] (hx:bo tm c x (.pointer (some (gI v sz i 0))):=by exact b7) (h:aV S B enc sz v xs:=by assumption) (hB:(B,S)∈bs:=by exact ox) (hi:c=true->i<xs.length:=by first | (intro _;assumption) | (intro _;omega) | (intro ai;simp only[ami,amr,amk,amt,amx,amm,aq,ar]at ai;omega)):bR P N (.load t x) tm (Mem bs H) c (.agg (enc (xs.getD i default)).toArray):=
 λai a w _ _ _ _ _ cn hw=>by simp only[execOp,hx.get cn ai];refine hG (Gm _ (he.len _) λj u ad=>?_);rw[DZ,aoO];exact Hd h (hw.base _ hB) (getD_some (hi ai)) ad
theorem CO{aQ:Type}{enc:aQ->List Value}{sz tt:Nat}{v:Value}{xs:List aQ}{w:World}[he:ee enc sz](h:(aA.own v tt sz enc xs).ok w){i j:Nat}{x:aQ}{u:Value} (hi:xs[i]?=some x) (ad:(enc x)[j]?=some u):w.cell? (gI v sz i j)=some u:=by
 obtain⟨h1,h2⟩:=h;have gB:i<xs.length:=by
  rcases amY i xs.length with cr | cr
  ·exact cr
  simp[amR cr]at hi
 rcases h2 with⟨_,h2⟩ | ⟨g,cap,cur,aw,_,eO,bh,_,eh,gu⟩
 ·omega
 subst aw;have fZ:j<sz:=by
  rcases amY j sz with cr | cr
  ·exact cr
  rw[amR (by rw[he.len];omega)]at ad;cases ad
 have key:∀(xs:List aQ) (i:Nat),xs[i]?=some x->(xs.flatMap enc)[i* sz+j]?=some u:=by
  intro xs
  induction xs with
  | nil=>intro i hi;simp at hi
  | cons y ys bH=>
   intro i hi;rw[am0];cases i with
   | zero=>simp at hi;subst hi;rw[amM (by rw[he.len];omega)];simpa using ad
   | succ i=>rw[amL (by rw[he.len,aob];omega),he.len,show(i+1)* sz+j-sz=i* sz+j from by rw[aob];omega];exact bH i (by simpa using hi)
 have hk:=key xs i hi;rw[<-gu,anO]at hk;split at hk
 ·have e:gI (.slice (some ⟨g,0,none⟩) xs.length cap) sz i j=⟨g,i* sz+j,none⟩:=by
   simp only[gI,add_add];unfold Addr.add;split
   ·rename_i h0;rw[h0]
   simp
  rw[e];simp only[World.cell?,eO];simpa using hk
 cases hk
theorem aep{aQ:Type}[Inhabited aQ]{enc:aQ->List Value}{sz i o t tt:Nat}{v u:Value}{xs:List aQ}{x:Operand}[aE:gO P t][he:ee enc sz] (hx:bo tm c x (.pointer (some (gI v sz i o))):=by exact b7) (hm:aA.own v tt sz enc xs∈H:=by exact ox) (hi:c=true->i<xs.length:=by first | (intro _;assumption) | (intro _;omega) | (intro ai;simp only[ami,amr,amk,amt,amx,amm,aq,ar]at ai;omega)) (aw:(enc (xs.getD i default))[o]?=some u:=by rfl):bR P N (.load t x) tm (Mem bs H) c u:=
 λai a w _ _ _ _ _ cn hw=>by simp only[execOp,hx.get cn ai];exact hG (Gl (CO (hw.own _ hm) (getD_some (hi ai)) aw))
theorem aeq{aQ:Type}[Inhabited aQ]{enc:aQ->List Value}{sz i t tt:Nat}{v:Value}{xs:List aQ}{x:Operand}[aE:hI P t sz][he:ee enc sz] (hx:bo tm c x (.pointer (some (gI v sz i 0))):=by exact b7) (hm:aA.own v tt sz enc xs∈H:=by exact ox) (hi:c=true->i<xs.length:=by first | (intro _;assumption) | (intro _;omega) | (intro ai;simp only[ami,amr,amk,amt,amx,amm,aq,ar]at ai;omega)):bR P N (.load t x) tm (Mem bs H) c (.agg (enc (xs.getD i default)).toArray):=
 λai a w _ _ _ _ _ cn hw=>by simp only[execOp,hx.get cn ai];refine hG (Gm _ (he.len _) λj u ad=>?_);rw[DZ,aoO];exact CO (hw.own _ hm) (getD_some (hi ai)) ad
theorem Lc{t e sz b:Nat}{z:Value}{k:IntKind}{n:Int}{a:Option Addr}{len cap:Nat}{w:World}[aE:fz P t e][cP:dh P e sz b z](h0:0<=n/\n<len)(au:a.isSome=true): (Instr.indexAt t (.slice a len cap) (.int k n)).run P w=.ok (.pointer (some (gI (.slice a len cap) sz n.toNat 0))) w:=by obtain⟨A,rfl⟩:=am7.1 au;obtain⟨i,hi,ma,_⟩:=cP.h;subst ma;simp[Instr.indexAt,asIntOf,run_underlying aE.h,h0,sizeOf,typeInfo,hi,gI,Addr.add]
theorem Sg{aQ:Type}{S:Nat->Prop}{B:World}{enc:aQ->List Value}{sz t e b:Nat}{z v:Value}{k:IntKind}{n:Int}{xs:List aQ}{x y:Operand}[aE:fz P t e][cP:dh P e sz b z] (hx:bo tm c x v:=by exact b7) (aR:bo tm c y (.int k n):=by exact b7) (h:aV S B enc sz v xs:=by assumption) (hb:c=true->0<=n/\n<xs.length:=by first | (intro _;omega) | (intro ai;simp only[ami,amr,amk,amt,amx,amm,aq,ar]at ai;omega)):bR P N (.indexAddr t x y) tm A c (.pointer (some (gI v sz n.toNat 0))):=
 λai a w _ _ _ _ _ cn hw=>by simp only[execOp,hx.get cn ai,aR.get cn ai];obtain⟨dI,uA,cap,aw,bh,_,_,fR⟩:=h.is;subst aw;subst bh;exact hG (Lc (hb ai) (fR (by have:=hb ai;omega)))
theorem aed{aQ:Type}{S:Nat->Prop}{B:World}{enc:aQ->List Value}{sz t e b n:Nat}{z v:Value}{k:IntKind}{xs:List aQ}{x y:Operand}[aE:fz P t e][cP:dh P e sz b z] (hx:bo tm c x v:=by exact b7) (aR:bo tm c y (.int k (n:Int)):=by exact b7) (h:aV S B enc sz v xs:=by assumption) (hb:c=true->n<xs.length:=by first | (intro _;assumption) | (intro _;omega) | (intro ai;simp only[ami,amr,amk,amt,amx,amm,aq,ar]at ai;omega)):bR P N (.indexAddr t x y) tm A c (.pointer (some (gI v sz n 0))):=
 λai a w d ty pos cR g cn hw=>by have:=Sg (A:=A) (P:=P) (N:=N) (t:=t) (k:=k) hx aR h (λai=>⟨by omega,by have:=hb ai;omega⟩) ai a w d ty pos cR g cn hw;simpa using this
theorem si{aQ:Type}{enc:aQ->List Value}{sz tt:Nat}{v:Value}{xs:List aQ}{w:World}(h:(aA.own v tt sz enc xs).ok w):∃a cap,v=.slice a xs.length cap/\(0<xs.length->a.isSome=true)/\xs.length<=cap/\cap<=maxLen:=by
 obtain⟨_,⟨aw,h2⟩ | ⟨g,cap,cur,aw,_,_,bh,hm,_⟩⟩:=h
 ·exact⟨none,0,by rw[h2];exact aw,λh=>by omega,by omega,by unfold maxLen;omega⟩
 exact⟨some ⟨g,0,none⟩,cap,aw,λ_=>rfl,bh,hm⟩
theorem Si{aQ:Type}{enc:aQ->List Value}{sz t tt e b:Nat}{z v:Value}{k:IntKind}{n:Int}{xs:List aQ}{x y:Operand}[aE:fz P t e][cP:dh P e sz b z] (hx:bo tm c x v:=by exact b7) (aR:bo tm c y (.int k n):=by exact b7) (hm:aA.own v tt sz enc xs∈H:=by exact ox) (hb:c=true->0<=n/\n<xs.length:=by first | (intro _;omega) | (intro ai;simp only[ami,amr,amk,amt,amx,amm,aq,ar]at ai;omega)):bR P N (.indexAddr t x y) tm (Mem bs H) c (.pointer (some (gI v sz n.toNat 0))):=
 λai a w _ _ _ _ _ cn hw=>by simp only[execOp,hx.get cn ai,aR.get cn ai];obtain⟨dI,cap,aw,fR,_⟩:=si (hw.own _ hm);subst aw;exact hG (Lc (hb ai) (fR (by have:=hb ai;omega)))
theorem aee{aQ:Type}{enc:aQ->List Value}{sz t tt e b n:Nat}{z v:Value}{k:IntKind}{xs:List aQ}{x y:Operand}[aE:fz P t e][cP:dh P e sz b z] (hx:bo tm c x v:=by exact b7) (aR:bo tm c y (.int k (n:Int)):=by exact b7) (hm:aA.own v tt sz enc xs∈H:=by exact ox) (hb:c=true->n<xs.length:=by first | (intro _;assumption) | (intro _;omega) | (intro ai;simp only[ami,amr,amk,amt,amx,amm,aq,ar]at ai;omega)):bR P N (.indexAddr t x y) tm (Mem bs H) c (.pointer (some (gI v sz n 0))):=
 λai a w d ty pos cR g cn hw=>by have:=Si (P:=P) (N:=N) (bs:=bs) (t:=t) (k:=k) hx aR hm (λai=>⟨by omega,by have:=hb ai;omega⟩) ai a w d ty pos cR g cn hw;simpa using this
theorem Ld{t ty e n cap:Nat}{a:Option Addr}{w:World}[aE:fz P t e]:(Builtin.len_ #[t] ty #[.slice a n cap]).run P w=.ok (.int .i64 (n:Int)) w:=by simp[Builtin.len_,run_underlying aE.h,goInt]
theorem D5{x:Operand}{t:TypeId}{v u:Value}{a:Act}{w:World}{d:Option Tmp}{ty:TypeId}{pos:String}{cR:Array Edge}{g:Option (Nat×Bool)} (hx:a.eval x=v) (h:(Builtin.len_ #[t] ty #[v]).run P w=.ok u w):(execOp a.eval ⟨d,.call {callee:=.builtin .len,args:=#[x],argTypes:=#[t]},ty,pos,cR,g⟩).run P w=.ok (.value u) w:=by simp[execOp,resolve,invoke,builtin,hx,h]
theorem aef{aQ:Type}{S:Nat->Prop}{B:World}{enc:aQ->List Value}{sz t e:Nat}{v:Value}{xs:List aQ}{x:Operand}[aE:fz P t e] (hx:bo tm c x v:=by exact b7) (h:aV S B enc sz v xs:=by assumption):bR P N (.call {callee:=.builtin .len,args:=#[x],argTypes:=#[t]}) tm A c (.int .i64 (xs.length:Int)):=
 λai a w _ _ _ _ _ cn hw=>by obtain⟨dI,cap,aw,_⟩:=h.len;exact D5 (hx.get cn ai) (by rw[aw];exact Ld)
theorem aeh{aQ:Type}{enc:aQ->List Value}{sz t tt e:Nat}{v:Value}{xs:List aQ}{x:Operand}[aE:fz P t e] (hx:bo tm c x v:=by exact b7) (hm:aA.own v tt sz enc xs∈H:=by exact ox):bR P N (.call {callee:=.builtin .len,args:=#[x],argTypes:=#[t]}) tm (Mem bs H) c (.int .i64 (xs.length:Int)):=
 λai a w _ _ _ _ _ cn hw=>by obtain⟨dI,cap,aw,_⟩:=si (hw.own _ hm);exact D5 (hx.get cn ai) (by rw[aw];exact Ld)
end
def aD(v:Value):Prop:=∃a n cap,v=.slice a n cap
theorem aD.cells{v:Value}(h:aD v):v.cells=[v].toArray:=by obtain⟨a,n,cap,rfl⟩:=h;rfl
theorem aD.one{v:Value}(h:aD v):v.oneCell'=true:=by obtain⟨a,n,cap,rfl⟩:=h;rfl
theorem aV.aG{aQ:Type}{S:Nat->Prop}{w:World}{enc:aQ->List Value}{sz:Nat}{v:Value}{xs:List aQ}(h:aV S w enc sz v xs):aD v:=by obtain⟨a,n,cap,aw,_⟩:=h.is;exact⟨a,n,cap,aw⟩
class jw(P:Program)(e:TypeId){aQ:outParam Type}(enc:outParam (aQ->List Value))(dec:outParam (List Value->aQ)):Prop where
 ok:True
def Fr(n:Nat):Nat->Prop:=λk=>n<=k
def an:Nat->Prop:=λ_=>True
section
variable {P:Program} {N:Nat} {tm:dU} {A:World->Prop} {bs:List dr} {H:List aA} {Q:Exit->Act->World->Prop} {K:Act->World->Prop} {dst:Option Tmp}
theorem Q1{b:Nat}{w:World}(h:Mem bs H w)(hb:b=w.heap.size)(cs:List Value)(t:TypeId):Mem bs (.box b cs t::H) (w.alloc (.cells cs.toArray t)):=by
 subst hb;refine h.new rfl rfl rfl (by simp) (λk hk=>heap_alloc_old w _ hk) (heap_alloc_new w _) (λk hk=>?_) λk hk=>?_
 ·simp only[aA.cX,amv]at hk;subst hk;simp
 simp only[aA.cX,amv]at hk;omega
theorem sW{v:Value}{cs:List Value}(h:v.cells=cs.toArray:=by first | exact aD.cells (by assumption) | exact aD.cells (aV.aG (by assumption)) | rfl):v.cells=cs.toArray:=h
theorem q5{d:Nat}{t:TypeId}{x:Operand}{v:Value}{cs:List Value}(ab:∀b,cL N K ((d,true,.pointer (some ⟨b,0,none⟩))::tm) (Mem bs (.box b cs t::H))) (hx:bo tm true x v:=by exact b7) (fC:v.cells=cs.toArray:=by exact sW) (hd:Nat.blt d N=true:=by rfl):gq P N (.box t x) (some d) Q tm (Mem bs H) K:=by
 intro a w ty pos cR g ag hw;unfold Oper.wp;have aH:(execOp a.eval ⟨some d,.box t x,ty,pos,cR,g⟩).run P w=.ok (.value (.pointer (some ⟨w.heap.size,0,none⟩))) (w.alloc (.cells cs.toArray t)):=by simp[execOp,hx.get ag rfl,Instr.box,newVar,newRow,fC]
 rw[aH];exact ab _ _ _ (by simpa using ag.put (anm.mp hd) true _) (Q1 hw rfl cs t)
theorem ft{d:Nat}{t:TypeId}{n b:Nat}{z:Value}{cs:List Value}[cP:dh P t n b z](ab:∀b,cL N K ((d,true,.pointer (some ⟨b,0,none⟩))::tm) (Mem bs (.box b cs t::H))) (fC:z.cells=cs.toArray:=by rfl) (hd:Nat.blt d N=true:=by rfl):gq P N (.alloc t) (some d) Q tm (Mem bs H) K:=by
 intro a w ty pos cR g ag hw;unfold Oper.wp;have aH:(execOp a.eval ⟨some d,.alloc t,ty,pos,cR,g⟩).run P w=.ok (.value (.pointer (some ⟨w.heap.size,0,none⟩))) (w.alloc (.cells cs.toArray t)):=by obtain⟨i,hi,_,_,aY⟩:=cP.h;simp[execOp,Instr.alloc,zeroValue,typeInfo,hi,aY,newVar,newRow,fC]
 rw[aH];exact ab _ _ _ (by simpa using ag.put (anm.mp hd) true _) (Q1 hw rfl cs t)
theorem flatMap_replicate{aQ:Type}(enc:aQ->List Value)(x:aQ):∀n,(List.replicate n x).flatMap enc=(List.replicate n (enc x)).flatten
 | 0=>rfl
 | n+1=>by rw[aoF,am0,flatMap_replicate enc x n,aoF,List.flatten_cons]
theorem QQ(z:Array Value)(aiK:0<z.size):∀n,(madeCells z (n* z.size)).toList=(List.replicate n z.toList).flatten:=by
 intro n;have key:∀n,(List.range (n* z.size)).map (λi=>z[i % z.size]!)=(List.replicate n z.toList).flatten:=by
  intro n
  induction n with
  | zero=>simp
  | succ n bH=>
   rw[aob,Nat.one_mul,List.range_add,ane,bH,aoz,List.flatten_append];congr 1;simp only[List.flatten_cons,List.flatten_nil,amB,aoP];apply anw
   ·simp
   intro i h1 h2;simp at h1;have hm:(n* z.size+i) % z.size=i:=by rw[Nat.mul_comm,Nat.mul_add_mod];exact aoj h1
   simp[hm,h1]
 unfold madeCells;simpa using key n
theorem ix{aQ:Type}{d t:Nat}{x y:Operand}{n m:Int}(enc:aQ->List Value) (dec:List Value->aQ) (e:Nat) (sz:Nat) (b:Nat) (z:Value)[aE:fz P t e][cP:dh P e sz b z][jw P e enc dec][he:ee enc sz](hx:bo tm true x (.int .i64 n):=by exact b7) (aR:bo tm true y (.int .i64 m):=by exact b7) (aY:enc (dec z.cells.toList)=z.cells.toList:=by rfl) (hb:0<=n/\n<=m/\(b:Int)* m<=281474976710656/\m<=9223372036854775807:=by omega) (hd:Nat.blt d N=true:=by rfl) (ab:∀v,aD v->cL N K ((d,true,v)::tm) (Mem bs (.own v e sz enc (List.replicate n.toNat (dec z.cells.toList))::H))):gq P N (.makeSlice t x y) (some d) Q tm (Mem bs H) K:=by
 intro a w ty pos cR g ag hw;unfold Oper.wp;obtain⟨i,hi,ma,oV,re⟩:=cP.h;have aH:=run_make (P:=P) w t e i z aE.h hi re .i64 .i64 n m hb.1 hb.2.1 (by rw[oV];exact hb.2.2.1) hb.2.2.2;have vx:(execOp a.eval ⟨some d,.makeSlice t x y,ty,pos,cR,g⟩).run P w=.ok (.value (.slice (some ⟨w.heap.size,0,none⟩) n.toNat m.toNat)) (w.alloc (.cells (madeCells z.cells (m.toNat* i.size)) e)):=by simp[execOp,hx.get ag rfl,aR.get ag rfl,aH]
 rw[vx];have pD:z.cells.size=sz:=by have:=he.len (dec z.cells.toList);rw[aY]at this;simpa using this
 refine ab _ ⟨_,_,_,rfl⟩ _ _ (by simpa using ag.put (anm.mp hd) true _) ?_
 refine hw.new rfl rfl rfl (by simp) (λk hk=>heap_alloc_old w _ hk) ?_ (λk hk=>?_) λk hk=>?_
 ·refine⟨?_,.inr ⟨w.heap.size,m.toNat,_,by simp,amz _,heap_alloc_new w _,by simp;omega,by unfold maxLen;omega,by rw[size_madeCells,ma],?_⟩⟩
  ·rw[flatMap_replicate,aY];simp[pD]
  rw[flatMap_replicate,aY,ma,<-pD,QQ _ (by rw[pD];exact he.pos),amS];obtain⟨r,aH⟩:∃r,m.toNat=n.toNat+r:=⟨m.toNat-n.toNat,by omega⟩;rw[aH,<-List.replicate_append_replicate,List.flatten_append];exact List.take_left' (by simp)
 ·simp only[aA.cX,Value.ownBlock,Option.toList,amv]at hk;subst hk;simp
 simp only[aA.cX,Value.ownBlock,Option.toList,amv]at hk;omega
theorem dZ{aQ:Type}(e sz:Nat)(enc:aQ->List Value)(h:cL N K tm (Mem bs (.own (.slice none 0 0) e sz enc []::H))):cL N K tm (Mem bs H):=by intro a w ag hw;refine h a w ag (hw.new rfl rfl rfl (amK _) (λ_ _=>rfl) ⟨by simp,.inl ⟨rfl,rfl⟩⟩ (λk hk=>?_) λk hk=>?_)<;>simp[aA.cX,Value.ownBlock]at hk
end
section
variable {P:Program} {N:Nat} {tm:dU} {A:World->Prop} {bs:List dr} {H:List aA} {Q:Exit->Act->World->Prop} {K:Act->World->Prop} {dst:Option Tmp}
def lay(cs:List Value)(off:Nat)(vs:List Value):List Value:=cs.take off++vs++cs.drop (off+vs.length)
theorem S3{t n b:Nat}{z v:Value}{vs:List Value}{g off:Nat}{cur:Array Value}{e:TypeId}{w:World}[cP:dh P t n b z](fC:v.cells=vs.toArray)(bh:vs.length=n) (ay:w.heap[g]?=some (.cells cur e (0,0))) (rb:off+n<=cur.size) (h1:∀u,u∈vs->u.oneCell'=true): (Instr.storeAt t (.pointer (some ⟨g,off,none⟩)) v).run P w=.ok () (w.setRow g (lay cur.toList off vs).toArray):=by obtain⟨i,hi,ma,_⟩:=cP.h;subst bh;have c4:=run_storeCells_at P g off e vs 0 cur w ay (by simpa using rb) h1;simp only[Nat.add_zero]at c4;simp[Instr.storeAt,Instr.sureAddr,storeVar,sizeOf,typeInfo,hi,ma,fC,c4,lay]
inductive pS:List Value->Prop where
 | nil:pS []
 | cons {v:Value} {vs:List Value}:v.oneCell'=true->pS vs->pS (v::vs)
theorem Kh{vs:List Value}(h:pS vs):∀u,u∈vs->u.oneCell'=true:=by
 induction h with
 | nil=>intro u hu;cases hu
 | cons h1 _ bH=>
  intro u hu;rcases amG.1 hu with rfl | hu
  ·exact h1
  exact bH u hu
theorem Qo{cs vs:List Value}{off:Nat}(h:off+vs.length<=cs.length):(lay cs off vs).length=cs.length:=by simp[lay];omega
theorem FR{vs:List Value}(h:pS vs:=by repeat (first | exact pS.nil | apply pS.cons (by first | exact aD.one (by assumption) | exact aD.one (aV.aG (by assumption)) | rfl))):pS vs:=h
theorem bD{t n ky:Nat}{z v:Value}{x y:Operand}{b off tt:Nat}{cs vs:List Value}[cP:dh P t n ky z](i:Nat) (hx:bo tm true x (.pointer (some ⟨b,off,none⟩)):=by exact b7) (aR:bo tm true y v:=by exact b7) (fC:v.cells=vs.toArray:=by exact sW) (hi:H[i]?=some (.box b cs tt):=by rfl) (bh:vs.length=n:=by rfl) (rb:Nat.ble (off+n) cs.length=true:=by rfl) (h1:pS vs:=by exact FR) (ab:cL N K tm (Mem bs (H.set i (.box b (lay cs off vs) tt)))):gq P N (.store t x y) none Q tm (Mem bs H) K:=by
 intro a w ty pos cR g ag hw;unfold Oper.wp;have O7:=anm.mp rb;have hb:=hw.own _ (amF hi);simp only[aA.ok]at hb;have aH:(execOp a.eval ⟨none,.store t x y,ty,pos,cR,g⟩).run P w=.ok .skip (w.setRow b (lay cs off vs).toArray):=by have:=S3 (P:=P) (t:=t) fC bh hb (by simpa using O7) (Kh h1);simp[execOp,hx.get ag rfl,aR.get ag rfl,this]
 rw[aH];refine ab a _ ag (hw.rC hi rfl rfl rfl (by simp) (λk _ hk=>setRow_other w b k _ λe=>hk (by simp[aA.cX,e])) (setRow_heap w b _ _ tt _ hb) (λk hk=>?_) λk hk=>.inl hk)
 have:=hw.fw _ (amF hi) k hk;simpa using this
theorem HN{aQ:Type}{enc:aQ->List Value}{sz:Nat}[he:ee enc sz]:∀(xs:List aQ) (i:Nat),i<=xs.length->(xs.flatMap enc).take (i* sz)=(xs.take i).flatMap enc
 | xs,0,_=>by simp
 | [],i+1,h=>by simp at h
 | x::xs,i+1,h=>by
  rw[am0,List.take_succ_cons,am0,aob,Nat.one_mul,Nat.add_comm,List.take_append,he.len,show sz+i* sz-sz=i* sz from by omega,HN xs i (by simpa using h),aoK (by rw[he.len];omega)]
theorem nJ{aQ:Type}{enc:aQ->List Value}{sz:Nat}[he:ee enc sz](xs:List aQ):(xs.flatMap enc).length=xs.length* sz:=by
 induction xs with
 | nil=>simp
 | cons x xs bH=>rw[am0,ams,he.len,bH,amI,aob];omega
theorem abo(pre FE post vs:List Value)(o:Nat)(h:o+vs.length<=FE.length):lay (pre++FE++post) (pre.length+o) vs=pre++lay FE o vs++post:=by
 unfold lay;rw[amJ pre FE post,List.take_append,aoK (by omega:pre.length<=pre.length+o),show pre.length+o-pre.length=o from by omega,List.take_append_of_le_length (by omega),Nat.add_assoc,List.drop_append,an9 (by omega:pre.length<=pre.length+(o+vs.length)),anf,show pre.length+(o+vs.length)-pre.length=o+vs.length from by omega,List.drop_append_of_le_length h]
 simp[amJ]
theorem fB{aQ:Type}[Inhabited aQ]{enc:aQ->List Value}{dec:List Value->aQ}{t n ky sz e i o:Nat}{z v u:Value}{x y:Operand}{vs:List Value}{xs:List aQ}[cP:dh P t n ky z][jw P e enc dec][he:ee enc sz](k:Nat) (hk:H[k]?=some (.own v e sz enc xs)) (Dn:aQ) (hx:bo tm true x (.pointer (some (gI v sz i o))):=by exact b7) (aR:bo tm true y u:=by exact b7) (fC:u.cells=vs.toArray:=by exact sW) (bh:vs.length=n:=by rfl) (hi:i<xs.length:=by first | assumption | omega) (rb:Nat.ble (o+n) sz=true:=by rfl) (h1:pS vs:=by exact FR) (hd:enc Dn=lay (enc (xs.getD i default)) o vs:=by first | rfl | exact(show enc (dec _)=_ from rfl)) (ab:cL N K tm (Mem bs (H.set k (.own v e sz enc (xs.set i Dn))))):gq P N (.store t x y) none Q tm (Mem bs H) K:=by
 intro a w ty pos cR g ag hw;unfold Oper.wp;have O7:=anm.mp rb;have oY:=hw.own _ (amF hk);obtain⟨rh,⟨_,h0⟩ | ⟨nd,cap,cur,aw,_,eO,p3,rW,eh,gu⟩⟩:=oY
 ·omega
 subst aw;have bC:gI (.slice (some ⟨nd,0,none⟩) xs.length cap) sz i o=⟨nd,i* sz+o,none⟩:=by
  simp only[gI,add_add];unfold Addr.add;split
  ·rename_i h0;rw[h0]
  simp
 have hy:i* sz+sz<=xs.length* sz:=by rw[<-aoo];exact anh _ hi
 have Ey:xs.length* sz<=cap* sz:=anh _ p3;have aH:(execOp a.eval ⟨none,.store t x y,ty,pos,cR,g⟩).run P w=.ok .skip (w.setRow nd (lay cur.toList (i* sz+o) vs).toArray):=by have:=S3 (P:=P) (t:=t) (off:=i* sz+o) fC bh eO (by omega) (Kh h1);simp[execOp,hx.get ag rfl,aR.get ag rfl,bC,this]
 rw[aH];have II:(lay cur.toList (i* sz+o) vs).length=cur.size:=by rw[Qo (by simp;omega)];simp
 refine ab a _ ag (hw.rC hk rfl rfl rfl (by simp) (λk _ hk=>setRow_other w nd k _ λe=>hk (by simp[aA.cX,Value.ownBlock,e])) ?_ (λk fe=>?_) λk hk=>.inl (by simpa[aA.cX]using hk))
 ·refine⟨by rw[nJ],.inr ⟨nd,cap,_,by simp,amz _,setRow_heap w nd _ _ e _ eO,by simpa using p3,rW,by simpa[II]using eh,?_⟩⟩;have BR:cur.toList=xs.flatMap enc++cur.toList.drop (xs.length* sz):=by rw[<-gu,List.take_append_drop]
  have Jo:xs=xs.take i++(xs.getD i default::xs.drop (i+1)):=by rw[aml,amp hi];simp
  have vz:xs.set i Dn=xs.take i++(Dn::xs.drop (i+1)):=by rw[List.set_eq_take_append_cons_drop,amo hi]
  have vt:xs.flatMap enc=(xs.take i).flatMap enc++enc (xs.getD i default)++(xs.drop (i+1)).flatMap enc:=by
   conv=>lhs;rw[Jo]
   rw[am4,am0,amJ]
  have kC:((xs.take i).flatMap enc).length=i* sz:=by rw[nJ,amX,aoA (by omega)]
  have c6:lay cur.toList (i* sz+o) vs=(xs.set i Dn).flatMap enc++cur.toList.drop (xs.length* sz):=by
   rw[vz,am4,am0,hd];conv=>lhs;rw[BR,vt,amJ,<-kC]
   rw[abo _ _ _ _ _ (by rw[he.len];omega)];simp[amJ]
  rw[c6,<-nJ (enc:=enc) (xs.set i _)];exact List.take_left
 have:=hw.fw _ (amF hk) k (by simpa[aA.cX]using fe);simpa using this
theorem MM{t ty e sz b:Nat}{z:Value}(w:World)[aE:fz P t e][cP:dh P e sz b z](pD:z.cells.size=sz)(eh:0<sz) {v:Value} {n:Nat} {xs:List Value} (oY:w.ownsRow 0 e sz v n xs) {a:Option Addr} {m c:Nat} {news:List Value} (aB:news.length=m* sz) (ug:∀A,a=some A->∀j u,news[j]?=some u->w.cell? (A.add j)=some u) (IP:a=none->m=0) (h1:∀u,u∈news->u.oneCell'=true) (BK:n+m<=maxLen) (zE:(n+m)* b<=140737488355328): ∃dL I,(Builtin.append_ #[t,t] ty #[v,.slice a m c]).run P w=.ok dL I/\I.ownsRow 0 e sz dL (n+m) (xs++news)/\w.grownBy I v.ownBlock/\ (∀k,k∈dL.ownBlock.toList->k∈v.ownBlock.toList\/w.heap.size<=k)/\(∀k,k∈dL.ownBlock.toList->k<I.heap.size)/\(m=0->dL=v):=by
 obtain⟨i,hi,ma,oV,re⟩:=cP.h;subst ma;have aj4:n+m<=9223372036854775807:=by simp only[maxLen]at BK;omega
 have same:m=0->∃cap ky,v=.slice ky n cap/\n<=cap:=by
  intro _;rcases oY.2 with⟨rfl,rfl⟩ | ⟨g,cap,cur,rfl,_,_,p3,_⟩
  ·exact⟨0,none,rfl,amK _⟩
  exact⟨cap,_,rfl,p3⟩
 have fw:∀k,k∈v.ownBlock.toList->k<w.heap.size:=by
  intro k hk;rcases oY.2 with⟨rfl,rfl⟩ | ⟨g,cap,cur,rfl,_,ay,_⟩
  ·simp[Value.ownBlock]at hk
  simp[Value.ownBlock]at hk;subst hk;rcases amY k w.heap.size with cr | cr
  ·exact cr
  simp[anu cr]at ay
 by_cases hm:m=0
 ·obtain⟨cap,ky,aw,p3⟩:=same hm;subst hm;have ye:news=[]:=amO (by simpa using aB);subst ye;refine⟨v,w,?_,by simpa using oY,⟨rfl,rfl,rfl,amK _,λ_ _ _=>rfl⟩,λk hk=>.inl hk,fw,λ_=>rfl⟩;subst aw;have hf:(Builtin.firstCells i.size 0 (.slice a 0 c)).run P w=.ok #[] w:=by
   cases a with
   | none=>simp[Builtin.firstCells]
   | some A=>simpa using run_firstCells_some (P:=P) w i.size 0 A 0 c [] (by simp) (by simp)
  cases ky with
  | none=>simp[Builtin.append_,run_underlying aE.h,sizeOf,typeInfo,hi,Builtin.lenOf,p3,hf]
  | some A=>simp[Builtin.append_,run_underlying aE.h,sizeOf,typeInfo,hi,Builtin.lenOf,p3,hf,storeCells]
 obtain⟨A,rfl⟩:∃A,a=some A:=by
  cases a with
  | none=>exact absurd (IP rfl) hm
  | some A=>exact⟨A,rfl⟩
 obtain⟨dL,I,aH,bm,ay,_⟩:=run_append_own (P:=P) w 0 t ty e i z i.size b aE.h hi re rfl oV pD eh v n xs oY A m c news aB (ug A rfl) h1 BK zE (amz _);have aar:∀k,k∈dL.ownBlock.toList->k<I.heap.size:=by
  intro k hk;rcases bm.2 with⟨rfl,_⟩ | ⟨g,cap,cur,rfl,_,YL,_⟩
  ·simp[Value.ownBlock]at hk
  simp[Value.ownBlock]at hk;subst hk;rcases amY k I.heap.size with cr | cr
  ·exact cr
  simp[anu cr]at YL
 refine⟨dL,I,aH,bm,ay,?_,aar,λh=>absurd h hm⟩;intro k hk;rcases oY.2 with⟨rfl,rfl⟩ | ⟨g,cap,cur,rfl,ajo,Iw,p3,rW,fC,aj5⟩
 ·have hx:xs=[]:=amO (by simpa using oY.1);have tj:=run_append_nil (P:=P) w t ty e i z aE.h hi re A m c news aB (ug A rfl) (by omega) (by omega) (by have hb:=zE;simp only[aoO]at hb;rw[oV];omega);rw[tj]at aH;injection aH with aH _;subst aH;simp[Value.ownBlock]at hk;exact .inr (by omega)
 by_cases w3:n+m<=cap
 ·have rb:n* i.size+news.length<=cur.size:=by rw[aB,fC,<-aob];exact anh _ w3
  have tj:=run_append_room (P:=P) w t ty e i aE.h hi g n cap cur Iw A m c news aB (ug A rfl) h1 w3 rb;rw[tj]at aH;injection aH with aH _;subst aH;exact .inl hk
 have holds:∀j u,xs[j]?=some u->w.cell? ((⟨g,0,none⟩:Addr).add j)=some u:=oY.cells (g:=g) rfl;have tj:=run_append_grow (P:=P) w t ty e i z aE.h hi re ⟨g,0,none⟩ n cap xs oY.1 holds A m c news aB (ug A rfl) (by omega) (by omega) (by rw[oV];exact growslice_fits (by omega) zE);rw[tj]at aH;injection aH with aH _;subst aH;simp[Value.ownBlock]at hk;exact .inr (by omega)
end
theorem zv{aQ:Type}{enc:aQ->List Value}{sz:Nat}[he:ee enc sz]:∀(xs:List aQ) (j:Nat) (u:Value),(xs.flatMap enc)[j]?=some u->∃i x o,xs[i]?=some x/\(enc x)[o]?=some u/\j=i* sz+o
 | [],j,u,h=>by simp at h
 | x::xs,j,u,h=>by
  rw[am0]at h;by_cases ad:j<sz
  ·rw[amM (by rw[he.len];exact ad)]at h;exact⟨0,x,j,rfl,h,by omega⟩
  rw[amL (by rw[he.len];omega),he.len]at h;obtain⟨i,y,o,h1,h2,h3⟩:=zv xs _ u h;exact⟨i+1,y,o,by simpa using h1,h2,by rw[aoo];omega⟩
theorem aV.flat{aQ:Type}{S:Nat->Prop}{w:World}{enc:aQ->List Value}{sz n cap:Nat}{a:Option Addr}{xs:List aQ}[he:ee enc sz](h:aV S w enc sz (.slice a n cap) xs):∀A,a=some A->∀j u,(xs.flatMap enc)[j]?=some u->w.cell? (A.add j)=some u:=by rintro A rfl j u ad;obtain⟨i,x,o,h1,h2,rfl⟩:=zv xs j u ad;have:=h.cell i x o u h1 h2;simpa only[gI,add_add]using this
theorem UM{a:Option Addr}{n:Nat}(h:0<n->a.isSome=true)(au:a=none):n=0:=by
 rcases Nat.eq_zero_or_pos n with h0 | h0
 ·exact h0
 have:=h h0;rw[au]at this;cases this
class n5{aQ:Type}(enc:aQ->List Value)(ok:outParam (aQ->Prop)):Prop where
 one:∀x,ok x->∀u,u∈enc x->u.oneCell'=true
section
variable {P:Program} {N:Nat} {tm:dU} {A:World->Prop} {bs:List dr} {H:List aA} {Q:Exit->Act->World->Prop} {K:Act->World->Prop} {dst:Option Tmp} {c:Bool}
theorem aV.Td{aQ:Type}{S:Nat->Prop}{B w:World}{enc:aQ->List Value}{sz:Nat}{v:Value}{xs:List aQ}[he:ee enc sz](h:aV S B enc sz v xs)(hA:ks S B w):aV S w enc sz v xs:=h.mono hA (λ_ _ h=>h) λx _=>he.ne x
theorem OA{aQ:Type}{enc:aQ->List Value}{dec:List Value->aQ}{ok:aQ->Prop}{d t e sz b k:Nat}{z v u:Value}{x y:Operand}{xs ys:List aQ}[aE:fz P t e][cP:dh P e sz b z][jw P e enc dec][he:ee enc sz][h1:n5 enc ok] (hx:bo tm true x v) (aR:bo tm true y u) (hk:H[k]?=some (.own v e sz enc xs)) (aY:Nat.beq z.cells.size sz=true) (ZH:∀w,Mem bs H w->∃a c,u=.slice a ys.length c/\(a=none->ys.length=0)/\∀A,a=some A->∀j q,(ys.flatMap enc)[j]?=some q->w.cell? (A.add j)=some q) (hok:∀y,y∈ys->ok y) (bG:(xs.length+ys.length)* b<=140737488355328/\xs.length+ys.length<=9223372036854775807) (hd:Nat.blt d N=true) (ab:∀dL,aD dL->cL N K ((d,true,dL)::tm) (Mem bs (H.set k (.own dL e sz enc (xs++ys))))):gq P N (.call {callee:=.builtin .append,args:=#[x,y],argTypes:=#[t,t]}) (some d) Q tm (Mem bs H) K:=by
 intro a w ty pos cR g ag hw;unfold Oper.wp;obtain⟨dI,xF,rfl,IP,Ez⟩:=ZH w hw;have oY:=hw.own _ (amF hk);obtain⟨dL,I,aH,bm,ay,hf,hi,_⟩:=MM (P:=P) (t:=t) (ty:=ty) (a:=dI) (c:=xF) w (anS aY) he.pos oY (m:=ys.length) (news:=ys.flatMap enc) (nJ ys) Ez IP (λq aZ=>by obtain⟨y,aR,aZ⟩:=ana.1 aZ;exact h1.one y (hok y aR) q aZ) (by unfold maxLen;omega) bG.1
 have vx:(execOp a.eval ⟨some d,.call {callee:=.builtin .append,args:=#[x,y],argTypes:=#[t,t]},ty,pos,cR,g⟩).run P w=.ok (.value dL) I:=by simp[execOp,resolve,invoke,builtin,hx.get ag rfl,aR.get ag rfl,aH]
 rw[vx];have gZ:aD dL:=by
  rcases bm.2 with⟨rfl,_⟩ | ⟨g,cap,cur,rfl,_⟩
  ·exact⟨_,_,_,rfl⟩
  exact⟨_,_,_,rfl⟩
 refine ab dL gZ _ _ (by simpa using ag.put (anm.mp hd) true _) ?_
 refine hw.rC hk ay.os ay.tape ay.output ay.size (λq aZ bh=>ay.block q aZ λe=>bh ?_) ?_ hi hf
 ·simp only[aA.cX,Option.mem_toList];exact e.symm
 show I.ownsRow 0 e sz dL (xs++ys).length ((xs++ys).flatMap enc);rw[ams,am4];exact bm
theorem tX{aQ:Type}{enc:aQ->List Value}{dec:List Value->aQ}{ok:aQ->Prop}{d t e sz b:Nat}{z v u:Value}{x y:Operand}{xs:List aQ}{S:Nat->Prop}{B:World}[aE:fz P t e][cP:dh P e sz b z][jw P e enc dec][he:ee enc sz][h1:n5 enc ok](k:Nat) (ys:List aQ) (hk:H[k]?=some (.own v e sz enc xs)) (hx:bo tm true x v:=by exact b7) (aR:bo tm true y u:=by exact b7) (h:aV S B enc sz u ys:=by assumption) (hB:(B,S)∈bs:=by exact ox) (aY:Nat.beq z.cells.size sz=true:=by rfl) (hok:∀y,y∈ys->ok y:=by(intros;trivial)) (bG:(xs.length+ys.length)* b<=140737488355328/\xs.length+ys.length<=9223372036854775807:=by omega) (hd:Nat.blt d N=true:=by rfl) (ab:∀dL,aD dL->cL N K ((d,true,dL)::tm) (Mem bs (H.set k (.own dL e sz enc (xs++ys))))):gq P N (.call {callee:=.builtin .append,args:=#[x,y],argTypes:=#[t,t]}) (some d) Q tm (Mem bs H) K:=
 OA (dec:=dec) (ok:=ok) hx aR hk aY (λw hw=>by obtain⟨a,n,cap,hu,bh,_,_,fR⟩:=h.is;subst hu;subst bh;exact⟨a,cap,rfl,UM fR,(h.Td (hw.base _ hB)).flat⟩) hok bG hd ab
theorem RG{aQ:Type}{enc:aQ->List Value}{sz tt n cap:Nat}{a:Option Addr}{xs:List aQ}{w:World}(h:(aA.own (.slice a n cap) tt sz enc xs).ok w):∀A,a=some A->∀j u,(xs.flatMap enc)[j]?=some u->w.cell? (A.add j)=some u:=by
 rintro A rfl j u ad;have⟨_,h2⟩:=h;rcases h2 with⟨aw,_⟩ | ⟨g,DN,cur,aw,_⟩
 ·cases aw
 injection aw with h1 h2 h3;injection h1 with h1;subst h1;exact World.ownsRow.cells (g:=g) h rfl j u ad
theorem e6{aQ:Type}{enc:aQ->List Value}{dec:List Value->aQ}{ok:aQ->Prop}{d t e sz b tt:Nat}{z v u:Value}{x y:Operand}{xs ys:List aQ}[aE:fz P t e][cP:dh P e sz b z][jw P e enc dec][he:ee enc sz][h1:n5 enc ok](k:Nat) (hx:bo tm true x v:=by exact b7) (aR:bo tm true y u:=by exact b7) (hk:H[k]?=some (.own v e sz enc xs)) (hm:aA.own u tt sz enc ys∈H:=by exact ox) (aY:Nat.beq z.cells.size sz=true:=by rfl) (hok:∀y,y∈ys->ok y:=by(intros;trivial)) (bG:(xs.length+ys.length)* b<=140737488355328/\xs.length+ys.length<=9223372036854775807:=by omega) (hd:Nat.blt d N=true:=by rfl) (ab:∀dL,aD dL->cL N K ((d,true,dL)::tm) (Mem bs (H.set k (.own dL e sz enc (xs++ys))))):gq P N (.call {callee:=.builtin .append,args:=#[x,y],argTypes:=#[t,t]}) (some d) Q tm (Mem bs H) K:=
 OA (dec:=dec) (ok:=ok) hx aR hk aY (λw hw=>by have bm:=hw.own _ hm;obtain⟨a,cap,hu,fR,_⟩:=si bm;subst hu;exact⟨a,cap,rfl,UM fR,RG bm⟩) hok bG hd ab
inductive sG(tm:dU)(c:Bool):List (Nat×Operand)->List (Nat×List Value)->Prop where
 | nil:sG tm c [] []
 | cons {i:Nat} {x:Operand} {v:Value} {cs:List Value} {gD:List (Nat×Operand)} {dF:List (Nat×List Value)}:bo tm c x v->v.cells=cs.toArray->sG tm c gD dF->sG tm c ((i,x)::gD) ((i,cs)::dF)
def wR(place:Nat->Option (Nat×Nat)):List Value->List (Nat×List Value)->Option (List Value)
 | cells,[]=>some cells
 | cells,(i,vs)::rest=>
  match place i with
  | none=>none
  | some (off,size)=>bif Nat.beq vs.length size&&Nat.ble (off+vs.length) cells.length then wR place (lay cells off vs) rest else none
theorem af9(X D:List Value)(v:Value)(vs:List Value)(p:Nat)(Es:X.length=p): (X++v::D).take (p+1)++vs++(X++v::D).drop (p+1+vs.length)=X++v::vs++D.drop vs.length:=by
 subst Es;rw[List.take_append,aoK (by omega:X.length<=X.length+1),show X.length+1-X.length=1 from by omega,List.drop_append,an9 (by omega:X.length<=X.length+1+vs.length),show X.length+1+vs.length-X.length=vs.length+1 from by omega]
 simp
theorem Ow:∀(vs:List Value) (off k:Nat) (cs:Array Value),off+k+vs.length<=cs.size-> (vs.zipIdx k).foldl (λ(cs:Array Value) (p:Value×Nat)=>cs.setIfInBounds (off+p.2) p.1) cs=(lay cs.toList (off+k) vs).toArray
 | [],off,k,cs,_=>by simp[lay]
 | v::vs,off,k,cs,h=>by
  rw[List.zipIdx_cons,anJ];simp only[amI]at h;rw[Ow vs off (k+1) _ (by simp;omega)];simp only[Array.toList_setIfInBounds,lay];congr 1;have dn:off+k<cs.toList.length:=by simp;omega
  rw[show off+(k+1)=off+k+1 from by omega,List.set_eq_take_append_cons_drop,amo dn,af9 _ _ v vs (off+k) (by rw[amX];omega),List.drop_drop,amI]
  congr 2;omega
theorem HK(place:Nat->Option (Nat×Nat)):∀(gD:List (Nat×Value)) (dF:List (Nat×List Value)) (cells:List Value) (out:List Value),gD.map (λp=>(p.1,p.2.cells))=dF.map (λq=>(q.1,q.2.toArray))->wR place cells dF=some out->Instr.fill place cells.toArray gD=some out.toArray
 | [],dF,cells,out,hm,h=>by
  cases dF with
  | nil=>simp[wR]at h;subst h;rfl
  | cons q dF=>simp at hm
 | p::gD,dF,cells,out,hm,h=>by
  cases dF with
  | nil=>simp at hm
  | cons q dF=>
   obtain⟨i,v⟩:=p;obtain⟨j,vs⟩:=q;simp only[am8,aoB,Prod.mk.injEq]at hm;obtain⟨⟨rfl,aw⟩,hm⟩:=hm;simp only[wR]at h;simp only[Instr.fill];cases hp:place i with
   | none=>rw[hp]at h;cases h
   | some os=>
    obtain⟨off,size⟩:=os;rw[hp]at h;simp only at h⊢;cases ai:(Nat.beq vs.length size&&Nat.ble (off+vs.length) cells.length)with
    | false=>rw[ai]at h;cases h
    | true=>
     rw[ai]at h;simp only[ami]at ai;have h1:=anS ai.1;have h2:=anm.mp ai.2;rw[aw];simp only[an2,h1,ne_eq,aoX,aoQ,anU,amj];rw[amn (by simp;omega)];have:=Ow vs off 0 cells.toArray (by simpa using h2);simp only[Nat.add_zero]at this;have e:(vs.toArray.zipIdx.foldl (λ(cs:Array Value) (p:Value×Nat)=>cs.setIfInBounds (off+p.2) p.1) cells.toArray)=(lay cells off vs).toArray:=by rw[<-this];simp
     rw[e];exact HK place gD dF _ out hm h
end
section
variable {P:Program} {N:Nat} {tm:dU} {A:World->Prop} {bs:List dr} {H:List aA} {Q:Exit->Act->World->Prop} {K:Act->World->Prop} {dst:Option Tmp} {c:Bool}
class iX(P:Program)(t:TypeId)(z:outParam Value)(places:outParam (List (Nat×Nat))):Prop where
 h:∀parts w,(Instr.build t parts).run P w=match Instr.fill (λi=>places[i]?) z.cells parts.toList with | some cells=>.ok (.agg cells) w | none=>.halt (.stuck "build: no such field, or a part of the wrong size") w
theorem S1{α β:Type}(f:α->Sem β)(g:α->β)(w:World):∀(l:List α),(∀x,x∈l->(f x).run P w=.ok (g x) w)->(l.mapM f).run P w=.ok (l.map g) w
 | [],_=>by simp
 | x::l,h=>by rw[List.mapM_cons];simp[h x (by simp),S1 f g w l λy aR=>h y (by simp[aR])]
theorem iX.of{t:TypeId}{fG:Array Field}{z:Value}{places:List (Nat×Nat)}(hu:P.underlying t=some (.struct fG))(aY:(P.info? t).bind (·.zero)=some z:=by kernel_rfl) (hp:fG.toList.map (λf=>(P.info? f.type).map λi=>(f.offset,i.size))=places.map some:=by kernel_rfl):iX P t z places:=by
 refine⟨λparts w=>?_⟩;obtain⟨i,hi,re⟩:=Option.bind_eq_some_iff.1 aY;have hm:(fG.mapM λf=>(Functor.map (Prod.mk f.offset) (sizeOf f.type):Sem (Nat×Nat))).run P w=.ok places.toArray w:=by
  rw[Array.mapM_eq_mapM_toList];have h1:(fG.toList.mapM λf=>(Functor.map (Prod.mk f.offset) (sizeOf f.type):Sem (Nat×Nat))).run P w=.ok (fG.toList.map λf=>(f.offset,P.cellsOf f.type)) w:=by
   refine S1 _ _ w _ λf hf=>?_;have:(P.info? f.type).map (λi=>(f.offset,i.size))∈places.map some:=by rw[<-hp];exact List.mem_map_of_mem hf
   obtain⟨p,_,uh⟩:=am1.1 this;obtain⟨j,ad,_⟩:=aos.1 uh.symm;simp[sizeOf,typeInfo,ad,Program.cellsOf]
  have h2:(fG.toList.map λf=>(f.offset,P.cellsOf f.type))=places:=by
   have:∀(l:List Field) (gD:List (Nat×Nat)),l.map (λf=>(P.info? f.type).map λi=>(f.offset,i.size))=gD.map some->l.map (λf=>(f.offset,P.cellsOf f.type))=gD:=by
    intro l
    induction l with
    | nil=>intro gD h;cases gD with | nil=>rfl | cons _ _=>simp at h
    | cons f l bH=>
     intro gD h;cases gD with
     | nil=>simp at h
     | cons p gD=>simp only[am8,aoB]at h⊢;obtain⟨j,ad,he⟩:=aos.1 h.1;exact⟨by rw[<-he];simp[Program.cellsOf,ad],bH gD h.2⟩
   exact this _ _ hp
  simp[h1,h2]
 simp[Instr.build,zeroValue,typeInfo,hi,re,run_underlying hu,hm];split
 ·rename_i cells h;rw[h];simp
 rename_i h;cases ai:Instr.fill (λi=>places[i]?) z.cells parts.toList with
 | none=>simp
 | some cells=>exact absurd ai (h cells)
theorem sG.get{a:Act}{gD:List (Nat×Operand)}{dF:List (Nat×List Value)}(h:sG tm c gD dF)(ag:iq N tm a)(ai:c=true): (gD.map λp=>(p.1,a.eval p.2)).map (λp=>(p.1,p.2.cells))=dF.map (λq=>(q.1,q.2.toArray)):=by
 induction h with
 | nil=>rfl
 | cons h1 h2 _ bH=>simp only[am8,h1.get ag ai,h2,bH]
theorem F4{t:TypeId}{z:Value}{places:List (Nat×Nat)}{gD:List (Nat×Operand)}{dF:List (Nat×List Value)}{zs out:List Value}[bp:iX P t z places] (hp:sG tm c gD dF:=by repeat (first | exact .nil | apply sG.cons ⟨_,rfl,λ_=>rfl⟩ (by exact sW) | apply sG.cons ⟨_,rfl,λh=>h⟩ (by exact sW))) (aY:z.cells=zs.toArray:=by rfl) (hf:wR (λi=>places[i]?) zs dF=some out:=by rfl):bR P N (.build t gD.toArray) tm A c (.agg out.toArray):=
 λai a w _ _ _ _ _ cn hw=>by
  simp only[execOp];refine hG ?_;rw[bp.h,aY];have h2:=HK (λi=>places[i]?) (gD.map λp=>(p.1,a.eval p.2)) dF zs out (hp.get cn ai) hf;have e:(Array.map (λ(x:Nat×Operand)=>match x with | (i,x)=>(i,a.eval x)) gD.toArray).toList=gD.map λp=>(p.1,a.eval p.2):=by simp
  rw[e,h2]
def Bc{α:Type}(p:α->Prop):List α->Prop
 | []=>True
 | x::l=>p x/\Bc p l
theorem Bc.mem{α:Type}{p:α->Prop}:∀{l:List α},Bc p l->∀x,x∈l->p x
 | [],_,x,h=>by cases h
 | y::l,h,x,hx=>by
  rcases amG.1 hx with rfl | hx
  ·exact h.1
  exact Bc.mem h.2 x hx
theorem Oh(sz:Nat):∀(dF:List (Nat×List Value)) (i:Nat) (pre rest:List Value),dF.map (·.1)=List.range' i dF.length->(∀q,q∈dF->q.2.length=sz)->pre.length=i* sz->rest.length=dF.length* sz-> wR (λi=>some (i* sz,sz)) (pre++rest) dF=some (pre++(dF.map (·.2)).flatten)
 | [],i,pre,rest,_,_,_,aH=>by have:rest=[]:=amO (by simpa using aH);subst this;simp[wR]
 | q::dF,i,pre,rest,hi,aB,hp,aH=>by
  obtain⟨j,vs⟩:=q;simp only[am8,amI,List.range'_succ,aoB]at hi;obtain⟨rfl,hi⟩:=hi;have aw:=aB (j,vs) (by simp);simp only at aw;rw[amI,aoo]at aH;have ai:(Nat.beq vs.length sz&&Nat.ble (j* sz+vs.length) (pre++rest).length)=true:=by rw[ami];exact⟨by rw[aw];exact Nat.beq_refl _,anm.mpr (by rw[ams];omega)⟩
  simp only[wR,ai,cond_true];have e:lay (pre++rest) (j* sz) vs=(pre++vs)++rest.drop sz:=by unfold lay;rw[<-hp,List.take_left,List.drop_append,an9 (by omega:pre.length<=pre.length+vs.length),anf,show pre.length+vs.length-pre.length=sz from by omega]
  rw[e,Oh sz dF (j+1) (pre++vs) (rest.drop sz) hi (λq aZ=>aB q (by simp[aZ])) (by rw[ams,aoo];omega) (by rw[anD];omega)];simp[amJ]
theorem Ot{aQ:Type}{enc:aQ->List Value}{dec:List Value->aQ}:∀(dF:List (Nat×List Value)),(∀q,q∈dF->enc (dec q.2)=q.2)->(dF.map λq=>dec q.2).flatMap enc=(dF.map (·.2)).flatten
 | [],_=>rfl
 | q::dF,h=>by rw[am8,am0,am8,List.flatten_cons,h q (by simp),Ot dF λq aZ=>h q (by simp[aZ])]
theorem eA{aQ:Type}{d t e sz b len:Nat}{z:Value}{gD:List (Nat×Operand)}{dF:List (Nat×List Value)}[aE:fz P t e][cP:dh P e sz b z](enc:aQ->List Value) (dec:List Value->aQ)[jw P e enc dec][he:ee enc sz](hp:sG tm true gD dF:=by repeat (first | exact .nil | apply sG.cons ⟨_,rfl,λ_=>rfl⟩ (by exact sW) | apply sG.cons ⟨_,rfl,λh=>h⟩ (by exact sW))) (hi:dF.map (·.1)=List.range' 0 len:=by rfl) (aZ:Bc (λq=>enc (dec q.2)=q.2) dF:=by repeat (first | exact trivial | refine⟨rfl,?_⟩)) (eh:Nat.ble (len* sz) 16777216=true:=by rfl) (hd:Nat.blt d N=true:=by rfl) (ab:∀v,aD v->cL N K ((d,true,v)::tm) (Mem bs (.own v e sz enc (dF.map λq=>dec q.2)::H))):gq P N (.buildSlice t len gD.toArray) (some d) Q tm (Mem bs H) K:=by
 intro a w ty pos cR g ag hw;unfold Oper.wp;have r9:dF.length=len:=by have:=amC List.length hi;simpa using this
 subst r9;have Zs:∀q,q∈dF->q.2.length=sz:=λq vw=>by rw[<-aZ.mem q vw,he.len]
 obtain⟨i,hy,ma,oV,re⟩:=cP.h;subst ma;have aH:∃o:Array Value,o.toList=(dF.map (·.2)).flatten/\(execOp a.eval ⟨some d,.buildSlice t dF.length gD.toArray,ty,pos,cR,g⟩).run P w=.ok (.value (.slice (some ⟨w.heap.size,0,none⟩) dF.length dF.length)) (w.alloc (.cells o e)):=by
  have key:∀zs:Array Value,zs.size=dF.length* i.size->Instr.fill (λj=>some (j* i.size,i.size)) zs (gD.map λp=>(p.1,a.eval p.2))=some ((dF.map (·.2)).flatten).toArray:=by intro zs pD;have:=Oh i.size dF 0 [] zs.toList (by simpa using hi) Zs (by simp) (by simpa using pD);simp only[anf]at this;have:=HK _ (gD.map λp=>(p.1,a.eval p.2)) dF zs.toList _ (hp.get ag rfl) this;simpa using this
  refine⟨((dF.map (·.2)).flatten).toArray,by simp,?_⟩;have XS:¬(16777216<dF.length* i.size):=by have:=anm.mp eh;omega
  by_cases h0:dF.length* i.size=0
  ·have hk:=key #[] (by simp[h0]);have qu:∀f:Nat->Value,Array.map f (Array.range 0)=#[]:=λf=>by simp[Array.range]
   simp[execOp,Instr.buildSlice,run_underlying aE.h,sizeOf,typeInfo,hy,h0,newRow,hk,qu]
  have hk:=key ((Array.range (dF.length* i.size)).map (z.cells[· % z.cells.size]!)) (by simp);simp[execOp,Instr.buildSlice,run_underlying aE.h,sizeOf,typeInfo,hy,h0,XS,zeroValue,re,newRow,hk]
 obtain⟨o,bm,aH⟩:=aH;rw[aH];have vt:(dF.map λq=>dec q.2).flatMap enc=(dF.map (·.2)).flatten:=Ot dF aZ.mem;have bG:((dF.map (·.2)).flatten).length=dF.length* i.size:=by rw[<-vt,nJ,amD]
 refine ab _ ⟨_,_,_,rfl⟩ _ _ (by simpa using ag.put (anm.mp hd) true _) ?_
 refine hw.new rfl rfl rfl (by simp) (λk hk=>heap_alloc_old w _ hk) ?_ (λk hk=>?_) λk hk=>?_
 ·refine⟨by rw[nJ],.inr ⟨w.heap.size,dF.length,o,by simp,amz _,heap_alloc_new w _,by simp,?_,by rw[<-aop,bm,bG],?_⟩⟩
  ·have:=anm.mp eh;have h1:dF.length* 1<=dF.length* i.size:=Nat.mul_le_mul_left _ he.pos;unfold maxLen;omega
  rw[vt,bm,amD,<-bG,amU]
 ·simp only[aA.cX,Value.ownBlock,Option.toList,amv]at hk;subst hk;simp
 simp only[aA.cX,Value.ownBlock,Option.toList,amv]at hk;omega
class aS(P:Program)(k:FuncId):Prop where
 h:∃fn,P.funcs[k]?=some fn/\(fn.name== "runtime.NumGoroutine")=false/\fn.body.isNone=false
theorem aS.of{P:Program}{k:Nat}{fn:Func}(h:P.funcs[k]?=some fn)(h1:(fn.name== "runtime.NumGoroutine")=false:=by kernel_rfl)(h2:fn.body.isNone=false:=by kernel_rfl):aS P k:=⟨⟨fn,h,h1,h2⟩⟩
def qm(w:World)(Φ:Nat->Value->World->Prop):Ending->World->Prop:=λe I=>∃v,e=.returned v/\Below w.heap.size w I/\Φ w.heap.size v I
def bj(P:Program)(k:FuncId)(args:List Value)(w:World)(Φ:Nat->Value->World->Prop):Prop:=Calls P k args.toArray w (qm w Φ)
theorem zu{k:FuncId}{f:Operand}{xs:List Operand}{ts:Array TypeId}{first cap:List Value}{vs:List Value}{a:Act}{w:World}{d:Option Tmp}{ty:TypeId}{pos:String}{cR:Array Edge}{g:Option (Nat×Bool)}[hF:aS P k] (hf:a.eval f=.func (.func k) first.toArray cap.toArray) (hxs:xs.map a.eval=vs): (execOp a.eval ⟨d,.call {callee:=.value f,args:=xs.toArray,argTypes:=ts},ty,pos,cR,g⟩).run P w=.ok (.enter k (first++vs++cap).toArray) w:=by
 obtain⟨fn,h1,h2,h3⟩:=hF.h;have bF:fn.name≠ "runtime.NumGoroutine" :=by simpa using h2
 have dw:fn.body≠none:=by intro h;rw[h]at h3;cases h3
 simp only[execOp,resolve,hf,Deferred.ofValue];simp[invoke,callFunc,h1,bF,dw,hxs]
theorem xQ{tm:dU}{c:Bool}{xs:List Operand}{vs:List Value}(h:jX tm c xs vs:=by first | exact .nil | exact .cons ⟨_,rfl,λ_=>rfl⟩ .nil | exact .cons ⟨_,rfl,λ_=>rfl⟩ (.cons ⟨_,rfl,λ_=>rfl⟩ .nil) | (repeat (first | exact .nil | apply jX.cons ⟨_,rfl,λ_=>rfl⟩))):jX tm c xs vs:=h
theorem iJ{d k:Nat}{f:Operand}{xs:List Operand}{ts:Array TypeId}{first cap vs:List Value}{Φ:Nat->Value->World->Prop}[hF:aS P k] (hf:bo tm true f (.func (.func k) first.toArray cap.toArray):=by exact b7) (hxs:jX tm true xs vs:=by exact xQ) (hd:Nat.blt d N=true:=by rfl) (a7:∀w,Mem bs H w->bj P k (first++vs++cap) w Φ) (ab:∀v n a6,Φ n v a6->n<=a6.heap.size->cL N K ((d,true,v)::tm) (Mem ((a6,Fr n)::bs) H)): gq P N (.call {callee:=.value f,args:=xs.toArray,argTypes:=ts}) (some d) Q tm (Mem bs H) K:=by
 intro a w ty pos cR g ag hw;unfold Oper.wp;rw[zu (hf.get ag rfl) (hxs.get ag rfl)];simp only[Oper.upon];refine Calls.mono (a7 w hw) λe I h=>?_;obtain⟨v,rfl,hb,qC⟩:=h;refine ab v w.heap.size I qC hb.size _ _ (by simpa using ag.put (anm.mp hd) true v) ?_
 have hm:=hw.ext hb;refine⟨λB hB=>?_,hm.own,hm.fw,λB hB e he k hk ct=>?_,hm.h9⟩
 ·rcases amG.1 hB with rfl | hB
  ·exact ks.refl _ _
  exact hm.base B hB
 rcases amG.1 hB with rfl | hB
 ·have:=hw.fw e he k hk;simp only[Fr]at ct;omega
 exact hm.apart B hB e he k hk ct
def qO:Nat->List Value->dU
 | _,[]=>[]
 | i,v::r=>(i,true,v)::qO (i+1) r
theorem QD:∀(l:List Value) (i d:Nat) (c:Bool) (v:Value),jq (qO i l) d=some (c,v)->c=true/\i<=d/\l[d-i]?=some v
 | [],i,d,c,v,h=>by cases h
 | u::l,i,d,c,v,h=>by
  simp only[qO,jq]at h;cases hb:Nat.beq i d with
  | true=>rw[hb,cond_true]at h;injection h with h;injection h with h1 h2;have:=anS hb;subst this;exact⟨h1.symm,amK _,by simp[h2]⟩
  | false=>rw[hb,cond_false]at h;obtain⟨h1,h2,h3⟩:=QD l (i+1) d c v h;exact⟨h1,by omega,by rw[show d-i=d-(i+1)+1 from by omega];simpa using h3⟩
theorem enter{k:FuncId}{fn:Func}{code:Code}{args:List Value}{w:World}{R:Ending->World->Prop}(hf:P.funcs[k]?=some fn)(iK:fn.ntmps=N)(hb:fn.body=some code)(bG:Nat.ble args.length N=true) (A:World->Prop) (hA:A w) (h:cL N (code.wp P (bodyPost P fn R)) (qO 0 args) A):Calls P k args.toArray w R:=by
 refine calls_of_wp hf hb (h _ w ⟨?_,rfl,λd c v aB=>?_⟩ hA)
 ·have:=anm.mp bG;simp[iK];omega
 obtain⟨h1,_,h3⟩:=QD args 0 d c v aB;simp only[Nat.sub_zero]at h3;have hd:d<args.length:=by
  rcases amY d args.length with cr | cr
  ·exact cr
  rw[amR cr]at h3;cases h3
 rw[h1,amo rfl,Array.getElem?_append_left (by simpa using hd)];simpa using h3
theorem FC(w:World):Mem [(w,an)] [] w:=⟨λB hB=>by rw[amv]at hB;subst hB;exact ks.refl _ _,λe he=>(by cases he),λe he=>(by cases he),λB hB e he=>(by cases he),λi j fY gh _ hi=>(by simp at hi)⟩
theorem N0{k:FuncId}{fn:Func}{code:Code}{args:List Value}{w:World}{Φ:Nat->Value->World->Prop}(hf:P.funcs[k]?=some fn)(iK:fn.ntmps=N)(hb:fn.body=some code)(bG:Nat.ble args.length N=true) (h:cL N (code.wp P (bodyPost P fn (qm w Φ))) (qO 0 args) (Mem [(w,an)] [])):bj P k args w Φ:=enter hf iK hb bG _ (FC w) h
theorem ks.below{w I:World}(h:ks an w I):Below w.heap.size w I:=⟨h.os,h.tape,h.output,h.size,λk hk=>h.sR k hk trivial⟩
inductive jf(P:Program)(tm:dU)(H:List aA):List ResultVar->List Value->Prop where
 | nil:jf P tm H [] []
 | tmp {t:Tmp} {v:Value} {rs:List ResultVar} {vs:List Value}:jq tm t=some (true,v)->jf P tm H rs vs->jf P tm H (.tmp t::rs) (v::vs)
 | V7 {t:Tmp} {ty b tt:Nat} {v:Value} {rs:List ResultVar} {vs:List Value} (bp:gO P ty):jq tm t=some (true,.pointer (some ⟨b,0,none⟩))->aA.box b [v] tt∈H->jf P tm H rs vs->jf P tm H (.cell t ty::rs) (v::vs)
 | Hk {t:Tmp} {ty b tt n:Nat} {cs:List Value} {rs:List ResultVar} {vs:List Value} (bp:hI P ty n):jq tm t=some (true,.pointer (some ⟨b,0,none⟩))->aA.box b cs tt∈H->Nat.beq cs.length n=true->jf P tm H rs vs->jf P tm H (.cell t ty::rs) (.agg cs.toArray::vs)
theorem jf.t1{P:Program}{tm:dU}{H:List aA}{t:Tmp}{v:Value}(h:jq tm t=some (true,v)):jf P tm H [.tmp t] [v]:=.tmp h .nil
theorem jf.t2{P:Program}{tm:dU}{H:List aA}{t dt:Tmp}{v dL:Value}(h:jq tm t=some (true,v))(cr:jq tm dt=some (true,dL)):jf P tm H [.tmp t,.tmp dt] [v,dL]:=.tmp h (.tmp cr .nil)
theorem jf.c1{P:Program}{tm:dU}{H:List aA}{t:Tmp}{ty b tt n:Nat}{cs:List Value}[bp:hI P ty n](h:jq tm t=some (true,.pointer (some ⟨b,0,none⟩)))(hm:aA.box b cs tt∈H)(bh:Nat.beq cs.length n=true):jf P tm H [.cell t ty] [.agg cs.toArray]:=.Hk bp h hm bh .nil
def CY(tmps:Array Value):ResultVar->Sem Value
 | .tmp t=>pure (tmps.getD t undef)
 | .cell p t=>do loadVar t (<-asAddr (tmps.getD p undef))
theorem jf.run{a:Act}{w:World}{rs:List ResultVar}{vs:List Value}(h:jf P tm H rs vs)(ag:iq N tm a)(hw:Mem bs H w):(rs.mapM (CY a.tmps)).run P w=.ok vs w:=by
 have aN:∀{t v},jq tm t=some (true,v)->a.tmps.getD t undef=v:=λh=>by have:=ag.get _ _ _ h;rw[Array.getD_eq_getD_getElem?,this];rfl
 induction h with
 | nil=>simp
 | tmp h1 _ bH=>rw[List.mapM_cons];simp[CY,aN h1,bH]
 | V7 bp h1 h2 _ bH=>have ai:=xD (hw.own _ h2) (j:=0) rfl;rw[List.mapM_cons];simp[CY,aN h1,asAddr,loadVar,bp.h,ai,bH]
 | @Hk t ty b tt n cs rs vs bp h1 h2 h3 _ bH=>
  have aB:=run_loadCells_list (P:=P) w ⟨b,0,none⟩ cs (λj v ad=>by
   have:=xD (hw.own _ h2) ad;unfold Addr.add;split
   ·rename_i h0;subst h0;exact this
   simpa using this)
  have:=anS h3;subst this;rw[List.mapM_cons];simp[CY,aN h1,asAddr,loadVar,bp.h,bp.n,aB,bH]
def pI:List Value->Value
 | [v]=>v
 | vs=>.tuple vs.toArray
theorem jf.results{fn:Func}{rs:List ResultVar}{a:Act}{w:World}{vs:List Value}(aH:fn.results=rs.toArray)(h:jf P tm H rs vs)(ag:iq N tm a)(hw:Mem bs H w):(results fn a.tmps).run P w=.ok (pI vs) w:=by
 have h1:=h.run ag hw;have e:Go.results fn a.tmps=(do let vs<-fn.results.mapM (CY a.tmps);pure (if h:vs.size=1 then vs[0]else .tuple vs):Sem Value):=rfl;rw[e,aH,Array.mapM_eq_mapM_toList];simp[h1]
 match vs with
 | []=>rfl
 | [v]=>rfl
 | v::u::r=>simp[pI]
theorem yM{fn:Func}{R:Ending->World->Prop}{rs:List ResultVar}{vs:List Value}(aH:fn.results=rs.toArray)(h:jf P tm H rs vs)(b8:∀I,Mem bs H I->R (.returned (pI vs)) I):gN N .ret (bodyPost P fn R) tm (Mem bs H):=λ_ w ag hw=>⟨ag.Ak,_,h.results aH ag hw,b8 w hw⟩
theorem Kt{fn:Func}{R:Ending->World->Prop}{rs:List ResultVar}{vs:List Value}(aH:fn.results=rs.toArray)(h:jf P tm H rs vs)(b8:∀I,Mem bs H I->R (.returned (pI vs)) I):gN N .normal (bodyPost P fn R) tm (Mem bs H):=λ_ w ag hw=>⟨ag.Ak,_,h.results aH ag hw,b8 w hw⟩
theorem bP{fn:Func}{w:World}{Φ:Nat->Value->World->Prop}{rs:List ResultVar}{vs:List Value}(aH:fn.results=rs.toArray)(h:jf P tm H rs vs)(qC:∀I,Mem bs H I->Φ w.heap.size (pI vs) I)(hB:(w,an)∈bs:=by exact ox): gN N .ret (bodyPost P fn (qm w Φ)) tm (Mem bs H):=yM aH h λI hw=>⟨_,rfl,(hw.base _ hB).below,qC I hw⟩
theorem Mem.hK{aQ:Type}{enc:aQ->List Value}{sz tt:Nat}{v:Value}{xs:List aQ}{w I:World}[he:ee enc sz](hw:Mem bs H I)(hm:aA.own v tt sz enc xs∈H)(hB:(w,an)∈bs):aV (Fr w.heap.size) I enc sz v xs:=by
 have bm:=hw.own _ hm;refine⟨?_,λi x j u hi ad=>CO bm hi ad,λa n cap aw oh=>?_⟩
 ·obtain⟨a,cap,aw,h1,h2,h3⟩:=si bm;exact⟨a,_,cap,aw,rfl,h2,h3,h1⟩
 exact hw.apart _ hB _ hm a.block (by rw[aA.cX,aw];simp[Value.ownBlock]) trivial
theorem Mem.now{aQ:Type}{S:Nat->Prop}{B:World}{enc:aQ->List Value}{sz:Nat}{v:Value}{xs:List aQ}{I:World}[he:ee enc sz](hw:Mem bs H I)(h:aV S B enc sz v xs)(hB:(B,S)∈bs:=by repeat (first | exact List.Mem.head _ | refine List.Mem.tail _ ?_)):aV an I enc sz v xs:=h.mono (hw.base _ hB) (λ_ _ _=>trivial) λx _=>he.ne x
theorem Mem.CK{aQ:Type}{S:Nat->Prop}{B:World}{enc:aQ->List Value}{sz:Nat}{v:Value}{xs:List aQ}{I:World}[he:ee enc sz](hw:Mem bs H I)(h:aV S B enc sz v xs)(hB:(B,S)∈bs:=by repeat (first | exact List.Mem.head _ | refine List.Mem.tail _ ?_)):aV S I enc sz v xs:=h.Td (hw.base _ hB)
theorem Mem.ed{aQ:Type}{enc:aQ->List Value}{sz tt:Nat}{v:Value}{xs:List aQ}{I:World}[he:ee enc sz](hw:Mem bs H I)(hm:aA.own v tt sz enc xs∈H:=by repeat (first | exact List.Mem.head _ | refine List.Mem.tail _ ?_)):aV an I enc sz v xs:=by have bm:=hw.own _ hm;refine⟨?_,λi x j u hi ad=>CO bm hi ad,λa n cap aw oh=>trivial⟩;obtain⟨a,cap,aw,h1,h2,h3⟩:=si bm;exact⟨a,_,cap,aw,rfl,h2,h3,h1⟩
def pR(e:aA):Nat->Prop:=λk=>k∉e.cX
def sJ(e:aA)(w:World)(Ψ:Nat->Value->aA->World->Prop):Ending->World->Prop:=λx I=>∃v e',x=.returned v/\Ψ w.heap.size v e' I/\Mem [(w,pR e)] [e'] I
def ph(P:Program)(k:FuncId)(args:List Value)(e:aA)(w:World)(Ψ:Nat->Value->aA->World->Prop):Prop:=Calls P k args.toArray w (sJ e w Ψ)
theorem Af{e:aA}{w:World}(h:Mem [] [e] w):Mem [(w,pR e)] [e] w:=by
 have:=h.KU;have bC:(λk=>∀x,x∈[e]->k∉x.cX)=pR e:=by funext k;simp[pR]
 rw[bC]at this;exact this
theorem HD{k:FuncId}{fn:Func}{code:Code}{args:List Value}{e:aA}{w:World}{Ψ:Nat->Value->aA->World->Prop}(hf:P.funcs[k]?=some fn)(iK:fn.ntmps=N)(hb:fn.body=some code)(bG:Nat.ble args.length N=true) (hw:Mem [] [e] w) (h:cL N (code.wp P (bodyPost P fn (sJ e w Ψ))) (qO 0 args) (Mem [(w,pR e)] [e])):ph P k args e w Ψ:=enter hf iK hb bG _ (Af hw) h
theorem Mem.only{e:aA}{w:World}(h:Mem bs H w)(he:e∈H):Mem [] [e] w:=by
 refine⟨λB hB=>(by cases hB),λx hx=>?_,λx hx=>?_,λB hB=>(by cases hB),λi j fY gh hN hi ad=>?_⟩
 ·rw[amv]at hx;subst hx;exact h.own _ he
 ·rw[amv]at hx;subst hx;exact h.fw _ he
 cases i with
 | zero=>cases j with
  | zero=>exact absurd rfl hN
  | succ j=>simp at ad
 | succ i=>simp at hi
theorem Mem.pick{B:dr}{e:aA}{w:World}(h:Mem bs H w)(hB:B∈bs)(he:e∈H):Mem [B] [e] w:=by
 refine⟨λGV ta=>?_,(h.only he).own,(h.only he).fw,λGV ta x hx=>?_,(h.only he).h9⟩
 ·rw[amv]at ta;subst ta;exact h.base _ hB
 rw[amv]at ta hx;subst ta;subst hx;exact h.apart _ hB _ he
theorem yH{fn:Func}{e e':aA}{w:World}{Ψ:Nat->Value->aA->World->Prop}{rs:List ResultVar}{vs:List Value}(aH:fn.results=rs.toArray)(h:jf P tm H rs vs)(hB:(w,pR e)∈bs)(he:e'∈H)(ew:∀I,Mem bs H I->Ψ w.heap.size (pI vs) e' I): gN N .ret (bodyPost P fn (sJ e w Ψ)) tm (Mem bs H):=yM aH h λI hw=>⟨_,e',rfl,ew I hw,hw.pick hB he⟩
theorem Mem.acv{e e':aA}{w I:World}{i:Nat}(hw:Mem bs H w)(hi:H[i]?=some e)(hm:Mem [(w,pR e)] [e'] I):Mem bs (H.set i e') I:=by
 have hb:=hm.base _ (.head _);refine hw.rC hi hb.os hb.tape hb.output hb.size (λk hk bh=>hb.sR k hk bh) (hm.own _ (.head _)) (hm.fw _ (.head _)) λk hk=>?_;by_cases nh:k∈e.cX
 ·exact .inl nh
 exact .inr (hm.apart _ (.head _) _ (.head _) k hk nh)
theorem vj{k:Nat}{e:aA}{f:Operand}{xs:List Operand}{ts:Array TypeId}{first cap vs:List Value}{Ψ:Nat->Value->aA->World->Prop}[hF:aS P k](i:Nat)(hi:H[i]?=some e) (hf:bo tm true f (.func (.func k) first.toArray cap.toArray):=by exact b7) (hxs:jX tm true xs vs:=by exact xQ) {d:Nat} (hd:Nat.blt d N=true:=by rfl) (a7:∀w,Mem bs H w->ph P k (first++vs++cap) e w Ψ) (ab:∀v n e' a6,Ψ n v e' a6->cL N K ((d,true,v)::tm) (Mem bs (H.set i e'))): gq P N (.call {callee:=.value f,args:=xs.toArray,argTypes:=ts}) (some d) Q tm (Mem bs H) K:=by intro a w ty pos cR g ag hw;unfold Oper.wp;rw[zu (hf.get ag rfl) (hxs.get ag rfl)];simp only[Oper.upon];refine Calls.mono (a7 w hw) λx I h=>?_;obtain⟨v,e',rfl,ew,hm⟩:=h;exact ab v _ e' I ew _ _ (by simpa using ag.put (anm.mp hd) true v) (hw.acv hi hm)
theorem Mem.cm{es:List aA}{w:World}(h:Mem bs H w)(is:List Nat)(k1:is.map (λi=>H[i]?)=es.map some:=by rfl)(bh:is.Nodup:=by decide):Mem bs es w:=by
 have at_:∀(j:Nat) (e:aA),es[j]?=some e->∃i,is[j]?=some i/\H[i]?=some e:=by
  intro j e ad;have h1:=amC (λl=>l[j]?) k1;simp only[amZ,ad,aoq]at h1;cases hi:is[j]? with
  | none=>rw[hi]at h1;simp at h1
  | some i=>rw[hi]at h1;simp at h1;exact⟨i,rfl,h1⟩
 have mem:∀e,e∈es->e∈H:=by intro e he;obtain⟨j,ad⟩:=anv he;obtain⟨i,_,hi⟩:=at_ j e ad;exact amF hi
 refine⟨h.base,λe he=>h.own e (mem e he),λe he=>h.fw e (mem e he),λB hB e he=>h.apart B hB e (mem e he),λi j fY gh hN hi ad=>?_⟩;obtain⟨a,au,Yy⟩:=at_ i fY hi;obtain⟨b,hb,YA⟩:=at_ j gh ad;refine h.h9 a b fY gh (λoe=>hN ?_) Yy YA;subst oe;have Yb:=amV.1 au;have e1:=amV.1 hb;obtain⟨h1,h2⟩:=Yb;obtain⟨h3,aC⟩:=e1;exact(List.getElem_inj bh).1 (h2.trans aC.symm)
def CQ(H:List aA):List Nat->List aA
 | []=>[]
 | i::is=>match H[i]? with
  | some e=>e::CQ H is
  | none=>CQ H is
theorem RS(H:List aA):∀(is:List Nat),is.all (λi=>Nat.blt i H.length)=true->is.map (λi=>H[i]?)=(CQ H is).map some
 | [],_=>rfl
 | i::is,h=>by rw[List.all_cons,ami]at h;have hi:=anm.mp h.1;have he:H[i]?=some H[i]:=amp hi;simp only[am8,CQ,he,RS H is h.2]
theorem abi(is:List Nat)(bh:is.Nodup:=by decide)(aB:is.all (λi=>Nat.blt i H.length)=true:=by rfl)(h:cL N K tm (Mem bs (CQ H is))):cL N K tm (Mem bs H):=λa w ag hw=>h a w ag (hw.cm is (RS H is aB) bh)
theorem Mem.one{B:dr}{w:World}(h:Mem bs H w)(hB:B∈bs):Mem [B] H w:=⟨λGV ta=>by rw[amv]at ta;subst ta;exact h.base _ hB,h.own,h.fw,λGV ta=>by rw[amv]at ta;subst ta;exact h.apart _ hB,h.h9⟩
def sI(w:World)(Ψ:Nat->Value->List aA->World->Prop):Ending->World->Prop:=λx I=>∃v es,x=.returned v/\Ψ w.heap.size v es I/\Mem [(w,an)] es I
def eH(P:Program)(k:FuncId)(args:List Value)(w:World)(Ψ:Nat->Value->List aA->World->Prop):Prop:=Calls P k args.toArray w (sI w Ψ)
theorem NZ{k:FuncId}{fn:Func}{code:Code}{args:List Value}{w:World}{Ψ:Nat->Value->List aA->World->Prop}(hf:P.funcs[k]?=some fn)(iK:fn.ntmps=N)(hb:fn.body=some code)(bG:Nat.ble args.length N=true) (h:cL N (code.wp P (bodyPost P fn (sI w Ψ))) (qO 0 args) (Mem [(w,an)] [])):eH P k args w Ψ:=enter hf iK hb bG _ (FC w) h
theorem eR{fn:Func}{w:World}{Ψ:Nat->Value->List aA->World->Prop}{rs:List ResultVar}{vs:List Value}(aH:fn.results=rs.toArray)(h:jf P tm H rs vs)(es:List aA)(is:List Nat) (ew:∀I,Mem bs H I->Ψ w.heap.size (pI vs) es I) (hB:(w,an)∈bs:=by exact ox) (k1:is.map (λi=>H[i]?)=es.map some:=by rfl) (bh:is.Nodup:=by decide): gN N .ret (bodyPost P fn (sI w Ψ)) tm (Mem bs H):=yM aH h λI hw=>⟨_,es,rfl,ew I hw,(hw.cm is k1 bh).one hB⟩
def jx(n:Nat)(es:List aA):Nat->Prop:=λk=>n<=k/\∀e,e∈es->k∉e.cX
theorem Mem.made{es:List aA}{w I:World}(hw:Mem bs H w)(hm:Mem [(w,an)] es I):Mem ((I,jx w.heap.size es)::bs) (es++H) I:=by
 have hb:=hm.base _ (.head _);have hx:=hw.ext hb.below;have lo:∀e,e∈es->∀k,k∈e.cX->w.heap.size<=k:=λe he k hk=>hm.apart _ (.head _) e he k hk trivial;refine⟨λB hB=>?_,λe he=>?_,λe he=>?_,λB hB e he k hk ct=>?_,λi j fY gh hN hi ad k rf r3=>?_⟩
 ·rcases amG.1 hB with rfl | hB
  ·exact ks.refl _ _
  exact hx.base B hB
 ·rcases amA.1 he with he | he
  ·exact hm.own e he
  exact hx.own e he
 ·rcases amA.1 he with he | he
  ·exact hm.fw e he
  exact hx.fw e he
 ·rcases amA.1 he with he | he
  ·rcases amG.1 hB with rfl | hB
   ·exact absurd hk (ct.2 e he)
   exact ani (hw.base B hB).size (lo e he k hk)
  rcases amG.1 hB with rfl | hB
  ·have:=hw.fw e he k hk;have:=ct.1;omega
  exact hx.apart B hB e he k hk ct
 have wK:∀e e',e∈es->e'∈H->k∈e.cX->k∈e'.cX->False:=λe e' he gX hk fe=>by have:=lo e he k hk;have:=hw.fw e' gX k fe;omega
 rcases amY i es.length with gB | gB
 ·rw[amM gB]at hi;rcases amY j es.length with fZ | fZ
  ·rw[amM fZ]at ad;exact hm.h9 i j fY gh hN hi ad k rf r3
  rw[amL fZ]at ad;exact wK fY gh (amF hi) (amF ad) rf r3
 rw[amL gB]at hi;rcases amY j es.length with fZ | fZ
 ·rw[amM fZ]at ad;exact wK gh fY (amF ad) (amF hi) r3 rf
 rw[amL fZ]at ad;exact hw.h9 _ _ fY gh (by omega) hi ad k rf r3
theorem gS{d k:Nat}{f:Operand}{xs:List Operand}{ts:Array TypeId}{first cap vs:List Value}{Ψ:Nat->Value->List aA->World->Prop}[hF:aS P k] (hf:bo tm true f (.func (.func k) first.toArray cap.toArray):=by exact b7) (hxs:jX tm true xs vs:=by exact xQ) (hd:Nat.blt d N=true:=by rfl) (a7:∀w,Mem bs H w->eH P k (first++vs++cap) w Ψ) (ab:∀v n es a6,Ψ n v es a6->cL N K ((d,true,v)::tm) (Mem ((a6,jx n es)::bs) (es++H))): gq P N (.call {callee:=.value f,args:=xs.toArray,argTypes:=ts}) (some d) Q tm (Mem bs H) K:=by intro a w ty pos cR g ag hw;unfold Oper.wp;rw[zu (hf.get ag rfl) (hxs.get ag rfl)];simp only[Oper.upon];refine Calls.mono (a7 w hw) λx I h=>?_;obtain⟨v,es,rfl,ew,hm⟩:=h;exact ab v _ es I ew _ _ (by simpa using ag.put (anm.mp hd) true v) (hw.made hm)
theorem eH.adv{k:FuncId}{args:List Value}{w:World}{Ψ:Nat->Value->List aA->World->Prop}{Φ:Nat->Value->World->Prop}(h:eH P k args w Ψ)(hi:∀v es I,Mem [(w,an)] es I->Ψ w.heap.size v es I->Φ w.heap.size v I):bj P k args w Φ:=Calls.mono h λ_ I ⟨v,es,hx,ew,hm⟩=>⟨v,hx,(hm.base _ (.head _)).below,hi v es I hm ew⟩
theorem aF{S:World->Prop}(h:cL N K tm A)(ct:∀w,A w->S w):cL N (λa w=>S w/\K a w) tm A:=λa w ag hw=>⟨ct w hw,h a w ag hw⟩
def bB(es:List aA):Nat->Prop:=λk=>∀e,e∈es->k∉e.cX
def qV(es:List aA)(w:World)(Ψ:Nat->Value->List aA->World->Prop):Ending->World->Prop:=λx I=>∃v fF,x=.returned v/\Ψ w.heap.size v fF I/\Mem [(w,bB es)] fF I
def eM(P:Program)(k:FuncId)(args:List Value)(es:List aA)(w:World)(Ψ:Nat->Value->List aA->World->Prop):Prop:=Calls P k args.toArray w (qV es w Ψ)
theorem s4{k:FuncId}{fn:Func}{code:Code}{args:List Value}{es:List aA}{w:World}{Ψ:Nat->Value->List aA->World->Prop}(hf:P.funcs[k]?=some fn)(iK:fn.ntmps=N)(hb:fn.body=some code)(bG:Nat.ble args.length N=true) (hw:Mem [] es w) (h:cL N (code.wp P (bodyPost P fn (qV es w Ψ))) (qO 0 args) (Mem [(w,bB es)] es)):eM P k args es w Ψ:=enter hf iK hb bG _ hw.KU h
theorem Mem.ei{w:World}(h:Mem bs H w):Mem [] H w:=⟨λB hB=>(by cases hB),h.own,h.fw,λB hB=>(by cases hB),h.h9⟩
theorem ez{fn:Func}{es:List aA}{w:World}{Ψ:Nat->Value->List aA->World->Prop}{rs:List ResultVar}{vs:List Value}(aH:fn.results=rs.toArray)(h:jf P tm H rs vs)(fF:List aA)(is:List Nat) (ew:∀I,Mem bs H I->Ψ w.heap.size (pI vs) fF I) (hB:(w,bB es)∈bs:=by exact ox) (k1:is.map (λi=>H[i]?)=fF.map some:=by rfl) (bh:is.Nodup:=by decide):gN N .ret (bodyPost P fn (qV es w Ψ)) tm (Mem bs H):=yM aH h λI hw=>⟨_,fF,rfl,ew I hw,(hw.cm is k1 bh).one hB⟩
theorem qF{fn:Func}{es:List aA}{w:World}{Ψ:Nat->Value->List aA->World->Prop}{rs:List ResultVar}{vs:List Value}(aH:fn.results=rs.toArray)(h:jf P tm H rs vs)(hB:(w,bB es)∈bs)(fF:List aA)(is:List Nat) (k1:is.map (λi=>H[i]?)=fF.map some:=by rfl) (bh:is.Nodup:=by decide) (ew:∀I,Mem bs H I->Ψ w.heap.size (pI vs) fF I):gN N .normal (bodyPost P fn (qV es w Ψ)) tm (Mem bs H):=Kt aH h λI hw=>⟨_,fF,rfl,ew I hw,(hw.cm is k1 bh).one hB⟩
theorem Mem.dk{es:List aA}{w:World}(h:Mem bs (es++H) w):Mem bs es w:=
 ⟨h.base,λe he=>h.own e (amE _ he),λe he=>h.fw e (amE _ he),λB hB e he=>h.apart B hB e (amE _ he),λi j fY gh hN hi ad=>h.h9 i j fY gh hN (by rw[amM (amV.1 hi).1];exact hi) (by rw[amM (amV.1 ad).1];exact ad)⟩
theorem Mem.Vu{es:List aA}{w:World}(h:Mem bs (es++H) w):Mem bs H w:=
 ⟨h.base,λe he=>h.own e (anq _ he),λe he=>h.fw e (anq _ he),λB hB e he=>h.apart B hB e (anq _ he),λi j fY gh hN hi ad=>h.h9 (es.length+i) (es.length+j) fY gh (by omega) (by rw[amL (by omega)];simpa using hi) (by rw[amL (by omega)];simpa using ad)⟩
theorem Mem.wK{es:List aA}{w:World}(h:Mem bs (es++H) w){e e':aA}(he:e∈es)(gX:e'∈H){k:Nat}(hk:k∈e.cX)(fe:k∈e'.cX):False:=by obtain⟨i,hi⟩:=anv he;obtain⟨j,ad⟩:=anv gX;have gB:=(amV.1 hi).1;exact h.h9 i (es.length+j) e e' (by omega) (by rw[amM gB];exact hi) (by rw[amL (by omega)];simpa using ad) k hk fe
theorem Mem.aaT{es:List aA}{w:World}(h1:Mem bs es w)(h2:Mem bs H w)(ai:∀e e',e∈es->e'∈H->∀k,k∈e.cX->k∈e'.cX->False):Mem bs (es++H) w:=by
 refine⟨h1.base,λe he=>?_,λe he=>?_,λB hB e he=>?_,λi j fY gh hN hi ad k rf r3=>?_⟩
 ·rcases amA.1 he with he | he
  ·exact h1.own e he
  exact h2.own e he
 ·rcases amA.1 he with he | he
  ·exact h1.fw e he
  exact h2.fw e he
 ·rcases amA.1 he with he | he
  ·exact h1.apart B hB e he
  exact h2.apart B hB e he
 rcases amY i es.length with gB | gB
 ·rw[amM gB]at hi;rcases amY j es.length with fZ | fZ
  ·rw[amM fZ]at ad;exact h1.h9 i j fY gh hN hi ad k rf r3
  rw[amL fZ]at ad;exact ai fY gh (amF hi) (amF ad) k rf r3
 rw[amL gB]at hi;rcases amY j es.length with fZ | fZ
 ·rw[amM fZ]at ad;exact ai gh fY (amF ad) (amF hi) k r3 rf
 rw[amL fZ]at ad;exact h2.h9 _ _ fY gh (by omega) hi ad k rf r3
theorem Mem.acx{es fF:List aA}{w I:World}(hw:Mem bs (es++H) w)(hm:Mem [(w,bB es)] fF I):Mem bs (fF++H) I:=by
 have hb:=hm.base _ (.head _);have Ox:∀e,e∈fF->∀k,k∈e.cX->(∃x,x∈es/\k∈x.cX)\/w.heap.size<=k:=λe he k hk=>by
  by_cases hx:∃x,x∈es/\k∈x.cX
  ·exact .inl hx
  exact .inr (hm.apart _ (.head _) e he k hk λx z1 w6=>hx ⟨x,z1,w6⟩)
 have MG:∀B,B∈bs->ks B.2 B.1 I:=λB hB=>by have h0:=hw.base B hB;refine⟨hb.os.trans h0.os,hb.tape.trans h0.tape,hb.output.trans h0.output,ani h0.size hb.size,λk hk ct=>?_⟩;rw[hb.sR k (anH hk h0.size) λe he nh=>by have:=hw.apart B hB e (amE _ he) k nh ct;omega];exact h0.sR k hk ct
 have hH:=hw.Vu;refine Mem.aaT ⟨MG,hm.own,hm.fw,λB hB e he k hk ct=>?_,hm.h9⟩ ⟨MG,λe he=>?_,λe he k hk=>?_,hH.apart,hH.h9⟩ λe e' he gX k hk fe=>?_
 ·rcases Ox e he k hk with⟨x,hx,w6⟩ | h1
  ·exact hw.apart B hB x (amE _ hx) k w6 ct
  exact ani (hw.base B hB).size h1
 ·exact aA.FQ (hH.own e he) λk hk=>hb.sR k (hH.fw e he k hk) λx hx w6=>hw.wK hx he w6 hk
 ·exact anH (hH.fw e he k hk) hb.size
 rcases Ox e he k hk with⟨x,hx,w6⟩ | h1
 ·exact hw.wK hx gX w6 fe
 have:=hH.fw e' gX k fe;omega
theorem en{d k:Nat}{es:List aA}{f:Operand}{xs:List Operand}{ts:Array TypeId}{first cap vs:List Value}{Ψ:Nat->Value->List aA->World->Prop}[hF:aS P k] (hf:bo tm true f (.func (.func k) first.toArray cap.toArray):=by exact b7) (hxs:jX tm true xs vs:=by exact xQ) (hd:Nat.blt d N=true:=by rfl) (a7:∀w,Mem bs (es++H) w->eM P k (first++vs++cap) es w Ψ) (ab:∀v n fF a6,Ψ n v fF a6->cL N K ((d,true,v)::tm) (Mem bs (fF++H))): gq P N (.call {callee:=.value f,args:=xs.toArray,argTypes:=ts}) (some d) Q tm (Mem bs (es++H)) K:=by intro a w ty pos cR g ag hw;unfold Oper.wp;rw[zu (hf.get ag rfl) (hxs.get ag rfl)];simp only[Oper.upon];refine Calls.mono (a7 w hw) λx I h=>?_;obtain⟨v,fF,rfl,ew,hm⟩:=h;exact ab v _ fF I ew _ _ (by simpa using ag.put (anm.mp hd) true v) (hw.acx hm)
theorem OB{d k:Nat}{f:Operand}{xs:List Operand}{ts:Array TypeId}{first cap vs:List Value}{Ψ:Nat->Value->List aA->World->Prop}[hF:aS P k] (hf:bo tm true f (.func (.func k) first.toArray cap.toArray):=by exact b7) (hxs:jX tm true xs vs:=by exact xQ) (hd:Nat.blt d N=true:=by rfl) (a7:∀w,Mem bs H w->eM P k (first++vs++cap) H w Ψ) (ab:∀v n fF a6,Ψ n v fF a6->cL N K ((d,true,v)::tm) (Mem bs fF)): gq P N (.call {callee:=.value f,args:=xs.toArray,argTypes:=ts}) (some d) Q tm (Mem bs H) K:=by
 have h:=en (P:=P) (N:=N) (tm:=tm) (bs:=bs) (H:=[]) (es:=H) (Q:=Q) (K:=K) (ts:=ts) (Ψ:=Ψ) hf hxs hd (λw hw=>a7 w (by rw[amB]at hw;exact hw)) (λv n fF a6 ew=>by rw[amB];exact ab v n fF a6 ew)
 rw[amB]at h;exact h
theorem Ri{fn:Func}{es:List aA}{w:World}{Ψ:Nat->Value->List aA->World->Prop}{rs:List ResultVar}{vs:List Value}(aH:fn.results=rs.toArray)(h:jf P tm H rs vs)(hB:(w,bB es)∈bs) (ew:∀I,Mem bs H I->Ψ w.heap.size (pI vs) H I):gN N .ret (bodyPost P fn (qV es w Ψ)) tm (Mem bs H):=yM aH h λI hw=>⟨_,H,rfl,ew I hw,hw.one hB⟩
theorem acy{fn:Func}{es:List aA}{w:World}{Ψ:Nat->Value->List aA->World->Prop}{rs:List ResultVar}{vs:List Value}(aH:fn.results=rs.toArray)(h:jf P tm H rs vs)(hB:(w,bB es)∈bs) (ew:∀I,Mem bs H I->Ψ w.heap.size (pI vs) H I):gN N .normal (bodyPost P fn (qV es w Ψ)) tm (Mem bs H):=Kt aH h λI hw=>⟨_,H,rfl,ew I hw,hw.one hB⟩
theorem bj.mono{k:FuncId}{args:List Value}{w:World}{Φ UN:Nat->Value->World->Prop}(h:bj P k args w Φ)(hi:∀n v I,Φ n v I->UN n v I):bj P k args w UN:=Calls.mono h λ_ I ⟨v,h1,h2,h3⟩=>⟨v,h1,h2,hi _ v I h3⟩
theorem eH.mono{k:FuncId}{args:List Value}{w:World}{Ψ sC:Nat->Value->List aA->World->Prop}(h:eH P k args w Ψ)(hi:∀n v es I,Ψ n v es I->sC n v es I):eH P k args w sC:=Calls.mono h λ_ I ⟨v,es,h1,h2,h3⟩=>⟨v,es,h1,hi _ v es I h2,h3⟩
theorem eM.mono{k:FuncId}{args:List Value}{es:List aA}{w:World}{Ψ sC:Nat->Value->List aA->World->Prop}(h:eM P k args es w Ψ)(hi:∀n v es I,Ψ n v es I->sC n v es I):eM P k args es w sC:=Calls.mono h λ_ I ⟨v,es,h1,h2,h3⟩=>⟨v,es,h1,hi _ v es I h2,h3⟩
end
structure gM(S:Nat->Prop)(w:World)(b:Nat)(cs:List Value):Prop where
 w7:S b
 cell:∀j v,cs[j]?=some v->w.cell? ⟨b,j,none⟩=some v
theorem gM.mono{S S':Nat->Prop}{B w:World}{b:Nat}{cs:List Value}(h:gM S B b cs)(hA:ks S B w)(ct:S b->S' b):gM S' w b cs:=⟨ct h.w7,λj v ad=>zh (a:=⟨b,j,none⟩) hA h.w7 (h.cell j v ad)⟩
def u6(b len:Nat):Value:=.slice (some ⟨b,0,none⟩) len len
class Bi(P:Program)(t:TypeId)(len:outParam Nat)(e:outParam TypeId):Prop where
 h:P.underlying t=some (.array len e)
section
variable {P:Program} {N:Nat} {tm:dU} {A:World->Prop} {bs:List dr} {H:List aA} {c:Bool}
theorem Mem.eN{S:Nat->Prop}{b tt:Nat}{cs:List Value}{w:World}(h:Mem bs H w)(hm:aA.box b cs tt∈H)(ct:S b):gM S w b cs:=⟨ct,λ_ _ ad=>xD (h.own _ hm) ad⟩
theorem aek{t b off:Nat}{x:Operand}{v:Value}{cs:List Value}{S:Nat->Prop}{B:World}[aE:gO P t](hx:bo tm c x (.pointer (some ⟨b,off,none⟩)):=by exact b7) (h:gM S B b cs:=by assumption) (hB:(B,S)∈bs:=by exact ox) (aw:cs[off]?=some v:=by rfl):bR P N (.load t x) tm (Mem bs H) c v:=
 λai a w _ _ _ _ _ cn hw=>by simp only[execOp,hx.get cn ai];exact hG (Gl (zh (a:=⟨b,off,none⟩) (hw.base _ hB) h.w7 (h.cell _ _ aw)))
theorem aey{t:TypeId}{x:Operand}{m:BitVec 64}(hx:bo tm c x (u64 m):=by exact b7):bR P N (.unOp .neg t x) tm A c (u64 (-m)):=
 λai a w _ _ _ _ _ cn _=>by
  simp only[execOp,hx.get cn ai];refine hG ?_;have:IntKind.u64.wrap (-(m.toNat:Int))=(((-m).toNat:Nat):Int):=by rw[BitVec.toNat_neg,IntKind.wrap_u64];have:=m.isLt;omega
  show Result.ok (Value.int .u64 (IntKind.u64.wrap (0-(m.toNat:Int)))) w=_;rw[Int.zero_sub,this];rfl
theorem aew{t dt:TypeId}{x y:Operand}{m n:BitVec 64}(hx:bo tm c x (u64 m):=by exact b7)(aR:bo tm c y (u64 n):=by exact b7):bR P N (.binOp .mul t x y dt) tm A c (u64 (m* n)):=
 λai=>oA hx aR (λw=>by
  simp only[binOp,Op.intArith,ne_eq,aoX,aor];show Result.ok (Value.int .u64 (IntKind.u64.wrap ((m.toNat:Int)* (n.toNat:Int)))) w=_;have:IntKind.u64.wrap ((m.toNat:Int)* (n.toNat:Int))=(((m* n:BitVec 64).toNat:Nat):Int):=by rw[BitVec.toNat_mul,<-Dl,Int.natCast_mul]
  rw[this];rfl) ai
theorem aec{t e sz b len g n:Nat}{z:Value}{k:IntKind}{y:Operand}[aE:Bi P t len e][cP:dh P e sz b z](aR:bo tm c y (.int k (n:Int)):=by exact b7) (hb:c=true->n<len:=by first | (intro _;assumption) | (intro _;omega) | (intro ai;simp only[ami,amr,amk,amt,amx,amm,aq,ar]at ai;omega)):bR P N (.indexAddr t (.global g) y) tm A c (.pointer (some (gI (u6 g len) sz n 0))):=
 λai a w _ _ _ _ _ cn hw=>by simp only[execOp,aR.get cn ai];refine hG ?_;obtain⟨i,hi,ma,_⟩:=cP.h;subst ma;have h0:(0:Int)<=(n:Int)/\(n:Int)<len:=⟨by omega,by have:=hb ai;omega⟩;show(Instr.indexAt t (.pointer (some ⟨g,0,none⟩)) (.int k (n:Int))).run P w=_;simp[Instr.indexAt,asIntOf,run_underlying aE.h,Instr.sureAddr,hb ai,sizeOf,typeInfo,hi,gI,u6,Addr.add]
theorem adT{s t:TypeId}{x:Operand}{n:Nat}{d:TypeDesc}[ag:jg P s d][aE:jg P t (.int .i64)](hx:bo tm c x (.int .u8 (n:Int)):=by exact b7) (hb:c=true->n<256:=by first | (intro _;assumption) | (intro _;omega) | (intro ai;simp only[ami,amr,amk,amt,amx,amm,aq,ar]at ai;omega)):bR P N (.convert s t x) tm A c (.int .i64 (n:Int)):=
 λai a w _ _ _ _ _ cn _=>by simp only[execOp,hx.get cn ai];refine hG ?_;have h:=z6 (n:=(n:Int)) ⟨by omega,by have:=hb ai;omega⟩;unfold yp at h;simp[convert,run_underlying ag.h,run_underlying aE.h,Conv.intToInt,h]
theorem Mem.CL{S:Nat->Prop}{B w:World}{es:List aA}(hw:Mem bs H w)(hB:(B,S)∈bs)(kE:∀e,e∈es->e∈H):∀k,k<B.heap.size->S k->bB es k:=λk hk ct e he nh=>by have:=hw.apart _ hB e (kE e he) k nh ct;simp only at this;omega
theorem Mem.gw{aQ:Type}{S:Nat->Prop}{B w:World}{enc:aQ->List Value}{sz:Nat}{v:Value}{xs:List aQ}{es:List aA}[he:ee enc sz](hw:Mem bs H w)(h:aV S B enc sz v xs)(hB:(B,S)∈bs)(kE:∀e,e∈es->e∈H):aV (bB es) w enc sz v xs:=h.mono (hw.base _ hB) (hw.CL hB kE) λx _=>he.ne x
theorem Mem.Hj{S:Nat->Prop}{B w:World}{b:Nat}{u:Value}{cs:List Value}{es:List aA}(hw:Mem bs H w)(h:gM S B b (u::cs))(hB:(B,S)∈bs)(kE:∀e,e∈es->e∈H):gM (bB es) w b (u::cs):=h.mono (hw.base _ hB) (hw.CL hB kE b (World.block_lt_of_cell? B ⟨b,0,none⟩ (h.cell 0 u rfl)))
theorem Mem.sS{w:World}{b tt:Nat}{cs:List Value}{es:List aA}(hw:Mem bs (es++H) w)(hm:aA.box b cs tt∈H):gM (bB es) w b cs:=⟨λe he nh=>hw.wK he hm nh (by simp[aA.cX]),λ_ _ ad=>xD (hw.own _ (anq _ hm)) ad⟩
theorem Mem.Ar{aQ:Type}{w:World}{enc:aQ->List Value}{sz tt:Nat}{v:Value}{xs:List aQ}{es:List aA}[he:ee enc sz](hw:Mem bs (es++H) w)(hm:aA.own v tt sz enc xs∈H):aV (bB es) w enc sz v xs:=by have bm:=hw.own _ (anq _ hm);refine⟨?_,λi x j u hi ad=>CO bm hi ad,λa n cap aw oh e he nh=>hw.wK he hm nh (by rw[aA.cX,aw];simp[Value.ownBlock])⟩;obtain⟨a,cap,aw,h1,h2,h3⟩:=si bm;exact⟨a,_,cap,aw,rfl,h2,h3,h1⟩
class xv(P:Program)(t:TypeId){aQ:Type}(enc:aQ->List Value)[DecidableEq aQ]:Prop where
 g:P.eqGuardType P.depth t=false
 h:∀(x y:aQ) (w:World),(Op.equalIn 10000 t (.agg (enc x).toArray) (.agg (enc y).toArray)).run P w=.ok (decide (x=y)) w
theorem F6{aQ:Type}[DecidableEq aQ]{enc:aQ->List Value}{t dt:TypeId}{x y:Operand}{p q:aQ}(hx:bo tm c x (.agg (enc p).toArray):=by exact b7)(aR:bo tm c y (.agg (enc q).toArray):=by exact b7)[cP:xv P t enc]: bR P N (.binOp .eql t x y dt) tm A c (.bool (bO (p=q))):=
 λai a w _ _ _ _ _ cn _=>by simp only[execOp,hx.get cn ai,aR.get cn ai];refine hG ?_;rw[Sem.run_bind,run_eqGuard_agg w .eql t x y _ _ cP.g];show(binOp .eql t _ _).run P w=_;rw[run_eql_struct,cP.h];rfl
theorem v8{aQ:Type}[DecidableEq aQ]{t dt:TypeId}{x y:Operand}(enc:aQ->List Value)[cP:xv P t enc](p:aQ) (q:aQ) (hx:bo tm c x (.agg (enc p).toArray):=by exact b7) (aR:bo tm c y (.agg (enc q).toArray):=by exact b7): bR P N (.binOp .neq t x y dt) tm A c (.bool (!bO (p=q))):=
 λai a w _ _ _ _ _ cn _=>by simp only[execOp,hx.get cn ai,aR.get cn ai];refine hG ?_;rw[Sem.run_bind,run_eqGuard_agg w .neq t x y _ _ cP.g];show(binOp .neq t _ _).run P w=_;rw[run_neq_struct,cP.h];rfl
end
section
variable {P:Program} {ops:Array Oper} {Q:Exit->Act->World->Prop} {md:Region.Mode}
def A7(md:Region.Mode)(ops:Array Oper)(j:Nat):Bool:=
 match ops[j]? with
 | none=>false
 | some oy=>(List.range ops.size).all λi=>i==j||oy.after.any (λe=>Region.binds md e&&e.on==i)
def zp(md:Region.Mode)(ops:Array Oper)(j k:Nat):Bool:=
 match ops[j]? with
 | none=>false
 | some oy=>oy.after.any λe=>Region.binds md e&&e.on==k
def SB(md:Region.Mode)(ops:Array Oper)(n j:Nat):List Bool:=(List.range n).reverse.foldl (λmarks k=>bif marks.getD k false then(List.range n).map (λi=>marks.getD i false||zp md ops k i)else marks) ((List.range n).map λi=>zp md ops j i)
def A8(md:Region.Mode)(ops:Array Oper)(j:Nat)(listed:Array Bool):Bool:=(List.range listed.size).all λi=>!(listed.getD i false)||(SB md ops listed.size j).getD i false
def wx(md:Region.Mode)(ops:Array Oper)(listed:Array Bool):Prop:=∀m CM,ops[m]?=some CM->listed.getD m false=true->∀e∈CM.after,Region.binds md e=true->listed.getD e.on false=true
theorem OH{n:Nat}{f:Nat->Bool}{i:Nat}(h:((List.range n).map f).getD i false=true):f i=true:=by
 rw[aml]at h;by_cases hi:i<n
 ·rw[amZ,ann hi]at h;simpa using h
 rw[amR (by simp;omega)]at h;cases h
theorem NN{listed:Array Bool}{j k:Nat}(h:zp md ops j k=true)(ad:∀oy,ops[j]?=some oy->∀e∈oy.after,Region.binds md e=true->listed.getD e.on false=true):listed.getD k false=true:=by
 unfold zp at h;cases bm:ops[j]? with
 | none=>rw[bm]at h;cases h
 | some oy=>
  rw[bm]at h;dsimp only at h;rw[Array.any_eq_true']at h;obtain⟨e,he,h2⟩:=h;rw[ami]at h2;have h3:=ad oy bm e he h2.1;have aC:e.on=k:=by simpa using h2.2
  rwa[aC]at h3
theorem ae0{listed:Array Bool}{n j i:Nat}(ai:wx md ops listed)(ad:j∈Region.ready md ops listed)(h:(SB md ops n j).getD i false=true):listed.getD i false=true:=by
 obtain⟨_,oy,yg,bS⟩:=mem_ready.1 ad;have h0:∀k,zp md ops j k=true->listed.getD k false=true:=λk hk=>NN hk λo bm=>by rw[yg]at bm;cases bm;exact bS
 have key:∀(ey:List Nat) (marks:List Bool),(∀q,marks.getD q false=true->listed.getD q false=true)-> ∀q,(ey.foldl (λmarks k=>bif marks.getD k false then(List.range n).map (λi=>marks.getD i false||zp md ops k i)else marks) marks).getD q false=true->listed.getD q false=true:=by
  intro ey
  induction ey with
  | nil=>intro marks hm q aZ;exact hm q aZ
  | cons k ey bH=>
   intro marks hm q aZ;rw[anJ]at aZ;refine bH _ (λz aY=>?_) q aZ;cases hk:marks.getD k false with
   | false=>rw[hk]at aY;exact hm z aY
   | true=>
    rw[hk]at aY;have aY:=OH aY;rw[amr]at aY;rcases aY with aY | aY
    ·exact hm z aY
    exact NN aY λo bm=>ai k o bm (hm k hk)
 exact key _ _ (λq aZ=>h0 q (OH aZ)) i h
theorem wJ{listed:Array Bool}{i:Nat}(ai:wx md ops listed)(hi:i∈Region.ready md ops listed):wx md ops (listed.setIfInBounds i true):=by
 have up:∀q,listed.getD q false=true->(listed.setIfInBounds i true).getD q false=true:=λq aZ=>by
  by_cases e:i=q
  ·subst e;rcases amY i listed.size with cr | cr
   ·simp[cr]
   simp[anu cr]at aZ
  rw[getD_set_ne false e];exact aZ
 obtain⟨_,uB,ET,bS⟩:=mem_ready.1 hi;intro m CM hm aB e he hb;by_cases em:i=m
 ·subst em;rw[ET]at hm;cases hm;exact up _ (bS e he hb)
 rw[getD_set_ne false em]at aB;exact up _ (ai m CM hm aB e he hb)
theorem Nj(n:Nat):wx md ops (Array.replicate n false):=λm CM _ aB=>by
 rcases amY m n with cr | cr
 ·simp[cr]at aB
 simp[cr]at aB
def A9(P:Program)(md:Region.Mode)(ops:Array Oper)(Q:Exit->Act->World->Prop):Nat->Array Bool->(World->Prop)->Act->World->Prop
 | 0,listed,_,a,w=>Region.ready md ops listed=[]/\Q .normal a w
 | fuel+1,listed,S,a,w=>
  (Region.ready md ops listed=[]->Q .normal a w)/\
  ∀i∈Region.ready md ops listed,wpOp P ops Q i (λdI I=>(A7 md ops i=true/\Region.ready md ops (listed.setIfInBounds i true)=[]/\Q .normal dI I)\/ ∃S',((∀w,S' w->S w)\/A8 md ops i listed=true)/\S' I/\A9 P md ops Q fuel (listed.setIfInBounds i true) S' dI I) a w
theorem wpAny_done{listed:Array Bool}{a:Act}{w:World}(aH:Region.ready md ops listed=[])(aZ:Q .normal a w):∀fuel,wpAny P md ops Q fuel listed a w
 | 0=>⟨aH,aZ⟩
 | _+1=>⟨λ_=>aZ,λi hi=>by rw[aH]at hi;cases hi⟩
theorem L3:∀(fuel:Nat) (listed:Array Bool) (S:World->Prop) (a:Act) (w:World),A9 P md ops Q fuel listed S a w->wpAny P md ops Q fuel listed a w
 | 0,_,_,_,_,h=>h
 | fuel+1,_,_,_,_,h=>⟨h.1,λi hi=>wpOp_mono (λdI I cr=>by
  rcases cr with⟨_,h1,h2⟩ | ⟨S',_,_,h3⟩
  ·exact wpAny_done h1 h2 fuel
  exact L3 fuel _ S' dI I h3) (h.2 i hi)⟩
theorem aia{i j:Nat}{uB:Oper}{listed:Array Bool}(hi:ops[i]?=some uB)(hw:A7 md ops j=true)(ad:j∈Region.ready md ops listed)(sa:listed.getD i true=false)(dC:i≠j):False:=by
 obtain⟨_,oy,yg,bS⟩:=mem_ready.1 ad;unfold A7 at hw;rw[yg]at hw;simp only[ank,amH]at hw;have gB:i<ops.size:=by
  rcases amY i ops.size with cr | cr
  ·exact cr
  rw[anu cr]at hi;cases hi
 have h1:=hw i gB;rw[amr]at h1;rcases h1 with h1 | h1
 ·exact dC (by simpa using h1)
 rw[Array.any_eq_true']at h1;obtain⟨e,he,h2⟩:=h1;rw[ami]at h2;have h3:=bS e he h2.1;have aC:e.on=i:=by simpa using h2.2
 rw[aC]at h3;rcases amY i listed.size with cr | cr
 ·simp[cr]at h3 sa;rw[sa]at h3;cases h3
 simp[anu cr]at sa
theorem ah9{i j:Nat}{listed:Array Bool}(ai:wx md ops listed)(hw:A8 md ops j (listed.setIfInBounds i true)=true)(ad:j∈Region.ready md ops listed)(sa:listed.getD i true=false):False:=by
 unfold A8 at hw;simp only[ank,amH,Array.size_setIfInBounds]at hw;have gB:i<listed.size:=by
  rcases amY i listed.size with cr | cr
  ·exact cr
  simp[anu cr]at sa
 have h1:=hw i gB;have ay:(listed.setIfInBounds i true).getD i false=true:=by simp[gB]
 rw[ay,aoT,anU]at h1;have h3:=ae0 ai ad h1;simp[gB]at h3 sa;rw[sa]at h3;cases h3
theorem UD{i:Nat}{uB:Oper}{v:Value}(hi:ops[i]?=some uB)(PO:∀(j:Nat) (o:Oper) cs b,ops[j]?=some o->o.op≠.select cs b) (vl:∀c a w,Q (.panic c) (a.put uB.dst v) w->Q (.panic c) a w): ∀(fuel:Nat) (listed:Array Bool) (S:World->Prop) (a:Act) (w:World),wx md ops listed-> (∀j oy,ops[j]?=some oy->j≠i->listed.getD j true=false->(∀e∈oy.after,Region.binds md e=true->e.on≠i)->uB.apart ops oy=true)-> i∈Region.ready md ops listed->YieldsIf P ops S uB v a->S w-> A9 P md ops Q fuel (listed.setIfInBounds i true) S (a.put uB.dst v) w->A9 P md ops Q (fuel+1) listed S a w:=by
 intro fuel
 induction fuel with
 | zero=>
  intro listed S a w eE _ aH aR ct H;refine⟨λh=>(by rw[h]at aH;cases aH),λj ad=>?_⟩;by_cases kh:j=i
  ·subst kh;exact aR.wpOp hi ct (.inr ⟨S,.inl λ_ h=>h,ct,H⟩)
  have:=ready_mono ad kh;rw[H.1]at this;cases this
 | succ fuel bH=>
  intro listed S a w eE EB aH aR ct H;refine⟨λh=>(by rw[h]at aH;cases aH),λj ad=>?_⟩;by_cases kh:j=i
  ·subst kh;exact aR.wpOp hi ct (.inr ⟨S,.inl λ_ h=>h,ct,H⟩)
  have h1:=H.2 j (ready_mono ad kh);obtain⟨Ph,oy,yg,bS⟩:=mem_ready.1 ad;have Zh:∀e∈oy.after,Region.binds md e=true->e.on≠i:=λe he hb heq=>by
   have h1:=bS e he hb;have h0:=(mem_ready.1 aH).1;rw[heq]at h1;rcases amY i listed.size with cr | cr
   ·simp[cr]at h0 h1;rw[h0]at h1;cases h1
   simp[anu cr]at h1
  have h2:=wpOp_putIf yg (EB j oy yg kh Ph Zh) (λcs b=>PO i uB cs b hi) (λcs b=>PO j oy cs b yg) vl aR h1;have YH:∀k ok,ops[k]?=some ok->k≠i->(listed.setIfInBounds j true).getD k true=false-> (∀e∈ok.after,Region.binds md e=true->e.on≠i)->uB.apart ops ok=true:=λk ok hk rf sa e7=>by
   refine EB k ok hk rf ?_ e7;by_cases fM:j=k
   ·subst fM;exact Ph
   rw[getD_set_ne true fM]at sa;exact sa
  refine wpOp_mono (λdI I h3=>?_) h2;obtain⟨Ju,h3⟩:=h3;rcases h3 with⟨hw,_⟩ | ⟨S',qy,OR,h3⟩
  ·exact(aia hi hw ad (mem_ready.1 aH).1 (λe=>kh e.symm)).elim
  have qy:∀w,S' w->S w:=qy.resolve_right λhw=>ah9 eE hw ad (mem_ready.1 aH).1;refine .inr ⟨S',.inl qy,OR,bH (listed.setIfInBounds j true) S' dI I (wJ eE ad) YH (ready_mono aH (Ne.symm kh)) ?_ OR ?_⟩
  ·exact Ju.imp (λ⟨h1,h2⟩=>⟨h1,λw hw=>h2 w (qy w hw)⟩) id
  rw[Array.setIfInBounds_comm _ _ kh];exact h3
def hs(P:Program)(ops:Array Oper)(Q:Exit->Act->World->Prop)(fuel:Nat)(listed:Array Bool)(S:World->Prop)(aiL:List Nat):Act->World->Prop:=λa w=>wx .any ops listed->S w->A9 P .any ops Q fuel listed S a w
def u1(Q:Exit->Act->World->Prop):Prop:=∀c (a:Act) (d:Option Tmp) v w,Q (.panic c) (a.put d v) w->Q (.panic c) a w
theorem R9{K:Act->World->Prop}(h:u1 Q):u1 (Exit.then K Q):=h
theorem R7{id:Nat}(h:u1 Q):u1 (Exit.inBlock id Q):=h
theorem R8{fn:Func}{R:Ending->World->Prop}:u1 (bodyPost P fn R):=λc a d v w h=>by cases d<;>exact h
variable {N:Nat} {tm:dU} {A:World->Prop} {listed:Array Bool} {S:World->Prop} {order:List Nat} {fuel:Nat}
theorem cV{id:Nat}{l:List Oper}{bs:List dr}{H:List aA}(order:List Nat)(hm:P.follows .mixedOrders=true) (h:cL N (hs P l.toArray Q l.length (Array.replicate l.length false) (Mem bs H) order) tm (Mem bs H)):fh P N (.region id l.toArray true) Q tm (Mem bs H):=by intro a w ag hw;refine wp_region_any hm (L3 _ _ (Mem bs H) _ _ ?_);have:=h a w.drew ⟨ag.size,ag.Ak,ag.get⟩ hw.drewN (Nj _) hw.drewN;simpa using this
theorem fs{id:Nat}{l:List Oper}{bs:List dr}{H:List aA}(S:World->Prop)(order:List Nat)(hm:P.follows .mixedOrders=true)(ct:∀w,Mem bs H w->S w) (h:cL N (hs P l.toArray Q l.length (Array.replicate l.length false) S order) tm (Mem bs H)):fh P N (.region id l.toArray true) Q tm (Mem bs H):=by intro a w ag hw;refine wp_region_any hm (L3 _ _ S _ _ ?_);have:=h a w.drew ⟨ag.size,ag.Ak,ag.get⟩ hw.drewN (Nj _) (ct _ hw.drewN);simpa using this
def An(ops:Array Oper)(listed:Array Bool)(i:Nat):Bool:=Region.noSelect ops&&Region.free .any ops listed i&&(Region.ready .any ops listed).contains i
theorem abd{i d:Nat}{op:Op}{ty:TypeId}{pos:String}{cR:Array Edge}{v:Value}(vl:u1 Q)(hi:ops[i]?=some ⟨some d,op,ty,pos,cR,none⟩)(hok:An ops listed i=true) (h:bR P N op tm S true v) (hd:Nat.blt d N=true) (ab:cL N (hs P ops Q fuel (listed.setIfInBounds i true) S order) ((d,true,v)::tm) A):cL N (hs P ops Q (fuel+1) listed S (i::order)) tm A:=by intro a w ag hw eE ct;unfold An at hok;simp only[ami]at hok;refine UD hi (Region.noSelect_spec hok.1.1) (λc a w h=>vl c a _ _ w h) fuel listed S a w eE (Region.free_spec hi hok.1.2) (by simpa using hok.2) (.inl ⟨by simp[Region.wanted],λw hw=>h rfl a w _ _ _ _ _ ag hw⟩) ct ?_;exact ab _ w (by simpa using ag.put (anm.mp hd) true v) hw (wJ eE (by simpa using hok.2)) ct
theorem abe{i j g d:Nat}{want ji b c:Bool}{op:Op}{ty:TypeId}{pos:String}{cR:Array Edge}{v:Value}(vl:u1 Q)(hi:ops[i]?=some ⟨some d,op,ty,pos,cR,some (j,want)⟩)(hok:An ops listed i=true) (ad:(ops[j]?).bind (·.dst)=some g) (ay:jq tm g=some (ji,.bool b)) (ai:c=(ji&&(b==want))) (h:bR P N op tm S c v) (hd:Nat.blt d N=true) (ab:cL N (hs P ops Q fuel (listed.setIfInBounds i true) S order) ((d,c,v)::tm) A):cL N (hs P ops Q (fuel+1) listed S (i::order)) tm A:=by
 intro a w ag hw eE ct;unfold An at hok;simp only[ami]at hok;have aR:=Ba (ops:=ops) ag ad ay;have oi:=ag.put (anm.mp hd) c v;refine UD (v:=if c=true then v else undef) hi (Region.noSelect_spec hok.1.1) (λc a w h=>vl c a _ _ w h) fuel listed S a w eE (Region.free_spec hi hok.1.2) (by simpa using hok.2) ?_ ct (ab _ w oi hw (wJ eE (by simpa using hok.2)) ct);by_cases iL:c=true
 ·have h1:ji=true/\b=want:=by rw[iL]at ai;have:=ai.symm;simp only[ami,an1]at this;exact this
  refine .inl ⟨by simp[Region.wanted,aR,h1.1,h1.2],λw hw=>?_⟩;rw[amo iL];exact h iL a w _ _ _ _ _ ag hw
 refine .inr ⟨?_,amn iL⟩;unfold Region.wanted;simp only[aR];cases ji with
 | false=>rfl
 | true=>simp at ai⊢;intro hb;exact iL (by rw[ai,hb];simp)
theorem aba{i:Nat}{dst:Option Tmp}{op:Op}{ty:TypeId}{pos:String}{cR:Array Edge}{S':World->Prop}(hi:ops[i]?=some ⟨dst,op,ty,pos,cR,none⟩)(aH:Region.ready .any ops listed=[i]) (qy:∀w,S' w->S w) (h:gq P N op dst Q tm A (λdI I=>S' I/\hs P ops Q fuel (listed.setIfInBounds i true) S' order dI I)):cL N (hs P ops Q (fuel+1) listed S (i::order)) tm A:=by intro a w ag hw eE _;refine⟨λh=>(by rw[h]at aH;cases aH),λk hk=>?_⟩;have wX:=wJ eE hk;rw[aH,amv]at hk;subst hk;unfold wpOp;simp only[hi,Region.wanted];exact .inl (Oper.wp_mono (λdI I cr=>.inr ⟨S',.inl qy,cr.1,cr.2 wX cr.1⟩) (h a w ty pos cR none ag hw))
theorem aa9{i:Nat}{dst:Option Tmp}{op:Op}{ty:TypeId}{pos:String}{cR:Array Edge}{S':World->Prop}(hi:ops[i]?=some ⟨dst,op,ty,pos,cR,none⟩)(aH:Region.ready .any ops listed=[i]) (p4:A8 .any ops i listed=true) (h:gq P N op dst Q tm A (λdI I=>S' I/\hs P ops Q fuel (listed.setIfInBounds i true) S' order dI I)):cL N (hs P ops Q (fuel+1) listed S (i::order)) tm A:=by intro a w ag hw eE _;refine⟨λh=>(by rw[h]at aH;cases aH),λk hk=>?_⟩;have wX:=wJ eE hk;rw[aH,amv]at hk;subst hk;unfold wpOp;simp only[hi,Region.wanted];exact .inl (Oper.wp_mono (λdI I cr=>.inr ⟨S',.inr p4,cr.1,cr.2 wX cr.1⟩) (h a w ty pos cR none ag hw))
theorem tY{d:Nat}{op:Op}{v:Value}(hd:Nat.blt d N=true)(h:bR P N op tm A true v){K:Act->World->Prop}(ab:cL N K ((d,true,v)::tm) A):gq P N op (some d) Q tm A K:=by intro a w ty pos cR g ag hw;unfold Oper.wp;rw[h rfl a w (some d) ty pos cR g ag hw];exact ab _ w (by simpa using ag.put (anm.mp hd) true v) hw
theorem abc{i:Nat}{dst:Option Tmp}{op:Op}{ty:TypeId}{pos:String}{cR:Array Edge}(hi:ops[i]?=some ⟨dst,op,ty,pos,cR,none⟩)(aH:Region.ready .any ops listed=[i]) (hw:A7 .any ops i=true) (vx:Region.ready .any ops (listed.setIfInBounds i true)=[]) (h:gq P N op dst Q tm A (Q .normal)):cL N (hs P ops Q (fuel+1) listed S (i::order)) tm A:=by intro a w ag hA _ _;refine⟨λh=>(by rw[h]at aH;cases aH),λk hk=>?_⟩;rw[aH,amv]at hk;subst hk;unfold wpOp;simp only[hi,Region.wanted];exact .inl (Oper.wp_mono (λdI I cr=>.inl ⟨hw,vx,cr⟩) (h a w ty pos cR none ag hA))
theorem aa7(aH:Region.ready .any ops listed=[])(h:gN N .normal Q tm A):cL N (hs P ops Q fuel listed S order) tm A:=by
 intro a w ag hw _ _;cases fuel with
 | zero=>exact⟨aH,h a w ag hw⟩
 | succ n=>exact⟨λ_=>h a w ag hw,λi hi=>by rw[aH]at hi;cases hi⟩
end
section
variable {P:Program} {N:Nat} {Q:Exit->Act->World->Prop} {tm:dU} {bs:List dr} {H:List aA} {A:World->Prop} {ops:Array Oper} {rest:List Oper}
def uV(P:Program)(N:Nat)(op:Op)(tm:dU)(A:World->Prop)(c:Bool)(u:Value):Prop:=c=true->∀(Q:Exit->Act->World->Prop) (K:Act->World->Prop) (a:Act) (w:World) (d:Tmp) (ty:TypeId) (pos:String) (cR:Array Edge) (g:Option (Nat×Bool)),iq N tm a->A w->(∀I,A I->K (a.put (some d) u) I)->Oper.wp P ⟨some d,op,ty,pos,cR,g⟩ a w K Q
theorem eY{k:Nat}{c:Bool}{u:Value}{f:Operand}{xs:List Operand}{ts:Array TypeId}{first cap vs:List Value}[hF:aS P k] (hf:bo tm c f (.func (.func k) first.toArray cap.toArray):=by exact b7) (hxs:jX tm c xs vs:=by repeat (first | exact .nil | apply jX.cons ⟨_,rfl,λ_=>rfl⟩ | apply jX.cons ⟨_,rfl,λh=>h⟩ | apply jX.cons ⟨_,rfl,zc⟩)) (a7:c=true->∀w,Mem bs H w->bj P k (first++vs++cap) w λ_ v _=>v=u): uV P N (.call {callee:=.value f,args:=xs.toArray,argTypes:=ts}) tm (Mem bs H) c u:=by intro ai Q K a w d ty pos cR g ag hw jE;unfold Oper.wp;rw[zu (hf.get ag ai) (hxs.get ag ai)];simp only[Oper.upon];refine Calls.mono (a7 ai w hw) λe I h=>?_;unfold qm at h;obtain⟨v,rfl,hb,rfl⟩:=h;exact jE I (hw.ext hb)
theorem fm{d j g:Nat}{want ji b c:Bool}{op:Op}{ty:TypeId}{pos:String}{cR:Array Edge}{u:Value} (ad:(ops[j]?).bind (·.dst)=some g:=by rfl) (ay:jq tm g=some (ji,.bool b):=by rfl) (ai:c=(ji&&(b==want)):=by first | exact Ek _ | exact Ej _ | exact Ei _ _ | exact Eh _ _) (h:uV P N op tm A c u) (hd:Nat.blt d N=true:=by rfl) (ab:kv P N ops Q rest ((d,c,u)::tm) A):kv P N ops Q (⟨some d,op,ty,pos,cR,some (j,want)⟩::rest) tm A:=by
 intro a w ag hw;refine wpList_step λK jE=>?_;have aR:=Ba (ops:=ops) ag ad ay;unfold Region.wanted;simp only[aR];have x4:=anm.mp hd;by_cases iL:c=true
 ·have h1:ji=true/\b=want:=by rw[iL]at ai;have:=ai.symm;simp only[ami,an1]at this;exact this
  rw[h1.1,h1.2];simp only[if_true,beq_self_eq_true];exact h iL _ _ a w _ _ _ _ _ ag hw λI p6=>jE _ _ (ab _ _ (by simpa[iL]using ag.put x4 c u) p6)
 have h1:((if ji=true then some b else none)==some want)=false:=by cases ji<;>simp at ai⊢;intro hb;exact iL (by rw[ai,hb];simp)
 rw[h1];simp only[aov,aor];exact jE _ _ (ab _ _ (by simpa[iL]using ag.put x4 c u) hw)
theorem w9{i j g d:Nat}{want ji b c:Bool}{op:Op}{ty:TypeId}{pos:String}{cR:Array Edge}{u:Value}{listed:Array Bool}{order:List Nat}{fuel:Nat}(ab:cL N (hs P ops Q fuel (listed.setIfInBounds i true) A order) ((d,c,u)::tm) A) (hi:ops[i]?=some ⟨some d,op,ty,pos,cR,some (j,want)⟩:=by rfl) (aH:Region.ready .any ops listed=[i]:=by kernel_rfl) (ad:(ops[j]?).bind (·.dst)=some g:=by rfl) (ay:jq tm g=some (ji,.bool b):=by rfl) (ai:c=(ji&&(b==want)):=by first | exact Ek _ | exact Ej _ | exact Ei _ _ | exact Eh _ _) (h:uV P N op tm A c u) (hd:Nat.blt d N=true:=by rfl):cL N (hs P ops Q (fuel+1) listed A (i::order)) tm A:=by
 intro a w ag hw;unfold hs;intro eE _;refine⟨λh=>(by rw[h]at aH;cases aH),λk hk=>?_⟩;have wX:=wJ eE hk;rw[aH,amv]at hk;subst hk;have aR:=Ba (ops:=ops) ag ad ay;have x4:=anm.mp hd;have oi:=ag.put x4 c u;unfold wpOp;simp only[hi,Region.wanted,aR];unfold cL hs at ab
 by_cases iL:c=true
 ·have h1:ji=true/\b=want:=by rw[iL]at ai;have:=ai.symm;simp only[ami,an1]at this;exact this
  rw[h1.1,h1.2];simp only[if_true,beq_self_eq_true];exact .inl (h iL _ _ a w _ _ _ _ _ ag hw λI p6=>.inr ⟨A,.inl λ_ h=>h,p6,ab _ _ (by simpa[iL]using oi) p6 wX p6⟩)
 have h1:((if ji=true then some b else none)==some want)=false:=by cases ji<;>simp at ai⊢;intro hb;exact iL (by rw[ai,hb];simp)
 rw[h1];simp only[aov,aor];exact .inr ⟨A,.inl λ_ h=>h,hw,ab _ _ (by simpa[iL]using oi) hw wX hw⟩
end
def zl(h:Nat):Value->Value
 | .slice a _ cap=>.slice a h cap
 | v=>v
theorem aD.cut{v:Value}(h:aD v)(k:Nat):aD (zl k v):=by obtain⟨a,n,cap,rfl⟩:=h;exact⟨_,_,_,rfl⟩
theorem MF(a:Addr):a.add 0=a:=by unfold Addr.add;simp
section
variable {P:Program} {N:Nat} {tm:dU} {bs:List dr} {H:List aA} {c:Bool}
theorem afp{t e sz b len cap:Nat}{z:Value}{a:Option Addr}{k:IntKind}{n:Int}{w:World}[aE:fz P t e][cP:dh P e sz b z](h0:0<=n)(h2:n<=cap): (Instr.sliceAt t (.slice a len cap) none (some (.int k n)) none).run P w=.ok (.slice a n.toNat cap) w:=by
 have lk:P.elem t=e:=by have:=aE.h;simp[Program.elem,this]
 have hu:P.underlying t=some (.slice (P.elem t)):=by rw[lk];exact aE.h
 obtain⟨i,hi,ma,_⟩:=cP.h;rw[run_sliceAt_slice w t _ _ _ _ hu,run_slice_h w t a len cap hu k n h0 h2,lk];simp[sizeOf,typeInfo,hi,sliced,Result.andThen,MF]
theorem Sf{aQ:Type}{enc:aQ->List Value}{sz t tt e b:Nat}{z v:Value}{k:IntKind}{n:Nat}{xs:List aQ}{x y:Operand}[aE:fz P t e][cP:dh P e sz b z] (hx:bo tm c x v) (aR:bo tm c y (.int k (n:Int))) (hm:aA.own v tt sz enc xs∈H) (hb:c=true->n<=xs.length):bR P N (.slice t x none (some y) none) tm (Mem bs H) c (zl n v):=
 λai a w _ _ _ _ _ cn hw=>by simp only[execOp,hx.get cn ai,aR.get cn ai,Option.map];obtain⟨dI,cap,aw,h1,h2,h3⟩:=si (hw.own _ hm);subst aw;exact hG (afp (by omega) (by have:=hb ai;omega))
end
theorem Mem.last{bs:List dr}{H:List aA}{w:World}{B:dr}(h:Mem bs H w)(hB:bs.getLast?=some B):Mem [B] H w:=by
 refine⟨λC hC=>?_,h.own,h.fw,λC hC=>?_,h.h9⟩
 ·obtain rfl:=amv.1 hC;exact h.base _ (List.mem_of_getLast? hB)
 obtain rfl:=amv.1 hC;exact h.apart _ (List.mem_of_getLast? hB)
theorem ks.trans{S:Nat->Prop}{A B C:World}(h:ks S A B)(h2:ks S B C):ks S A C:=⟨h2.os.trans h.os,h2.tape.trans h.tape,h2.output.trans h.output,ani h.size h2.size,λk hk ct=>(h2.sR k (anH hk h.size) ct).trans (h.sR k hk ct)⟩
theorem cJ{N:Nat}{K:Act->World->Prop}{tm:dU}{A:World->Prop}(Bb:World->Prop) (hA:∀w,A w->Bb w) (h:cL N K tm Bb):cL N K tm A:=by unfold cL at *;exact λa w ag hw=>h a w ag (hA w hw)
theorem J4{H:List aA}{w a6 bX gb:World}(h1:Mem [(w,an)] H a6)(h2:Mem [(a6,an)] [] bX)(h3:Mem [(bX,an)] [] gb):Mem [(w,an)] [] gb:=by refine⟨λB hB=>?_,λe he=>(by cases he),λe he=>(by cases he),λB hB e he=>(by cases he),λi j fY gh _ hi=>by simp at hi⟩;obtain rfl:=amv.1 hB;exact((h1.base _ (.head _)).trans (h2.base _ (.head _))).trans (h3.base _ (.head _))
def gT(s u:ByteArray):Bool:=Op.bytesLess s.toList u.toList
theorem D2(s u:ByteArray):(s.toList==u.toList)=bO (s=u):=by
 rw[ByteArray.toList_eq,ByteArray.toList_eq,ch];by_cases h:s=u
 ·subst h;simp
 have:¬s.data=u.data:=λe=>h (ByteArray.ext e);simp[h,this]
def dM(s:ByteArray)(i:Nat):Nat:=(s.data.toList.getD i 0).toNat
def gU(sz l h:Nat):Value->Value
 | .slice a _ cap=>.slice (if cap=l then a else a.map (·.add (l* sz))) (h-l) (cap-l)
 | v=>v
theorem aD.sub{v:Value}(h:aD v)(sz l k:Nat):aD (gU sz l k v):=by obtain⟨a,n,cap,rfl⟩:=h;exact⟨_,_,_,rfl⟩
theorem Vr(a:Addr)(m n:Nat):(a.add m).add n=a.add (m+n):=add_add a m n
theorem aV.sub{aQ:Type}{S:Nat->Prop}{w:World}{enc:aQ->List Value}{sz:Nat}{v:Value}{xs:List aQ}(h:aV S w enc sz v xs)(l k:Nat)(aB:l<=k)(hk:k<=xs.length):aV S w enc sz (gU sz l k v) ((xs.take k).drop l):=by
 obtain⟨a,m,cap,rfl,rfl,h1,h2,h3⟩:=h.is;have bG:((xs.take k).drop l).length=k-l:=by rw[anD,amX];omega
 refine⟨⟨_,_,_,rfl,bG.symm,by omega,by omega,λhp=>?_⟩,λi x j u hi ad=>?_,λdI uA DN aw hp=>?_⟩
 ·have:=h3 (by omega);obtain⟨A,rfl⟩:=am7.1 this;split<;>rfl
 ·have gB:i<k-l:=by
   rcases amY i (k-l)with cr | cr
   ·exact cr
   rw[amR (by omega)]at hi;cases hi
  rw[anP,List.getElem?_take_of_lt (by omega)]at hi;have ai:=h.cell (l+i) x j u hi ad;obtain⟨A,rfl⟩:=am7.1 (h3 (by omega));have eE:¬cap=l:=by omega
  simp only[gU,eE,aor,aoq,gI,add_add]at ai⊢;rw[<-ai];congr 2;rw[aob]
 obtain⟨A,rfl⟩:=am7.1 (h3 (by simp only[gU]at aw;injection aw with bC cd hY;omega))
 simp only[gU]at aw;injection aw with bC cd hY;have:=h.w7 A _ _ rfl (by omega);split at bC
 ·injection bC with bC;subst bC;exact this
 simp only[aoq]at bC;injection bC with bC;subst bC;rw[Bm];exact this
section
variable {P:Program} {N:Nat} {tm:dU} {A:World->Prop} {bs:List dr} {H:List aA} {c:Bool}
theorem F8{op:BinOp}{t dt:TypeId}{x y:Operand}{s u:ByteArray}{v:Value}(hx:bo tm c x (.string s))(aR:bo tm c y (.string u)) (aH:∀w,(binOp op t (.string s) (.string u)).run P w=.ok v w):bR P N (.binOp op t x y dt) tm A c v:=
 λai a w _ _ _ _ _ ag _=>by
  simp only[execOp,hx.get ag ai,aR.get ag ai];have ay:(eqGuard op t x y (.string s) (.string u)).run P w=.ok () w:=by unfold eqGuard;cases op<;>rfl
  simp[ay,aH w]
theorem ad1{t dt:TypeId}{x y:Operand}{s u:ByteArray}(hx:bo tm c x (.string s):=by exact b7)(aR:bo tm c y (.string u):=by exact b7):bR P N (.binOp .eql t x y dt) tm A c (.bool (bO (s=u))):=F8 hx aR (λw=>by simp[binOp,Op.stringOp,D2])
theorem aeC{t dt:TypeId}{x y:Operand}{s u:ByteArray}(hx:bo tm c x (.string s):=by exact b7)(aR:bo tm c y (.string u):=by exact b7):bR P N (.binOp .neq t x y dt) tm A c (.bool (!bO (s=u))):=F8 hx aR (λw=>by simp[binOp,Op.stringOp,D2])
theorem aeu{t dt:TypeId}{x y:Operand}{s u:ByteArray}(hx:bo tm c x (.string s):=by exact b7)(aR:bo tm c y (.string u):=by exact b7):bR P N (.binOp .lss t x y dt) tm A c (.bool (gT s u)):=F8 hx aR (λw=>by simp[binOp,Op.stringOp,gT])
theorem ad8{t dt:TypeId}{x y:Operand}{s u:ByteArray}(hx:bo tm c x (.string s):=by exact b7)(aR:bo tm c y (.string u):=by exact b7):bR P N (.binOp .geq t x y dt) tm A c (.bool (!gT s u)):=F8 hx aR (λw=>by simp[binOp,Op.stringOp,gT])
theorem aeg{t:TypeId}{x:Operand}{s:ByteArray}[aE:jg P t .string](hx:bo tm c x (.string s):=by exact b7):bR P N (.call {callee:=.builtin .len,args:=#[x],argTypes:=#[t]}) tm A c (.int .i64 (s.size:Int)):=λai a w _ _ _ _ _ cn hw=>D5 (hx.get cn ai) (by simp[Builtin.len_,run_underlying aE.h,goInt])
theorem Sh{t:TypeId}{x y:Operand}{s:ByteArray}{k:IntKind}{n:Nat}[aE:jg P t .string](hx:bo tm c x (.string s):=by exact b7)(aR:bo tm c y (.int k (n:Int)):=by exact b7) (hb:c=true->n<s.size:=by first | (intro _;assumption) | (intro _;omega) | (intro ai;simp only[ami,amr,amk,amt,amx,amm,aq,ar]at ai;omega)):bR P N (.index t x y) tm A c (.int .u8 (dM s n:Int)):=
 λai a w _ _ _ _ _ cn hw=>by
  simp only[execOp,hx.get cn ai,aR.get cn ai];refine hG ?_;have h1:=hb ai;have h2:s[n]?=some (s.data.toList.getD n 0):=by have e:s.data.toList.length=s.size:=aop;rw[aml,amp (by omega),anE,getElem?_pos s n h1];rfl
  unfold dM;generalize s.data.toList.getD n 0=b at h2⊢;have h3:(0:Int)<=(n:Int):=by omega
  simp[Instr.index,asIntOf,run_underlying aE.h,h3,h2]
theorem aeb{t:TypeId}{x y:Operand}{s:ByteArray}{k:IntKind}{n:Int}[aE:jg P t .string](hx:bo tm c x (.string s):=by exact b7)(aR:bo tm c y (.int k n):=by exact b7) (hb:c=true->0<=n/\n<s.size:=by first | (intro _;omega) | (intro ai;simp only[ami,amr,amk,amt,amx,amm,aq,ar]at ai;omega)):bR P N (.index t x y) tm A c (.int .u8 (dM s n.toNat:Int)):=by
 by_cases ai:c=true
 ·obtain⟨m,rfl⟩:∃m:Nat,n=m:=⟨n.toNat,by have:=hb ai;omega⟩;rw[amw];exact Sh hx aR (λ_=>by have:=hb ai;omega)
 exact λh=>absurd h ai
theorem aet{t dt:TypeId}{x y:Operand}{m n:Int}(hx:bo tm c x (.int .u8 m):=by exact b7)(aR:bo tm c y (.int .u8 n):=by exact b7):bR P N (.binOp .lss t x y dt) tm A c (.bool (bO (m<n))):=qL hx aR (by simp) rfl
theorem aej{t dt:TypeId}{x y:Operand}{m n:Int}(hx:bo tm c x (.int .u8 m):=by exact b7)(aR:bo tm c y (.int .u8 n):=by exact b7):bR P N (.binOp .leq t x y dt) tm A c (.bool (bO (m<=n))):=qL hx aR (by simp) rfl
theorem aea{t dt:TypeId}{x y:Operand}{m n:Int}(hx:bo tm c x (.int .u8 m):=by exact b7)(aR:bo tm c y (.int .u8 n):=by exact b7):bR P N (.binOp .gtr t x y dt) tm A c (.bool (bO (n<m))):=qL hx aR (by simp) rfl
theorem ad7{t dt:TypeId}{x y:Operand}{m n:Int}(hx:bo tm c x (.int .u8 m):=by exact b7)(aR:bo tm c y (.int .u8 n):=by exact b7):bR P N (.binOp .geq t x y dt) tm A c (.bool (bO (n<=m))):=qL hx aR (by simp) rfl
theorem ad0{t dt:TypeId}{x y:Operand}{m n:Int}(hx:bo tm c x (.int .u8 m):=by exact b7)(aR:bo tm c y (.int .u8 n):=by exact b7):bR P N (.binOp .eql t x y dt) tm A c (.bool (bO (m=n))):=qL hx aR (by simp) rfl
theorem aeB{t dt:TypeId}{x y:Operand}{m n:Int}(hx:bo tm c x (.int .u8 m):=by exact b7)(aR:bo tm c y (.int .u8 n):=by exact b7):bR P N (.binOp .neq t x y dt) tm A c (.bool (!bO (m=n))):=qL hx aR (by simp) rfl
theorem yQ{t dt:TypeId}{x y:Operand}(n:Nat) (m:Nat) (hx:bo tm c x (.int .i64 (m:Int)):=by exact b7) (aR:bo tm c y (.int .i64 (n:Int)):=by exact b7) (bh:c=true->0<n:=by first | (intro _;assumption) | (intro _;omega)):bR P N (.binOp .rem t x y dt) tm A c (.int .i64 ((m % n:Nat):Int)):=by
 by_cases ai:c=true
 ·have h0:¬n=0:=by have:=bh ai;omega
  exact oA hx aR (λw=>by simp[binOp,Op.intDiv,h0];exact(Int.ofNat_tmod m n).symm)
 exact λh=>absurd h ai
theorem yP{t dt:TypeId}{x y:Operand}(n:Nat) (m:Nat) (hx:bo tm c x (.int .i64 (m:Int)):=by exact b7) (aR:bo tm c y (.int .i64 (n:Int)):=by exact b7) (bh:c=true->0<n:=by first | (intro _;assumption) | (intro _;omega)) (hm:m<9223372036854775808:=by first | assumption | omega):bR P N (.binOp .quo t x y dt) tm A c (.int .i64 ((m / n:Nat):Int)):=by
 by_cases ai:c=true
 ·have h0:¬n=0:=by have:=bh ai;omega
  have h2:m / n<9223372036854775808:=Nat.lt_of_le_of_lt (Nat.div_le_self m n) hm;have h1:IntKind.i64.wrap ((m / n:Nat):Int)=((m / n:Nat):Int):=z6 (n:=((m / n:Nat):Int)) ⟨by generalize m / n=q at *;omega,by generalize m / n=q at *;omega⟩;exact oA hx aR (λw=>by simp only[binOp,Op.intDiv,ne_eq,aoX,aor];rw[amn (by omega),show((m:Int).tdiv (n:Int))=((m / n:Nat):Int)from(Int.ofNat_tdiv m n).symm,h1];rfl)
 exact λh=>absurd h ai
theorem afq{t e sz b len cap:Nat}{z:Value}{a:Option Addr}{mK mL:IntKind}{l h:Nat}{w:World}[aE:fz P t e][cP:dh P e sz b z](h1:l<=h)(h2:h<=cap): (Instr.sliceAt t (.slice a len cap) (some (.int mK (l:Int))) (some (.int mL (h:Int))) none).run P w=.ok (gU sz l h (.slice a len cap)) w:=by
 have lk:P.elem t=e:=by have:=aE.h;simp[Program.elem,this]
 have hu:P.underlying t=some (.slice (P.elem t)):=by rw[lk];exact aE.h
 obtain⟨i,hi,ma,_⟩:=cP.h;rw[run_sliceAt_slice w t _ _ _ _ hu,run_slice_lh w t a len cap hu mK mL l h (by omega) (by omega) (by omega),lk];simp[sizeOf,typeInfo,hi,sliced,Result.andThen,gU,ma]
theorem S4{t e sz b len cap:Nat}{z:Value}{a:Option Addr}{mK:IntKind}{l:Nat}{w:World}[aE:fz P t e][cP:dh P e sz b z](h1:l<=len): (Instr.sliceAt t (.slice a len cap) (some (.int mK (l:Int))) none none).run P w=.ok (gU sz l len (.slice a len cap)) w:=by
 have lk:P.elem t=e:=by have:=aE.h;simp[Program.elem,this]
 have hu:P.underlying t=some (.slice (P.elem t)):=by rw[lk];exact aE.h
 obtain⟨i,hi,ma,_⟩:=cP.h;rw[run_sliceAt_slice w t _ _ _ _ hu,run_slice_l w t a len cap hu mK l (by omega) (by omega),lk];simp[sizeOf,typeInfo,hi,sliced,Result.andThen,gU,ma]
theorem KL{aQ:Type}{S:Nat->Prop}{B:World}{enc:aQ->List Value}{sz t e b:Nat}{z v:Value}{k:IntKind}{l:Nat}{xs:List aQ}{x y:Operand}[aE:fz P t e][cP:dh P e sz b z] (hx:bo tm c x v) (aR:bo tm c y (.int k (l:Int))) (h:aV S B enc sz v xs) (hb:c=true->l<=xs.length):bR P N (.slice t x (some y) none none) tm A c (gU sz l xs.length v):=
 λai a w _ _ _ _ _ cn hw=>by simp only[execOp,hx.get cn ai,aR.get cn ai,Option.map];obtain⟨dI,m',cap,rfl,rfl,h1,h2,h3⟩:=h.is;exact hG (S4 (hb ai))
theorem AB{aQ:Type}{sz t e b:Nat}{z v:Value}{k:IntKind}{x y:Operand}[aE:fz P t e][cP:dh P e sz b z](enc:aQ->List Value) (tt:Nat) (l:Nat) (xs:List aQ) (hx:bo tm c x v) (aR:bo tm c y (.int k (l:Int))) (hm:aA.own v tt sz enc xs∈H) (hb:c=true->l<=xs.length):bR P N (.slice t x (some y) none none) tm (Mem bs H) c (gU sz l xs.length v):=
 λai a w _ _ _ _ _ cn hw=>by simp only[execOp,hx.get cn ai,aR.get cn ai,Option.map];obtain⟨dI,cap,aw,h1,h2,h3⟩:=si (hw.own _ hm);subst aw;exact hG (S4 (hb ai))
end
section
variable {P:Program} {N:Nat} {Q pU:Exit->Act->World->Prop} {tm:dU} {A Bb:World->Prop} {ops:Array Oper} {rest:List Oper}
theorem F3{P:Program}{N:Nat}{op:Op}{tm:dU}{A:World->Prop}{c:Bool}{v:Value}(h:bR P N op tm A c v:=by first | (show bR _ _ (.move _) _ _ _ _;exact aev) | (show bR _ _ (.assign _) _ _ _ _;exact adS) | (show bR _ _ (.load _ _) _ _ _ _;first | exact ael | exact aem | exact aep | exact yO | exact aen | exact aeq | exact aek | exact akT) | (show bR _ _ (.fieldAddr _ _ _) _ _ _ _;first | exact ad3 | exact ad4) | (show bR _ _ (.indexAddr _ (.global _) _) _ _ _ _;exact aec) | (show bR _ _ (.indexAddr _ _ _) _ _ _ _;first | exact aed | exact aee | exact Sg | exact Si) | (show bR _ _ (.call _) _ _ _ _;first | exact aef | exact aeh | exact aeg | exact akU) | (show bR _ _ (.index _ _ _) _ _ _ _;first | exact Sh | exact aeb) | (show bR _ _ (.extract _ _) _ _ _ _;exact ad2) | (show bR _ _ (.pick _ _ _) _ _ _ _;first | exact aeG | exact aeH) | (show bR _ _ (.convert _ _ _) _ _ _ _;first | exact adU | exact adV | exact akP | exact adT) | (show bR _ _ (.unOp .not _ _) _ _ _ _;exact aeD) | (show bR _ _ (.unOp .neg _ _) _ _ _ _;first | exact aey | exact akW) | (show bR _ _ (.build _ _) _ _ _ _;exact F4) | (show bR _ _ (.makeFunc _ _ _) _ _ _ _;exact ad5) | (show bR _ _ (.binOp .lss _ _ _ _) _ _ _ _;first | exact aes | exact aet | exact aeu) | (show bR _ _ (.binOp .geq _ _ _ _) _ _ _ _;first | exact ad6 | exact ad7 | exact ad8) | (show bR _ _ (.binOp .gtr _ _ _ _) _ _ _ _;first | exact ad9 | exact aea | exact akR) | (show bR _ _ (.binOp .leq _ _ _ _) _ _ _ _;first | exact aei | exact aej | exact akS) | (show bR _ _ (.binOp .neq _ _ _ _) _ _ _ _;first | exact aez | exact aeA | exact aex | exact v8 _ _ _ | exact aeC | exact aeB) | (show bR _ _ (.binOp .eql _ _ _ _) _ _ _ _;first | exact adY | exact adZ | exact akQ | exact F6 | exact ad1 | exact ad0) | (show bR _ _ (.binOp .add _ _ _ _) _ _ _ _;first | exact adP | exact akO) | (show bR _ _ (.binOp .sub _ _ _ _) _ _ _ _;first | exact aeK | exact aeL) | (show bR _ _ (.binOp .mul _ _ _ _) _ _ _ _;first | exact akV | exact aew) | (show bR _ _ (.binOp .and _ _ _ _) _ _ _ _;exact adQ) | (show bR _ _ (.binOp .or _ _ _ _) _ _ _ _;exact aeE) | (show bR _ _ (.binOp .xor _ _ _ _) _ _ _ _;exact akX) | (show bR _ _ (.binOp .andNot _ _ _ _) _ _ _ _;exact adR) | (show bR _ _ (.binOp .shr _ _ _ _) _ _ _ _;exact aeJ) | (show bR _ _ (.binOp .shl _ _ _ _) _ _ _ _;exact aeI) | (show bR _ _ (.binOp .rem _ _ _ _) _ _ _ _;exact yQ _ _) | (show bR _ _ (.binOp .quo _ _ _ _) _ _ _ _;exact yP _ _)):bR P N op tm A c v:=h
theorem dg{d:Nat}{op:Op}{ty:TypeId}{pos:String}{cR:Array Edge}{v:Value}(h:bR P N op tm A true v:=by exact F3) (hd:Nat.blt d N=true:=by rfl) (ab:kv P N ops Q rest ((d,true,v)::tm) A):kv P N ops Q (⟨some d,op,ty,pos,cR,none⟩::rest) tm A:=aio h hd ab
theorem uR{d j g:Nat}{want ji b c:Bool}{op:Op}{ty:TypeId}{pos:String}{cR:Array Edge}{v:Value}(ad:(ops[j]?).bind (·.dst)=some g:=by rfl) (ay:jq tm g=some (ji,.bool b):=by rfl) (ai:c=(ji&&(b==want)):=by first | exact Ek _ | exact Ej _ | exact Ei _ _ | exact Eh _ _) (h:bR P N op tm A c v:=by exact F3) (hd:Nat.blt d N=true:=by rfl) (ab:kv P N ops Q rest ((d,c,v)::tm) A):kv P N ops Q (⟨some d,op,ty,pos,cR,some (j,want)⟩::rest) tm A:=aip ad ay ai h hd ab
variable {listed:Array Bool} {S:World->Prop} {order:List Nat} {fuel:Nat}
theorem jb{i d:Nat}{op:Op}{ty:TypeId}{pos:String}{cR:Array Edge}{v:Value}(hi:ops[i]?=some ⟨some d,op,ty,pos,cR,none⟩:=by rfl)(vl:u1 Q:=by repeat (first | exact R8 | apply R9 | apply R7))(hok:An ops listed i=true:=by kernel_rfl) (h:bR P N op tm S true v:=by exact F3) (hd:Nat.blt d N=true:=by rfl) (ab:cL N (hs P ops Q fuel (listed.setIfInBounds i true) S order) ((d,true,v)::tm) A):cL N (hs P ops Q (fuel+1) listed S (i::order)) tm A:=abd vl hi hok h hd ab
theorem Qf{i j g d:Nat}{want ji b c:Bool}{op:Op}{ty:TypeId}{pos:String}{cR:Array Edge}{v:Value}(hi:ops[i]?=some ⟨some d,op,ty,pos,cR,some (j,want)⟩:=by rfl)(vl:u1 Q:=by repeat (first | exact R8 | apply R9 | apply R7))(hok:An ops listed i=true:=by kernel_rfl) (ad:(ops[j]?).bind (·.dst)=some g:=by rfl) (ay:jq tm g=some (ji,.bool b):=by rfl) (ai:c=(ji&&(b==want)):=by first | exact Ek _ | exact Ej _ | exact Ei _ _ | exact Eh _ _) (h:bR P N op tm S c v:=by exact F3) (hd:Nat.blt d N=true:=by rfl) (ab:cL N (hs P ops Q fuel (listed.setIfInBounds i true) S order) ((d,c,v)::tm) A):cL N (hs P ops Q (fuel+1) listed S (i::order)) tm A:=abe vl hi hok ad ay ai h hd ab
theorem aa8(aH:Region.ready .any ops listed=[]:=by kernel_rfl)(h:gN N .normal Q tm A):cL N (hs P ops Q fuel listed S []) tm A:=aa7 aH h
theorem hz{i:Nat}{dst:Option Tmp}{op:Op}{ty:TypeId}{pos:String}{cR:Array Edge}(hi:ops[i]?=some ⟨dst,op,ty,pos,cR,none⟩:=by rfl)(aH:Region.ready .any ops listed=[i]:=by kernel_rfl) (hw:A7 .any ops i=true:=by kernel_rfl) (vx:Region.ready .any ops (listed.setIfInBounds i true)=[]:=by kernel_rfl) (h:gq P N op dst Q tm A (Q .normal)):cL N (hs P ops Q (fuel+1) listed S (i::order)) tm A:=abc hi aH hw vx h
theorem eG{i:Nat}{dst:Option Tmp}{op:Op}{ty:TypeId}{pos:String}{cR:Array Edge}(S':World->Prop)(hi:ops[i]?=some ⟨dst,op,ty,pos,cR,none⟩:=by rfl)(aH:Region.ready .any ops listed=[i]:=by kernel_rfl) (p4:A8 .any ops i listed=true:=by kernel_rfl) (h:gq P N op dst Q tm A (λdI I=>S' I/\hs P ops Q fuel (listed.setIfInBounds i true) S' order dI I)):cL N (hs P ops Q (fuel+1) listed S (i::order)) tm A:=aa9 hi aH p4 h
theorem bL{i:Nat}{dst:Option Tmp}{op:Op}{ty:TypeId}{pos:String}{cR:Array Edge}(S':World->Prop)(hi:ops[i]?=some ⟨dst,op,ty,pos,cR,none⟩:=by rfl)(aH:Region.ready .any ops listed=[i]:=by kernel_rfl) (qy:∀w,S' w->S w:=by first | exact λ_ h=>h | exact λ_ h=>h.tail | exact λ_ h=>h.cI) (h:gq P N op dst Q tm A (λdI I=>S' I/\hs P ops Q fuel (listed.setIfInBounds i true) S' order dI I)):cL N (hs P ops Q (fuel+1) listed S (i::order)) tm A:=aba hi aH qy h
end
attribute [irreducible] bR gq uV cL hs qm sJ sI qV bO uY mn
structure mX(Y:Prop):Prop where
 it:Y
theorem aa{X Y:Prop}(ab:Y)(step:mX Y->X:=by intro hE;(repeat (first | (show cL _ (wpList _ _ _ (⟨some _,_,_,_,_,none⟩::_)) _ _;refine dg (ab:=?_)) | (show cL _ (wpList _ _ _ (⟨some _,_,_,_,_,some _⟩::_)) _ _;refine uR (ab:=?_)) | refine ain ?_ | refine ado ?_ | refine aik ?_ | refine aif ?_ | refine aib ?_ | refine adj ?_ | refine aih ?_ | refine adr ?_ | refine adm ?_ | refine aid ?_ | refine adp ?_ | refine adk ?_ | refine adl rfl ?_ | refine ail ?_));exact hE.it):X:=step ⟨ab⟩
theorem aP{X Y:Prop}(ab:Y)(step:mX Y->X:=by intro hE;(repeat (first | refine jb (ab:=?_) | refine Qf (ab:=?_) | refine aa8 (h:=?_)));exact hE.it):X:=step ⟨ab⟩
end Go.cc
namespace Go.cc
theorem af{X Y:Prop}(ab:Y)(step:mX Y->X:=by intro hE;(refine aa ?_;repeat ((first | refine dg tA (ab:=?_) | refine uR (h:=tA) (ab:=?_));refine aa ?_));exact hE.it):X:=step ⟨ab⟩
theorem bI{X Y:Prop}(ab:Y)(step:mX Y->X:=by intro hE;(refine aP ?_;repeat ((first | refine jb (h:=tA) (ab:=?_) | refine Qf (h:=tA) (ab:=?_));refine aP ?_));exact hE.it):X:=step ⟨ab⟩
end Go.cc
namespace Go.cc
open Go Go.RowKit
section
variable {P:Program} {N:Nat} {Q:Exit->Act->World->Prop} {K:Act->World->Prop} {tm:dU} {ops:Array Oper} {rest:List Oper} {bs:List dr} {H:List aA} {A:World->Prop} {ty:TypeId} {pos:String} {cR:Array Edge}
theorem bQ{t n ky:Nat}{z v:Value}{x y:Operand}{b off tt:Nat}{cs vs:List Value}{Y:Prop}[cP:dh P t n ky z](i:Nat)(ab:Y)(hx:bo tm true x (.pointer (some ⟨b,off,none⟩)):=by exact b7)(aR:bo tm true y v:=by exact b7)(fC:v.cells=vs.toArray:=by exact sW)(hi:H[i]?=some (.box b cs tt):=by rfl)(bh:vs.length=n:=by rfl)(rb:Nat.ble (off+n) cs.length=true:=by rfl)(h1:pS vs:=by exact FR)(step:mX Y->kv P N ops Q rest tm (Mem bs (H.set i (.box b (lay cs off vs) tt))):=by intro hE;refine aa ?_;exact hE.it):kv P N ops Q (⟨none,.store t x y,ty,pos,cR,none⟩::rest) tm (Mem bs H):=ao (bD i hx aR fC hi bh rb h1 (step ⟨ab⟩))
theorem ck{d:Nat}{t:TypeId}{x:Operand}{v:Value}{cs:List Value}{Y:Nat->Prop}(ab:∀b,Y b)(hx:bo tm true x v:=by exact b7)(fC:v.cells=cs.toArray:=by exact sW)(hd:Nat.blt d N=true:=by rfl)(step:∀b,mX (Y b)->kv P N ops Q rest ((d,true,.pointer (some ⟨b,0,none⟩))::tm) (Mem bs (.box b cs t::H)):=by intro b hE;refine aa ?_;exact hE.it):kv P N ops Q (⟨some d,.box t x,ty,pos,cR,none⟩::rest) tm (Mem bs H):=ao (q5 (λb=>step b ⟨ab b⟩) hx fC hd)
theorem cU{d:Nat}{t:TypeId}{n b:Nat}{z:Value}{cs:List Value}{Y:Nat->Prop}[cP:dh P t n b z](ab:∀b,Y b)(fC:z.cells=cs.toArray:=by rfl)(hd:Nat.blt d N=true:=by rfl)(step:∀b,mX (Y b)->kv P N ops Q rest ((d,true,.pointer (some ⟨b,0,none⟩))::tm) (Mem bs (.box b cs t::H)):=by intro b hE;refine aa ?_;exact hE.it):kv P N ops Q (⟨some d,.alloc t,ty,pos,cR,none⟩::rest) tm (Mem bs H):=ao (ft (λb=>step b ⟨ab b⟩) fC hd)
theorem ca{k:FuncId}{fn:Func}{code:Code}{args:List Value}{w:World}{Φ:Nat->Value->World->Prop}{Y:Prop}(hf:P.funcs[k]?=some fn)(iK:fn.ntmps=N)(ab:Y)(hb:fn.body=some code:=by exact rfl)(bG:Nat.ble args.length N=true:=by exact rfl)(step:mX Y->cL N (code.wp P (bodyPost P fn (qm w Φ))) (qO 0 args) (Mem [(w,an)] []):=by intro hE;refine aa ?_;exact hE.it):bj P k args w Φ:=N0 hf iK hb bG (step ⟨ab⟩)
theorem iY{k:FuncId}{fn:Func}{code:Code}{args:List Value}{w:World}{Ψ:Nat->Value->List aA->World->Prop}{Y:Prop}(hf:P.funcs[k]?=some fn)(iK:fn.ntmps=N)(ab:Y)(hb:fn.body=some code:=by exact rfl)(bG:Nat.ble args.length N=true:=by exact rfl)(step:mX Y->cL N (code.wp P (bodyPost P fn (sI w Ψ))) (qO 0 args) (Mem [(w,an)] []):=by intro hE;refine aa ?_;exact hE.it):eH P k args w Ψ:=NZ hf iK hb bG (step ⟨ab⟩)
theorem rP{k:FuncId}{fn:Func}{code:Code}{args:List Value}{es:List aA}{w:World}{Ψ:Nat->Value->List aA->World->Prop}{Y:Prop}(hf:P.funcs[k]?=some fn)(iK:fn.ntmps=N)(hw:Mem [] es w)(ab:Y)(hb:fn.body=some code:=by exact rfl)(bG:Nat.ble args.length N=true:=by exact rfl)(step:mX Y->cL N (code.wp P (bodyPost P fn (qV es w Ψ))) (qO 0 args) (Mem [(w,bB es)] es):=by intro hE;refine aa ?_;exact hE.it):eM P k args es w Ψ:=s4 hf iK hb bG hw (step ⟨ab⟩)
theorem bl{X:Prop}{fn:Func}{w:World}{Φ:Nat->Value->World->Prop}{t:Tmp}{v:Value}(ab:∀I,Mem bs H I->Φ w.heap.size (pI [v]) I)(step:mX (gN N .ret (bodyPost P fn (qm w Φ)) tm (Mem bs H))->X:=by intro hE;refine aa ?_;exact hE.it)(aH:fn.results=#[.tmp t]:=by exact rfl)(h:jq tm t=some (true,v):=by exact rfl)(hB:(w,an)∈bs:=by exact ox):X:=step ⟨bP (rs:=[.tmp t]) (vs:=[v]) aH (.tmp h .nil) (hB:=hB) (qC:=ab)⟩
theorem bg{X:Prop}{x:Operand}{b:Bool}{c d:Code}(aE:b=true->fh P N c Q tm A)(hf:b=false->fh P N d Q tm A)(step:mX (fh P N (.cond x c d) Q tm A)->X:=by intro hE;refine aa ?_;exact hE.it)(hx:aN tm x=some (true,.bool b):=by exact rfl):X:=step ⟨cK hx aE hf⟩
theorem c0{t n ky:Nat}{z v:Value}{x y:Operand}{b off tt:Nat}{cs vs:List Value}{Y:Prop}[cP:dh P t n ky z](i:Nat)(ab:Y)(hx:bo tm true x (.pointer (some ⟨b,off,none⟩)):=by exact b7)(aR:bo tm true y v:=by exact b7)(fC:v.cells=vs.toArray:=by exact sW)(hi:H[i]?=some (.box b cs tt):=by rfl)(bh:vs.length=n:=by rfl)(rb:Nat.ble (off+n) cs.length=true:=by rfl)(h1:pS vs:=by exact FR)(step:mX Y->kv P N ops Q rest tm (Mem bs (H.set i (.box b (lay cs off vs) tt))):=by intro hE;refine af ?_;exact hE.it):kv P N ops Q (⟨none,.store t x y,ty,pos,cR,none⟩::rest) tm (Mem bs H):=ao (bD i hx aR fC hi bh rb h1 (step ⟨ab⟩))
theorem eQ{d:Nat}{t:TypeId}{x:Operand}{v:Value}{cs:List Value}{Y:Nat->Prop}(ab:∀b,Y b)(hx:bo tm true x v:=by exact b7)(fC:v.cells=cs.toArray:=by exact sW)(hd:Nat.blt d N=true:=by rfl)(step:∀b,mX (Y b)->kv P N ops Q rest ((d,true,.pointer (some ⟨b,0,none⟩))::tm) (Mem bs (.box b cs t::H)):=by intro b hE;refine af ?_;exact hE.it):kv P N ops Q (⟨some d,.box t x,ty,pos,cR,none⟩::rest) tm (Mem bs H):=ao (q5 (λb=>step b ⟨ab b⟩) hx fC hd)
theorem dH{d:Nat}{t:TypeId}{n b:Nat}{z:Value}{cs:List Value}{Y:Nat->Prop}[cP:dh P t n b z](ab:∀b,Y b)(fC:z.cells=cs.toArray:=by rfl)(hd:Nat.blt d N=true:=by rfl)(step:∀b,mX (Y b)->kv P N ops Q rest ((d,true,.pointer (some ⟨b,0,none⟩))::tm) (Mem bs (.box b cs t::H)):=by intro b hE;refine af ?_;exact hE.it):kv P N ops Q (⟨some d,.alloc t,ty,pos,cR,none⟩::rest) tm (Mem bs H):=ao (ft (λb=>step b ⟨ab b⟩) fC hd)
theorem gP{k:FuncId}{fn:Func}{code:Code}{args:List Value}{w:World}{Φ:Nat->Value->World->Prop}{Y:Prop}(hf:P.funcs[k]?=some fn)(iK:fn.ntmps=N)(ab:Y)(hb:fn.body=some code:=by exact rfl)(bG:Nat.ble args.length N=true:=by exact rfl)(step:mX Y->cL N (code.wp P (bodyPost P fn (qm w Φ))) (qO 0 args) (Mem [(w,an)] []):=by intro hE;refine af ?_;exact hE.it):bj P k args w Φ:=N0 hf iK hb bG (step ⟨ab⟩)
theorem zq{k:FuncId}{fn:Func}{code:Code}{args:List Value}{w:World}{Ψ:Nat->Value->List aA->World->Prop}{Y:Prop}(hf:P.funcs[k]?=some fn)(iK:fn.ntmps=N)(ab:Y)(hb:fn.body=some code:=by exact rfl)(bG:Nat.ble args.length N=true:=by exact rfl)(step:mX Y->cL N (code.wp P (bodyPost P fn (sI w Ψ))) (qO 0 args) (Mem [(w,an)] []):=by intro hE;refine af ?_;exact hE.it):eH P k args w Ψ:=NZ hf iK hb bG (step ⟨ab⟩)
theorem jO{k:FuncId}{fn:Func}{code:Code}{args:List Value}{es:List aA}{w:World}{Ψ:Nat->Value->List aA->World->Prop}{Y:Prop}(hf:P.funcs[k]?=some fn)(iK:fn.ntmps=N)(hw:Mem [] es w)(ab:Y)(hb:fn.body=some code:=by exact rfl)(bG:Nat.ble args.length N=true:=by exact rfl)(step:mX Y->cL N (code.wp P (bodyPost P fn (qV es w Ψ))) (qO 0 args) (Mem [(w,bB es)] es):=by intro hE;refine af ?_;exact hE.it):eM P k args es w Ψ:=s4 hf iK hb bG hw (step ⟨ab⟩)
theorem px{X:Prop}{fn:Func}{w:World}{Φ:Nat->Value->World->Prop}{t:Tmp}{v:Value}(ab:∀I,Mem bs H I->Φ w.heap.size (pI [v]) I)(step:mX (gN N .ret (bodyPost P fn (qm w Φ)) tm (Mem bs H))->X:=by intro hE;refine af ?_;exact hE.it)(aH:fn.results=#[.tmp t]:=by exact rfl)(h:jq tm t=some (true,v):=by exact rfl)(hB:(w,an)∈bs:=by exact ox):X:=step ⟨bP (rs:=[.tmp t]) (vs:=[v]) aH (.tmp h .nil) (hB:=hB) (qC:=ab)⟩
theorem di{X:Prop}{x:Operand}{b:Bool}{c d:Code}(aE:b=true->fh P N c Q tm A)(hf:b=false->fh P N d Q tm A)(step:mX (fh P N (.cond x c d) Q tm A)->X:=by intro hE;refine af ?_;exact hE.it)(hx:aN tm x=some (true,.bool b):=by exact rfl):X:=step ⟨cK hx aE hf⟩
theorem bA{x:Operand}{b:Bool}{c d:Code}(aE:b=true->fh P N c Q tm A)(hf:b=false->fh P N d Q tm A)(hx:aN tm x=some (true,.bool b):=by exact rfl):fh P N (.cond x c d) Q tm A:=cK hx aE hf
theorem bM{es:List aA}{B:dr}(is:List Nat)(hB:bs.getLast?=some B:=by exact rfl)(k1:is.map (λi=>H[i]?)=es.map some:=by rfl)(bh:is.Nodup:=by decide):∀w,Mem bs H w->Mem [B] es w:=λw h=>(h.last hB).cm is k1 bh
theorem c7{B:dr}(hB:bs.getLast?=some B:=by exact rfl):∀w,Mem bs H w->Mem [B] H w:=λw h=>h.last hB
theorem eS{B:dr}:∀w,Mem (B::bs) H w->Mem bs H w:=λ_ h=>h.cI
theorem iG{e:aA}:∀w,Mem bs (e::H) w->Mem bs H w:=λ_ h=>h.tail
theorem bV{es:List aA}(is:List Nat)(k1:is.map (λi=>H[i]?)=es.map some:=by rfl)(bh:is.Nodup:=by decide):∀w,Mem bs H w->Mem bs es w:=λ_ h=>h.cm is k1 bh
theorem dx{α:Sort _}{B:α->Sort _}:∀a,B a->True:=λ_ _=>trivial
theorem jf.dz{t:Tmp}{ty b tt n:Nat}{cs:List Value}{rs:List ResultVar}{vs:List Value}[bp:hI P ty n](h:jq tm t=some (true,.pointer (some ⟨b,0,none⟩)))(hm:aA.box b cs tt∈H)(bh:Nat.beq cs.length n=true)(r:jf P tm H rs vs):jf P tm H (.cell t ty::rs) (.agg cs.toArray::vs):=.Hk bp h hm bh r
theorem bw{d k:Nat}{f:Operand}{xs:List Operand}{ts:Array TypeId}{first cap vs:List Value}{Φ:Nat->Value->World->Prop}[hF:aS P k](a7:∀w,Mem bs H w->bj P k (first++vs++cap) w Φ)(ab:∀v n a6,Φ n v a6->n<=a6.heap.size->cL N K ((d,true,v)::tm) (Mem ((a6,Fr n)::bs) H))(hf:bo tm true f (.func (.func k) first.toArray cap.toArray):=by exact b7)(hxs:jX tm true xs vs:=by exact xQ)(hd:Nat.blt d N=true:=by rfl):gq P N (.call {callee:=.value f,args:=xs.toArray,argTypes:=ts}) (some d) Q tm (Mem bs H) K:=iJ (hf:=hf) (hxs:=hxs) (hd:=hd) (a7:=a7) (ab:=ab)
theorem gr{d k:Nat}{f:Operand}{xs:List Operand}{ts:Array TypeId}{first cap vs:List Value}{Ψ:Nat->Value->List aA->World->Prop}[hF:aS P k](a7:∀w,Mem bs H w->eH P k (first++vs++cap) w Ψ)(ab:∀v n es a6,Ψ n v es a6->cL N K ((d,true,v)::tm) (Mem ((a6,jx n es)::bs) (es++H)))(hf:bo tm true f (.func (.func k) first.toArray cap.toArray):=by exact b7)(hxs:jX tm true xs vs:=by exact xQ)(hd:Nat.blt d N=true:=by rfl):gq P N (.call {callee:=.value f,args:=xs.toArray,argTypes:=ts}) (some d) Q tm (Mem bs H) K:=gS (hf:=hf) (hxs:=hxs) (hd:=hd) (a7:=a7) (ab:=ab)
end
theorem aL{α:Type _}{x:α}{l:List α}:x∈x::l:=.head _
theorem ds{α:Type _}{x a0:α}{l:List α}:x∈a0::x::l:=.tail _ (.head _)
theorem gC{α:Type _}{x a0 dG:α}{l:List α}:x∈a0::dG::x::l:=.tail _ (.tail _ (.head _))
theorem mh{α:Type _}{x a0 dG a2:α}{l:List α}:x∈a0::dG::a2::x::l:=.tail _ (.tail _ (.tail _ (.head _)))
theorem qE{α:Type _}{x a0 dG a2 a3:α}{l:List α}:x∈a0::dG::a2::a3::x::l:=.tail _ (.tail _ (.tail _ (.tail _ (.head _))))
theorem pE{α:Type _}{x a0 dG a2 a3 a4:α}{l:List α}:x∈a0::dG::a2::a3::a4::x::l:=.tail _ (.tail _ (.tail _ (.tail _ (.tail _ (.head _)))))
theorem nS{α:Type _}{x a0 dG a2 a3 a4 a5:α}{l:List α}:x∈a0::dG::a2::a3::a4::a5::x::l:=.tail _ (.tail _ (.tail _ (.tail _ (.tail _ (.tail _ (.head _))))))
theorem vO{α:Type _}{x a0 dG a2 a3 a4 a5 nA:α}{l:List α}:x∈a0::dG::a2::a3::a4::a5::nA::x::l:=.tail _ (.tail _ (.tail _ (.tail _ (.tail _ (.tail _ (.tail _ (.head _)))))))
theorem JW{α:Type _}{x a0 dG a2 a3 a4 a5 nA oJ:α}{l:List α}:x∈a0::dG::a2::a3::a4::a5::nA::oJ::x::l:=.tail _ (.tail _ (.tail _ (.tail _ (.tail _ (.tail _ (.tail _ (.tail _ (.head _))))))))
theorem QJ{α:Type _}{x a0 dG a2 a3 a4 a5 nA oJ qX:α}{l:List α}:x∈a0::dG::a2::a3::a4::a5::nA::oJ::qX::x::l:=.tail _ (.tail _ (.tail _ (.tail _ (.tail _ (.tail _ (.tail _ (.tail _ (.tail _ (.head _)))))))))
theorem Fy{α:Type _}{x a0 dG a2 a3 a4 a5 nA oJ qX a9:α}{l:List α}:x∈a0::dG::a2::a3::a4::a5::nA::oJ::qX::a9::x::l:=.tail _ (.tail _ (.tail _ (.tail _ (.tail _ (.tail _ (.tail _ (.tail _ (.tail _ (.tail _ (.head _))))))))))
theorem Fz{α:Type _}{x a0 dG a2 a3 a4 a5 nA oJ qX a9 u3:α}{l:List α}:x∈a0::dG::a2::a3::a4::a5::nA::oJ::qX::a9::u3::x::l:=.tail _ (.tail _ (.tail _ (.tail _ (.tail _ (.tail _ (.tail _ (.tail _ (.tail _ (.tail _ (.tail _ (.head _)))))))))))
theorem abX{α:Type _}{x a0 dG a2 a3 a4 a5 nA oJ qX a9 u3 xA:α}{l:List α}:x∈a0::dG::a2::a3::a4::a5::nA::oJ::qX::a9::u3::xA::x::l:=.tail _ (.tail _ (.tail _ (.tail _ (.tail _ (.tail _ (.tail _ (.tail _ (.tail _ (.tail _ (.tail _ (.tail _ (.head _))))))))))))
theorem abY{α:Type _}{x a0 dG a2 a3 a4 a5 nA oJ qX a9 u3 xA a12:α}{l:List α}:x∈a0::dG::a2::a3::a4::a5::nA::oJ::qX::a9::u3::xA::a12::x::l:=.tail _ (.tail _ (.tail _ (.tail _ (.tail _ (.tail _ (.tail _ (.tail _ (.tail _ (.tail _ (.tail _ (.tail _ (.tail _ (.head _)))))))))))))
theorem QI{α:Type _}{x a0 dG a2 a3 a4 a5 nA oJ qX a9 u3 xA a12 G4 G5:α}{l:List α}:x∈a0::dG::a2::a3::a4::a5::nA::oJ::qX::a9::u3::xA::a12::G4::G5::x::l:=.tail _ (.tail _ (.tail _ (.tail _ (.tail _ (.tail _ (.tail _ (.tail _ (.tail _ (.tail _ (.tail _ (.tail _ (.tail _ (.tail _ (.tail _ (.head _)))))))))))))))
theorem abZ{α:Type _}{x a0 dG a2 a3 a4 a5 nA oJ qX a9 u3 xA a12 G4 G5 Vm:α}{l:List α}:x∈a0::dG::a2::a3::a4::a5::nA::oJ::qX::a9::u3::xA::a12::G4::G5::Vm::x::l:=.tail _ (.tail _ (.tail _ (.tail _ (.tail _ (.tail _ (.tail _ (.tail _ (.tail _ (.tail _ (.tail _ (.tail _ (.tail _ (.tail _ (.tail _ (.tail _ (.head _))))))))))))))))
end Go.cc
