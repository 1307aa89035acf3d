/- Lemmas for the law WholeComplete. -/
import Derived.ScopeJumps
import Derived.Test.YtiknadellddjhaaGreatDoorC10
import Derived.Test.YtiknadellddjhaaGreatDoorC14
import Derived.Test.YtiknadellddjhaaGreatDoorC16
set_option linter.all false
open Go.Proofs.Tryz
set_option maxHeartbeats 3200000
open Go Go.b9 Go.bM Go.gG Go.fo
namespace Go.b9
open Go
structure Ef where
 n:Int
 s:Value
instance:Inhabited Ef:=⟨⟨0,.nilIface⟩⟩
def H9(r:Ef):List Value:=[.int .i64 r.n,r.s]
def X1:List Value->Ef | [a,b]=>⟨ja a,b⟩ | _=>⟨0,.nilIface⟩
instance:eg H9 2:=⟨λ_=>rfl,by decide⟩
end Go.b9
namespace Go.Proofs.bA
attribute [local irreducible] wpList Code.wp bodyPost Exit.then Exit.inBlock Calls
instance:jo prog 113 H9 X1:=⟨trivial⟩
end Go.Proofs.bA
namespace Go.bM
theorem VB{t:aW}{loc x:Int}:x∈wr t loc↔∃i:Nat,i<t.J.length/\x=i/\(t.J.getD i default).dir=2/\(t.J.getD i default).loc=loc:=by
 unfold wr rf;simp only[ao9,apd,aoQ,nQ,aoo,aop];constructor
 ·rintro⟨i,⟨h1,h2,h3⟩,rfl⟩;exact⟨i,h1,rfl,h2,h3⟩
 rintro⟨i,h1,rfl,h2,h3⟩;exact⟨i,⟨h1,h2,h3⟩,rfl⟩
theorem XO{t:aW}{c:cw}(ai:oD t c=true){k:Nat}(hk:k<t.aO.length):(c.co.getD k default).Perm (wr t (k:Int)):=by have:=((r6 t c).1 ai).2.2.2 k hk;rw[D0,aop]at this;exact this▸(G0 _).symm
theorem Oc{t:aW}{c:cw}(a1:fj t c=0):e0 t=true/\oD t c=true:=by
 unfold fj at a1;by_cases h1:e0 t=true
 ·rw[aou h1]at a1;by_cases h2:oD t c=true
  ·exact⟨h1,h2⟩
  rw[aot h2]at a1;cases a1
 rw[aot h1]at a1;cases a1
theorem agM{t:aW}{c:cw}(ai:oD t c=true){i:Nat}(hi:i<t.J.length):c.bE.getD i default= -1\/((t.J.getD i default).dir=1/\c.bE.getD i default∈wr t (t.J.getD i default).loc):=by have:=((r6 t c).1 ai).2.2.1 i hi;simp only[DE,aox,aoo,aop]at this;exact this
theorem agN{t:aW}{c:cw}(ai:oD t c=true){i:Nat}(hi:i<t.J.length):c.bE.getD i default<t.J.length:=by
 rcases agM ai hi with h | ⟨_,h⟩
 ·omega
 obtain⟨j,ae,e,_⟩:=VB.1 h;omega
theorem AP{t:aW}(h:e0 t=true):t.init.length=t.aO.length:=by simp only[e0,aoo,kZ,aop]at h;exact h.1.1.1.1.1.1.1.2
theorem Ic{t:aW}(h:e0 t=true):t.cf.length=t.ends.length/\t.cf.length<=1024:=by simp only[e0,aoo,tY,aop]at h;exact h.2.1
theorem Yl{t:aW}(h:e0 t=true){i:Nat}(hi:i<t.ends.length): (t.ends.getD i default).kind=1\/((t.ends.getD i default).kind=2/\0<=(t.ends.getD i default).n/\(t.ends.getD i default).n<t.J.length)\/((t.ends.getD i default).kind=3/\0<=(t.ends.getD i default).n/\(t.ends.getD i default).n<t.aO.length):=by
 have aL:=Ic h;simp only[e0,aoo,tY,fT]at h;have h1:=h.2.2 i (by omega);simp only[q5,aoo]at h1;have h2:=h1.1;unfold lk at h2;split at h2
 ·unfold AW at h2;split at h2
  ·rename_i k hk;simp only[aoo,aop]at h2;have dq:k<t.aO.length:=by rw[List.findIdx?_eq_some_iff_getElem]at hk;exact hk.1
   exact .inr (.inr ⟨h2.1.2,by omega,by omega⟩)
  cases h2
 simp only[vM,aoo,aox,aop]at h2;rcases h2.2 with h3 | h3
 ·exact .inl h3.1
 exact .inr (.inl ⟨h3.1.1.1.1,h3.1.1.1.2,h3.1.1.2⟩)
def nn(t:aW)(c:cw)(i:Nat):Int:=if(t.J.getD i default).dir=2 then(t.J.getD i default).value else if c.bE.getD i default<0 then t.init.getD (t.J.getD i default).loc.toNat default else(t.J.getD (c.bE.getD i default).toNat default).value
def x1(t:aW)(c:cw):List Int:=(List.range t.J.length).map (nn t c)
def pF(n:Nat)(f:Nat->Int)(i:Nat):List Int:=(List.range n).map λq=>if q<i then f q else 0
theorem Pk(n:Nat)(f:Nat->Int)(i:Nat):(pF n f i).length=n:=by simp[pF]
theorem Pl(n:Nat)(f:Nat->Int):pF n f 0=List.replicate n 0:=by unfold pF;apply apq (by simp);intro i h1 h2;simp
theorem Pj(n:Nat)(f:Nat->Int):pF n f n=(List.range n).map f:=by unfold pF;refine apP λq ba=>?_;rw[aoQ]at ba;rw[aou ba]
theorem EO{n:Nat}{f:Nat->Int}{i:Nat}(hi:i<n){x:Int}(hx:x=f i):(pF n f i).set i x=pF n f (i+1):=by
 subst hx;unfold pF;apply apq (by simp);intro q h1 h2;rw[aqK];simp only[aq3,aqO];by_cases e:i=q
 ·subst e;rw[aou rfl,aou (by omega)]
 rw[aot e];by_cases r:q<i
 ·rw[aou r,aou (by omega)]
 rw[aot r,aot (by omega)]
theorem Vk{t:aW}{c:cw}{i:Nat}(hi:i<t.J.length):(x1 t c).getD i default=nn t c i:=by unfold x1;rw[aor,ao4,apk hi];rfl
theorem ajz(t:aW)(c:cw):(x1 t c).length=t.J.length:=by simp[x1]
def qI(t:aW)(c:cw)(i:Nat):Int:=if(t.ends.getD i default).kind=1 then(t.ends.getD i default).n else if(t.ends.getD i default).kind=2 then nn t c (t.ends.getD i default).n.toNat else if(c.co.getD (t.ends.getD i default).n.toNat default).length=0 then t.init.getD (t.ends.getD i default).n.toNat default else nn t c ((c.co.getD (t.ends.getD i default).n.toNat default).getD ((c.co.getD (t.ends.getD i default).n.toNat default).length-1) default).toNat
def uz(t:aW)(c:cw):List Int:=(List.range t.ends.length).map (qI t c)
theorem YI(t:aW)(c:cw):(uz t c).length=t.ends.length:=by simp[uz]
theorem YH{t:aW}{c:cw}{i:Nat}(hi:i<t.ends.length):(uz t c).getD i default=qI t c i:=by unfold uz;rw[aor,ao4,apk hi];rfl
end Go.bM
universe u
namespace Go.b9
open Go
section
variable {P:Program} {N:Nat} {Q:Exit->Act->World->Prop} {tm:dY} {A:World->Prop}
theorem aj3{c rest:Code}{e2:Type u}(l:Nat)(ee:e2->Prop)(T:e2->dY)(bV:e2->World->Prop)(jc:e2->Nat)(hf:findLabel c l=some rest)(first:fp P N c (Exit.jump l (mQ N ee T bV) Q) tm A) (pass:∀s,ee s->fp P N rest (Exit.jump l (vr N ee T bV jc s) Q) (T s) (bV s)):fp P N (.scope c) Q tm A:=by
 unfold fp cR at *;intro a w aj hw;have least:∀(a:Act) (w:World),mQ N ee T bV a w->∃m,(∃s,ee s/\iG N (T s) a/\bV s w/\jc s=m)/\∀s,ee s->iG N (T s) a->bV s w->m<=jc s:=λa w hex=>by
  unfold mQ at hex;obtain⟨s,h1,h2,h3⟩:=hex;generalize hk:jc s=k
  induction k using Nat.strongRecOn generalizing s with
  | ind k bP=>
   by_cases dq:∃s',ee s'/\iG N (T s') a/\bV s' w/\jc s'<k
   ·obtain⟨s',g1,g2,g3,g4⟩:=dq;exact bP _ g4 s' g1 g2 g3 rfl
   exact⟨k,⟨s,h1,h2,h3,hk⟩,λs' g1 g2 g3=>Nat.le_of_not_lt λg4=>dq ⟨s',g1,g2,g3,g4⟩⟩
 refine wp_scope_jumps l (mQ N ee T bV) (λa w=>Classical.epsilon λm=>(∃s,ee s/\iG N (T s) a/\bV s w/\jc s=m)/\∀s,ee s->iG N (T s) a->bV s w->m<=jc s) hf (first a w aj hw) λa w iq=>?_;obtain⟨⟨s,h1,h2,h3,aA⟩,aaq⟩:=aq5 (least a w iq);refine wp_mono (pass s h1 a w h2 h3) λe dJ I q=>?_;cases e with
 | goto l'=>
  obtain⟨e,q⟩:=q;unfold vr at q;obtain⟨s',g1,g2,g3,g4⟩:=q;have ai:mQ N ee T bV dJ I:=by unfold mQ;exact⟨s',g1,g3,g4⟩
  have kA:=aq5 (least dJ I ai);exact⟨e,ai,Nat.lt_of_le_of_lt (kA.2 s' g1 g3 g4) (apJ g2 (Nat.le_of_eq aA))⟩
 | _=>exact q
theorem aj4{c rest:Code}{e2:Type u}(l:Nat)(ee:e2->Prop)(T:e2->dY)(bV:e2->World->Prop)(jc:e2->Nat)(hf:findLabel c l=some (.seq .skip rest)) (pass:∀s,ee s->fp P N rest (Exit.jump l (vr N ee T bV jc s) Q) (T s) (bV s)) (first:(∀s,ee s->fp P N rest (Exit.jump l (mQ N ee T bV) Q) (T s) (bV s))->fp P N c (Exit.jump l (mQ N ee T bV) Q) tm A):fp P N (.scope c) Q tm A:=by
 refine aj3 l ee T bV jc hf (first λs iq=>?_) λs iq=>?_
 ·have h:=pass s iq;unfold fp cR at *;intro a w h2 h3;refine wp_mono (h a w h2 h3) λe dJ I q=>?_;cases e with
  | goto l'=>obtain⟨e,q⟩:=q;unfold vr at q;obtain⟨s',g1,g2,g3,g4⟩:=q;exact⟨e,by unfold mQ;exact⟨s',g1,g3,g4⟩⟩
  | _=>exact q
 have h:=pass s iq;unfold fp cR at *;exact λa w aj hw=>wp_seq (wp_skip (h a w aj hw))
theorem ajY{l:Nat}{rest:Code}{e2:Type u}{ee:e2->Prop}{T:e2->dY}{bV:e2->World->Prop}{pZ:Exit->Act->World->Prop}(hp:∀s,ee s->fp P N rest Q (T s) (bV s))(s:e2)(iq:ee s)(aj:vw (T s) tm)(hA:∀w,A w->bV s w): fp P N (.label l) (Exit.then (λa w=>rest.wp P Q a w) pZ) tm A:=by have h:=hp s iq;unfold fp cR at *;exact λa w cy hw=>wp_label (h a w (cy.sub aj) (hA w hw))
theorem aj0{l:Nat}(h:gR N (.goto l) Q tm A):fp P N (.goto l) Q tm A:=by unfold fp gR cR at *;exact λa w aj hw=>wp_goto (h a w aj hw)
theorem aeL{K:Act->World->Prop}{l:Nat}(h:gR N (.goto l) Q tm A):gR N (.goto l) (Exit.then K Q) tm A:=h
theorem Lb{l:Nat}{ee:Act->World->Prop}(h:gR N .ret Q tm A):gR N .ret (Exit.jump l ee Q) tm A:=h
theorem aeD{e2:Type u}{l:Nat}{ee:e2->Prop}{T:e2->dY}{bV:e2->World->Prop}{jc:e2->Nat}{s:e2}(s':e2)(iq:ee s')(Kb:jc s'<jc s)(aj:vw (T s') tm)(hA:∀w,A w->bV s' w):gR N (.goto l) (Exit.jump l (vr N ee T bV jc s) Q) tm A:=by unfold gR cR;refine λ_ w cy hw=>⟨rfl,?_⟩;unfold vr;exact⟨s',iq,Kb,cy.sub aj,hA w hw⟩
theorem u1{bs:List dm}{H:List aB}{fn:Func}{es:List aB}{w:World}{Ψ:Nat->Value->List aB->World->Prop}{rs:List ResultVar}{vs:List Value}(aM:fn.results=rs.toArray)(h:jq P tm H rs vs)(hB:(w,bJ es)∈bs) (eJ:∀I,Mem [(w,bJ es)] H I->∃fN,Ψ w.heap.size (pR vs) fN I/\Mem [(w,bJ es)] fN I):gR N .normal (bodyPost P fn (rk es w Ψ)) tm (Mem bs H):=
 La aM h λI hw=>by obtain⟨fN,g1,g2⟩:=eJ I (hw.one hB);unfold rk;exact⟨_,fN,rfl,g1,g2⟩
theorem Ge{bs:List dm}{H:List aB}{fn:Func}{es:List aB}{w:World}{Ψ:Nat->Value->List aB->World->Prop}{rs:List ResultVar}{vs:List Value}(aM:fn.results=rs.toArray)(h:jq P tm H rs vs)(hB:(w,bJ es)∈bs) (eJ:∀I,Mem [(w,bJ es)] H I->∃fN,Ψ w.heap.size (pR vs) fN I/\Mem [(w,bJ es)] fN I):gR N .ret (bodyPost P fn (rk es w Ψ)) tm (Mem bs H):=
 zm aM h λI hw=>by obtain⟨fN,g1,g2⟩:=eJ I (hw.one hB);unfold rk;exact⟨_,fN,rfl,g1,g2⟩
theorem KR{bs:List dm}{H:List aB}{fn:Func}{w:World}{Ψ:Nat->Value->List aB->World->Prop}{rs:List ResultVar}{vs:List Value}(aM:fn.results=rs.toArray)(h:jq P tm H rs vs)(hB:(w,al)∈bs) (eJ:∀I,Mem bs H I->∃fN,Ψ w.heap.size (pR vs) fN I/\Mem [(w,al)] fN I):gR N .ret (bodyPost P fn (rj w Ψ)) tm (Mem bs H):=
 zm aM h λI hw=>by obtain⟨fN,g1,g2⟩:=eJ I hw;unfold rj;exact⟨_,fN,rfl,g1,g2⟩
theorem Tl{c:Bool}{t de:TypeId}{x y:Operand}{p:Int}{n:Nat}(hx:bt tm c x (.int .i64 p))(aY:bt tm c y (.int .i64 (n:Int)))(bd:0<n):bW P N (.binOp .rem t x y de) tm A c (.int .i64 (p.tmod n)):=by
 have h0:¬n=0:=by omega
 exact oj hx aY (λw=>by simp[binOp,Op.intDiv,h0])
theorem Tj{c:Bool}{t de hE:TypeId}{x y:Operand}{B0:Addr}(aJ:P.underlying t=some (.pointer hE))(hx:bt tm c x (.pointer (some B0)))(aY:bt tm c y (.pointer none)):bW P N (.binOp .neq t x y de) tm A c (.bool true):=by
 unfold bW;intro ai a w d ty pos cV g cy hw;simp only[execOp,hx.get cy ai,aY.get cy ai];have az:(eqGuard .neq t x y (.pointer (some B0)) (.pointer none)).run P w=.ok () w:=rfl;have h:∀d:Nat,(Op.equalIn (d+1) t (.pointer (some B0)) (.pointer none)).run P w=.ok false w:=λd=>by simp[Op.equalIn,run_underlying aJ]
 have hb:(binOp .neq t (.pointer (some B0)) (.pointer none)).run P w=.ok (.bool true) w:=by simp only[binOp];simp[Op.equal,Op.maxDepth,h 9999]
 simp[az,hb]
theorem Mem.vE{S:Nat->Prop}{B I:World}{b:Nat}{cs:List Value}{bs:List dm}{H:List aB}(hw:Mem bs H I)(h:gQ S B b cs)(hB:(B,S)∈bs):gQ al I b cs:=h.mono (hw.base _ hB) λ_=>trivial
end
end Go.b9
attribute [local irreducible] Go.wpList Go.Code.wp Go.bodyPost Go.Exit.then Go.Exit.inBlock Go.Calls
namespace Go.bM
theorem Le(x:BitVec 64)(i:Nat):(hV x i).length<=64:=by unfold hV my;rw[aoJ];exact ao5 (apr _ _) (by simp)
structure mS(cx:fg)(s:cg)(k:Nat):Prop where
 J:s.J.length<=64
 addr:s.addr.length<=64* s.J.length
 data:s.data.length<=64* s.J.length
 dF:s.dF.length<=64* s.J.length
 bars:s.bars.length<=k
theorem mS.aI{cx:fg}{s:cg}{k:Nat}(h:mS cx s k)(hf:sf cx s=false)(j:Nat)(dir:Int)(loc:ByteArray)(val bo:Int)(on dat:BitVec 64):mS cx (sb cx s j dir loc val bo on dat) (k+1):=by unfold sf at hf;rw[aoA]at hf;have h1:=Le on s.J.length;have h2:=Le dat s.J.length;have h3:=Le s.bh s.J.length;obtain⟨a,b,c,d,e⟩:=h;unfold sb;refine⟨?_,?_,?_,?_,?_⟩<;>simp only[aoy,aoN,ao1]<;>omega
theorem mS.agv{cx:fg}{s:cg}{k:Nat}(h:mS cx s k)(r:List eO):mS cx {s with ag:=r} k:=⟨h.J,h.addr,h.data,h.dF,h.bars⟩
theorem mS.B3{cx:fg}{s:cg}{k:Nat}(h:mS cx s k)(b:nx):mS cx {s with bars:=s.bars++[b]} (k+1):=⟨h.J,h.addr,h.data,h.dF,by have:=h.bars;simp only[aoy,aoN,ao1];omega⟩
theorem MX{cx:fg}{s s':cg}{k c4:Nat}{loc:ByteArray}{on:BitVec 64}{x:eO}(h:mS cx s k)(az:kJ cx s k loc on x=.go s' c4):mS cx s' c4:=by
 unfold kJ at az;split at az
 ·split at az
  ·cases az
  rename_i hf;cases az;exact h.aI (by simpa using hf) _ _ _ _ _ _ _
 cases az
theorem TC{cx:fg}{s s':cg}{k c4:Nat}{loc:ByteArray}{on:BitVec 64}{d:Int}(h:mS cx s k)(az:mm cx s k loc on d=.go s' c4):mS cx s' c4:=by
 unfold mm at az;split at az
 ·cases az
 rename_i hf;cases az;exact(h.aI (by simpa using hf) k 1 loc 0 d on 0#64).agv _
theorem G5{cx:fg}{s s':cg}{k c4:Nat}(h:mS cx s k)(hk:k<=c4)(az:fR cx s k=.go s' c4):mS cx s' c4:=by
 unfold fR at az;dsimp only at az;split at az
 ·exact MX h az
 split at az
 ·exact MX h az
 split at az
 ·exact TC h az
 split at az
 ·cases az;exact⟨h.J,h.addr,h.data,h.dF,by have:=h.bars;dsimp only;omega⟩
 split at az
 ·cases az;exact h.B3 _
 split at az
 ·split at az
  ·exact TC h az
  cases az
 split at az
 ·split at az
  ·exact MX h az
  cases az
 split at az
 ·cases az;exact⟨h.J,h.addr,h.data,h.dF,by have:=h.bars;dsimp only;omega⟩
 split at az
 ·unfold qD at az;dsimp only at az;split at az
  ·split at az
   ·cases az;exact⟨h.J,h.addr,h.data,h.dF,by have:=h.bars;dsimp only;omega⟩
   cases az
  split at az
  ·cases az;exact⟨h.J,h.addr,h.data,h.dF,by have:=h.bars;dsimp only;omega⟩
  cases az;exact⟨h.J,h.addr,h.data,h.dF,by have:=h.bars;dsimp only;omega⟩
 split at az
 ·cases az;exact h.B3 _
 cases az;exact⟨h.J,h.addr,h.data,h.dF,by have:=h.bars;omega⟩
theorem K8{α:Type}{le:α->α->Bool}(NH:∀a b,le a b=true->le b a=true->a=b):∀(l m:List α),l.Perm m->l.Pairwise (λa b=>le a b=true)->m.Pairwise (λa b=>le a b=true)->l=m
 | [],m,hp,_,_=>(List.nil_perm.1 hp).symm
 | a::l,[],hp,_,_=>absurd hp.length_eq (by simp)
 | a::l,b::m,hp,aL,hm=>by
  rw[apa]at aL hm;have l8:a=b:=by
   rcases aoO.1 (hp.mem_iff.1 aP)with q | q
   ·exact q
   rcases aoO.1 (hp.mem_iff.2 aP)with bz | bz
   ·exact bz.symm
   exact NH a b (aL.1 b bz) (hm.1 a q)
  subst l8;rw[K8 NH l m (List.Perm.cons_inv hp) aL.2 hm.2]
theorem Rr(a b:ca)(h1:kY a b=true)(h2:kY b a=true):a=b:=by obtain⟨ds,a2⟩:=a;obtain⟨gn,dC⟩:=b;unfold kY at h1 h2;simp only[aox,aoo,aop]at h1 h2;simp only[ca.mk.injEq];omega
theorem adJ{l:List ca}{n:Nat}{ys:List ca}(hp:ys.Perm (l.map (nP n)))(aj:ys.Pairwise λa b=>kY a b=true):ys=h9 l n:=by
 refine K8 Rr _ _ (hp.trans (aql _ _).symm) aj (aqy (λa b c h1 h2=>?_) (λa b=>?_) _)
 ·unfold kY at *;simp only[aox,aoo,aop]at *;omega
 unfold kY;simp only[aox,aoo,aop];omega
end Go.bM
namespace Go.w4
open Go Go.ChangeShapes Go.WideShapes Go.ChangeAt Go.RowKit Go.b9 Go.Deep
section
variable {H:Type} {enc:TypeId×Value->H} {P:Program} {W:World}
def uf(s:Nat)(enc:TypeId×Value->H)(P:Program)(W:World)(t:TypeId)(Φ:List Value->Prop):Prop:=∀n cs y,SizeOf.sizeOf y.1<s->zN enc P W n t cs=some y->(∀k,k∈y.1.weights P t->k<=reachBytes)->Φ cs
theorem oz.s{t:TypeId}{Φ:List Value->Prop}(h:oz enc P W t Φ)(s:Nat):uf s enc P W t Φ:=λn cs y _=>h n cs y
theorem ad9{aX:Type}{kP:aX->List Value}{Ψ:aX->Prop}{sz s:Nat}{t e:TypeId}(aJ:P.underlying t=some (.slice e))(ai:P.cellsOf e=sz)(j5:uf s enc P W e λcs=>∃x:aX,cs=kP x/\Ψ x): uf s enc P W t λcs=>∃v xs,cs=[v]/\aZ al W kP sz v xs/\∀x,x∈xs->Ψ x:=λfuel cs x aj h hw=>by
 rcases open_slice aJ h with⟨rfl,rfl⟩ | ⟨a,len,cap,m,n,D,V3,rfl,hb,aL,hm,kB,rfl,hx⟩
 ·exact⟨_,[],rfl,⟨⟨none,0,0,rfl,rfl,aoL _,aoD _,λh=>absurd h (by omega)⟩,λi x j u hi=>by simp at hi,λ_ _ _ _ _=>trivial⟩,λx hx=>by cases hx⟩
 have v7:m=cap:=by simpa using kB
 subst v7;rw[ai]at hx;simp only[DataW.weights,aJ,aoO,aoG]at hw;have each:∀k,k<=len->∃xs:List aX,xs.length=k/\(∀i x,xs[i]?=some x->W.cells? 0 (a.add (i* sz)) sz=some (kP x))/\∀x,x∈xs->Ψ x:=by
  intro k
  induction k with
  | zero=>exact λ_=>⟨[],rfl,λi x hi=>by simp at hi,λx hx=>by cases hx⟩
  | succ k bP=>
   intro hk;obtain⟨xs,bH,bG,eJ⟩:=bP (by omega);obtain⟨pE,h1,h2⟩:=hx k (by omega);have hmem:D k∈(List.range len).map D:=ao9.2 ⟨k,aoQ.2 (by omega),rfl⟩;obtain⟨y,rfl,aY⟩:=j5 _ _ _ (by have h3:=List.sizeOf_lt_of_mem hmem;simp only[DataW.slice.sizeOf_spec]at aj;dsimp only;omega) h2 λq ba=>hw q (.inr (.inl (MT hmem q ba)))
   refine⟨xs++[y],by simp[bH],λi x hi=>?_,λx hx=>?_⟩
   ·by_cases mX:i<xs.length
    ·rw[aoT mX]at hi;exact bG i x hi
    rw[aoS (by omega)]at hi;by_cases h0:i-xs.length=0
    ·rw[h0]at hi;obtain rfl:y=x:=by simpa using hi
     obtain rfl:i=k:=by omega
     exact h1
    rw[aoV (by simp;omega)]at hi;cases hi
   rw[aoG,aoB]at hx;rcases hx with hx | rfl
   ·exact eJ x hx
   exact aY
 obtain⟨xs,bH,bG,eJ⟩:=each len (aoL _);refine⟨_,xs,rfl,⟨⟨some a,len,m,rfl,bH.symm,aL,hm,λ_=>rfl⟩,λi x j u hi ae=>?_,λ_ _ _ _ _=>trivial⟩,eJ⟩;obtain⟨_,h2,h3⟩:=World.cells?_some (bG i x hi);have gD:j<sz:=by
  rcases ao6 j sz with cm | cm
  ·exact cm
  rw[aoV (by omega)]at ae;cases ae
 rw[<-ae];exact h3 j gD
inductive BV(s:Nat)(enc:TypeId×Value->H)(P:Program)(W:World):List Field->List (List Value->Prop)->Prop where
 | nil:BV s enc P W [] []
 | cons {f:Field} {Φ:List Value->Prop} {fO:List Field} {ox:List (List Value->Prop)}:uf s enc P W f.type Φ->BV s enc P W fO ox->BV s enc P W (f::fO) (Φ::ox)
theorem Ob{n s:Nat}{cs:List Value}:∀{fO:List Field} {ox:List (List Value->Prop)} {o:Nat} {xs:List (DataW H×List MemPlace)},BV s enc P W fO ox->vI P fO o cs.length=true-> (∀(i:Nat) (f:Field),fO[i]?=some f->zN enc P W n f.type ((cs.drop f.offset).take (P.cellsOf f.type))=xs[i]?)->xs.length=fO.length->(∀x,x∈xs->SizeOf.sizeOf x.1<s)-> (∀k,k∈DataW.weightsEach P (fO.map (·.type)) (xs.map (·.1))->k<=reachBytes)->x4 ox (cs.drop o)
 | _,_,o,xs,.nil,ai,_,_,_,_=>by simp only[vI,ap7]at ai;simp only[x4];rw[aqg (by omega)]
 | f::fO,_,o,xs,.cons (Φ:=Φ) h1 h2,ai,aM,aL,aj,hw=>by
  match xs,aL with
  | x::xs,aL=>simp only[vI,aoo,ap7]at ai;obtain⟨rfl,ai⟩:=ai;simp only[apg,DataW.weightsEach,aoG]at hw;have h0:zN enc P W n f.type ((cs.drop f.offset).take (P.cellsOf f.type))=some x:=aM 0 f rfl;refine⟨_,cs.drop (f.offset+P.cellsOf f.type),?_,h1 _ _ _ (aj x aP) h0 λk hk=>hw k (.inl hk),Ob h2 ai (λi Ij I6=>aM (i+1) Ij I6) (by simpa using aL) (λy aY=>aj y (.tail _ aY)) λk hk=>hw k (.inr hk)⟩;rw[<-List.drop_drop,aqM]
theorem aea{s:Nat}{t:TypeId}{fO:Array Field}{ox:List (List Value->Prop)}(aJ:P.underlying t=some (.struct fO))(ai:vI P fO.toList 0 (P.cellsOf t)=true)(bn:BV s enc P W fO.toList ox):uf (s+1) enc P W t (x4 ox):=λfuel cs x aj h hw=>by
 obtain⟨xs,n,_,rfl,aL,bH,hf⟩:=DataW.trod_struct aJ h;simp only[DataW.weights,aJ]at hw;have:=Ob (o:=0) (xs:=xs) bn (by rw[aL];exact ai) (λi f hi=>hf i f (by rw[<-aqP];exact hi)) (by rw[bH];simp) (λx hx=>by have h3:=List.sizeOf_lt_of_mem (ao9.2 ⟨x,hx,rfl⟩:x.1∈xs.map (·.1));simp only[DataW.agg.sizeOf_spec]at aj;omega) hw
 simpa using this
theorem ad8{t:TypeId}{Φ:List Value->Prop}(h:∀s,uf s enc P W t Φ):oz enc P W t Φ:=λn cs y aM hw=>h (SizeOf.sizeOf y.1+1) n cs y (apN _) aM hw
theorem uf.mono{s:Nat}{t:TypeId}{Φ Ψ:List Value->Prop}(h:uf s enc P W t Φ)(hi:∀cs,Φ cs->Ψ cs):uf s enc P W t Ψ:=λn cs y aj aM hw=>hi cs (h n cs y aj aM hw)
end
end Go.w4
namespace Go.bM
theorem TQ{S:Nat->Prop}{W:World}:∀(vs:List Value),(∀v,v∈vs->∃xs,aZ S W cL 8 v xs)->∃c:List (List Instr),vs.length=c.length/\∀i,i<vs.length->aZ S W cL 8 (vs.getD i default) (c.getD i default)
 | [],_=>⟨[],rfl,λi hi=>absurd hi (apw _)⟩
 | v::vs,h=>by
  obtain⟨c,h1,h2⟩:=TQ vs λx hx=>h x (.tail _ hx);obtain⟨x,hx⟩:=h v aP;refine⟨x::c,by simp[h1],λi hi=>?_⟩;cases i with
  | zero=>exact hx
  | succ i=>exact h2 i (by simpa using hi)
theorem Rf{S:Nat->Prop}{W:World}:∀(db:List l3),(∀x,x∈db->∃m:e3,x.kind=m.kind/\x.e9=m.e9/\x.value=m.value/\k6 S W m x.kids)->∃l:List e3,k5 S W l db
 | [],_=>⟨[],by unfold k5;rfl⟩
 | x::db,h=>by obtain⟨l,aL⟩:=Rf db λy aY=>h y (.tail _ aY);obtain⟨m,h1,h2,h3,aA⟩:=h x aP;exact⟨m::l,by unfold k5;exact⟨x,db,rfl,h1,h2,h3,aA,aL⟩⟩
end Go.bM
namespace Go.Proofs.bA
open Go Go.b9 Go.bM Go.w4 Go.ChangeShapes Go.WideShapes Go.ChangeAt Go.RowKit
section
variable {H:Type} {enc:TypeId×Value->H} {W:World}
def Ng(W:World)(cs:List Value):Prop:=∃x:l3,cs=gX x/\∃m:e3,x.kind=m.kind/\x.e9=m.e9/\x.value=m.value/\k6 al W m x.kids
theorem Su:∀s,uf s enc prog W 28 (Ng W)
 | 0=>λ_ _ _ h=>absurd h (apw _)
 | s+1=>by have hk:=ad9 (kP:=gX) (sz:=6) underlying26 (by kernel_rfl) (Su s);have aJ:oz enc prog W 25 _:=A7 underlying25 (by kernel_rfl) (.cons (pQ underlying3) (.cons (pQ underlying3) (.cons (zk underlying9) .nil)));refine(aea underlying28 (by kernel_rfl) (.cons ((pQ underlying3).s s) (.cons (aJ.s s) (.cons ((pQ underlying3).s s) (.cons hk .nil))))).mono ?_;rintro cs ⟨_,_,rfl,⟨k,rfl,-⟩,_,_,rfl,⟨_,_,rfl,⟨a,rfl,-⟩,_,_,rfl,⟨b,rfl,-⟩,_,_,rfl,⟨c,rfl,-⟩,rfl⟩,_,_,rfl,⟨v,rfl,-⟩,_,_,rfl,⟨ao,db,rfl,h1,h2⟩,rfl⟩;obtain⟨l,aL⟩:=Rf db h2;exact⟨⟨k,⟨a,b,c⟩,v,ao⟩,rfl,.mk k ⟨a,b,c⟩ v l,rfl,rfl,rfl,by unfold k6;exact⟨db,h1,aL⟩⟩
theorem ad7:oz enc prog W 28 (Ng W):=ad8 Su
theorem Yf:D9 enc prog W 169 cL λ_=>True:=
 (A7 underlying169 (by kernel_rfl) (.cons (pQ underlying3) (.cons (pQ underlying3) (.cons (pQ underlying3) (.cons (pQ underlying3) (.cons (pQ underlying3) (.cons (zk underlying9) (.cons (zk underlying9) (.cons (pQ underlying3) .nil))))))))).mono (by rintro cs ⟨_,_,rfl,⟨a,rfl,-⟩,_,_,rfl,⟨b,rfl,-⟩,_,_,rfl,⟨c,rfl,-⟩,_,_,rfl,⟨d,rfl,-⟩,_,_,rfl,⟨e,rfl,-⟩,_,_,rfl,⟨f,rfl,-⟩,_,_,rfl,⟨g,rfl,-⟩,_,_,rfl,⟨h,rfl,-⟩,rfl⟩;exact⟨⟨a,b,c,d,e,f,g,h⟩,rfl,trivial⟩)
theorem Ye:D9 enc prog W 72 o6 λ_=>True:=
 (A7 underlying72 (by kernel_rfl) (.cons (pQ underlying3) (.cons (pQ underlying3) (.cons (zk underlying9) (.cons (A7 underlying70 (by kernel_rfl) (.cons (zk underlying9) (.cons (pQ underlying3) .nil))) .nil))))).mono (by rintro cs ⟨_,_,rfl,⟨a,rfl,-⟩,_,_,rfl,⟨b,rfl,-⟩,_,_,rfl,⟨c,rfl,-⟩,_,_,rfl,⟨_,_,rfl,⟨d,rfl,-⟩,_,_,rfl,⟨e,rfl,-⟩,rfl⟩,rfl⟩;exact⟨⟨a,b,c,⟨d,e⟩⟩,rfl,trivial⟩)
theorem Yd:D9 enc prog W 167 ct λv=>∃xs,aZ al W cL 8 v xs:=
 (K0 (kP:=cL) (sz:=8) underlying167 (by kernel_rfl) Yf).mono (by rintro cs ⟨v,xs,rfl,h1,-,-⟩;exact⟨v,rfl,xs,h1⟩)
theorem aeb:oz enc prog W 32 λcs=>∃ah ad ao vs t,cs=c6 t ah ad ao/\gW al W ah ad ao vs t:=
 (A7 underlying32 (by kernel_rfl) (.cons (pQ underlying3) (.cons (zk underlying9) (.cons (zk underlying9) (.cons (K0 (kP:=o6) (sz:=5) underlying22 (by kernel_rfl) Ye) (.cons (K0 (kP:=ct) (sz:=1) underlying23 (by kernel_rfl) Yd) (.cons (A7 underlying30 (by kernel_rfl) (.cons (pQ underlying3) (.cons ad7 .nil))) .nil))))))).mono (by rintro cs ⟨_,_,rfl,⟨a,rfl,-⟩,_,_,rfl,⟨Gg,rfl,-⟩,_,_,rfl,⟨XY,rfl,-⟩,_,_,rfl,⟨ah,i,rfl,h1,-,-⟩,_,_,rfl,⟨ad,vs,rfl,h2,-,h3⟩,_,_,rfl,⟨_,_,rfl,⟨q,rfl,-⟩,_,_,rfl,⟨⟨aom,sV,D4,ao⟩,rfl,m,bu,b2,gg,aA⟩,rfl⟩,rfl⟩;obtain⟨c,a6,cE⟩:=TQ vs h3;dsimp only at bu b2 gg aA;subst bu b2 gg;exact⟨ah,ad,ao,vs,⟨a,Gg,XY,i,c,q,m⟩,rfl,h1,h2,a6,cE,aA⟩)
end
end Go.Proofs.bA
namespace Go.fo
theorem MR{t:aW}{c:cw}(h:fj t c=0):Hf t c={n:=t.J.length,po:=b1 t.J.length (eT t),pl:=b1 t.J.length (sG t),bE:=b1 t.J.length (jG t c),GO:=b1 t.J.length (lq t (jG t c)),co:=b1 t.J.length (jf t c),coe:=b1 t.J.length (lq t (jf t c)),fr:=b1 t.J.length (kx t c),ET:=b1 t.J.length (lq t (kx t c)),Ev:=b1 t.J.length (rp t c)}:=aou h
def n5(t:aW)(c:cw)(i j:Nat):Bool:=sG t i j||rp t c i j
theorem _root_.Go.bM.ke.pD{S:Nat->Prop}{w:World}{cI ad:Value}{c:cw}(h:ke S w cI ad c):aD ad:=by obtain⟨vs,ax,_⟩:=h.co;exact ax.aK
end Go.fo
namespace Go.Proofs.bA
def nY(t:aW)(c:cw):Bool:=if fj t c=0 then w8 t.J.length (b1 t.J.length (n5 t c))else false
theorem ajE(m:Nat)(s1 s2 cJ dw dk eM eb fl fH:Value)(a b:List W)(w:World)(fA:aD s1)(j7:aD s2)(kl:aD cJ)(km:aD dw)(lA:aD dk)(mI:aD eM)(me:aD eb)(mJ:aD fl)(nc:aD fH)(ay:aZ al w fJ 1 s2 a)(hb:aZ al w fJ 1 fH b)(ib:fG m a=true)(wH:fG m b=true): en prog 279 [.agg #[.int .i64 m,s1,.int .i64 m,s2,.int .i64 m,cJ,.int .i64 m,dw,.int .i64 m,dk,.int .i64 m,eM,.int .i64 m,eb,.int .i64 m,fl,.int .i64 m,fH]] w (Hv m (Hc m a b)):=by refine hL func279 ntmps279 ?_;refine b7 λbv=>?_;refine cH λdC=>?_;refine aq (gi (λI hw=>BG ib wH (hw.now ay) (hw.now hb)) ?_);rintro v bx es bc ⟨s,aj,rfl,rfl⟩;refine U ?_;refine cH λdK=>?_;refine bN 0 ?_;refine bN 2 ?_;exact et rfl (.c1 rfl hy rfl) [_] [1] λI hw=>⟨s,aj,rfl,rfl⟩
theorem ajD{ak ah aI bv aG aR ad aT bj:Value}{t:aW}(cI b8:Value)(c:cw)(w:World)(h:fB al w ak ah aI bv aG aR ad aT bj t)(ai:ke al w cI b8 c)(bL:lK w): bl prog 195 [.agg #[ak,ah,aI,bv,aG,aR,ad,aT,bj],.agg #[cI,b8]] w λ_ v _=>v=.tuple #[.bool (nY t c),.int .i64 (fj t c)]:=by
 have lv:=ai.bE.aK;have nb:=ai.pD;refine bZ func195 ntmps195 ?_;refine b7 λjN=>?_;refine b7 λll=>?_;refine aq (gi (λI hw=>MQ cI b8 c I (h.now hw) (ai.now hw) (bL.now hw)) ?_);rintro v bx es bc ⟨s1,s2,cJ,dw,dk,eM,eb,fl,fH,⟨fA,j7,kl,km,lA,mI,me,mJ,nc⟩,rfl,rfl⟩;refine U ?_;refine cH λcY=>?_;refine bN 0 ?_;refine bC (λh1=>?_) λh1=>?_
 ·rw[aoq,au]at h1;refine U ?_;refine bT rfl (.tmp rfl (.t1 rfl)) λI hw=>?_;unfold nY;rw[aot h1];rfl
 rw[aos,an]at h1;obtain⟨aJ,ky⟩:=nU h1;obtain⟨hb,ma⟩:=kI aJ;have Ap:=MR h1;rw[Ap];refine U ?_;refine aq (gi (λI hw=>ajE t.J.length s1 s2 cJ dw dk eM eb fl fH (b1 t.J.length (sG t)) (b1 t.J.length (rp t c)) I fA j7 kl km lA mI me mJ nc (hw.dX) (hw.dX) (lV _ _ hb) (lV _ _ hb)) ?_);rintro v ck es bY ⟨s,aj,rfl,rfl⟩;rw[Bn hb];refine U ?_;refine aq (bp (λI hw=>HA t.J.length s (b1 t.J.length (n5 t c)) I (hw.dX)) ?_);rintro v hj fW rfl nG;refine U ?_;refine bT rfl (.tmp rfl (.t1 rfl)) λI hw=>?_;unfold nY;rw[aou h1,h1,lV _ _ hb];rfl
theorem getD_some{α:Type}[Inhabited α]{l:List α}{i:Nat}(h:i<l.length):l[i]?=some (l.getD i default):=by rw[aor,aov h];rfl
theorem ab2{l:List Int}{x y:Int}(hx:0<=fv l x)(h:fv l x=fv l y):x=y:=by rw[<-FV hx,h,FV (by omega)]
section
variable {t:aW} {c:cw} (h:fj t c=0)
include h
theorem C8{i j:Nat}(hi:i<t.J.length)(ae:j<t.J.length):0<=fv (jt t c i) (j:Int)↔((bF t j).dir=2/\(bF t j).loc=(bF t i).loc):=by
 obtain⟨aJ,ai⟩:=nU h;obtain⟨k,hk,eW⟩:=uU aJ hi;rw[wv,vH hk,vG ai eW,hk];constructor
 ·rintro⟨xM,_,e,h1,h2⟩;obtain rfl:j=xM:=by omega
  exact⟨h1,h2⟩
 rintro⟨h1,h2⟩;exact⟨j,ae,rfl,h1,h2⟩
theorem Aa{i j:Nat}(e:(bF t i).loc=(bF t j).loc):jt t c i=jt t c j:=by unfold jt;rw[e]
end
def lvl(t:aW)(c:cw)(w:Int):Int:=if w<0 then 0 else fv (jt t c w.toNat) w+1
def jh(t:aW)(c:cw)(i:Nat):Int:=if(bF t i).dir=1 then lvl t c (c.bE.getD i default)else lvl t c i
def A5(t:aW)(c:cw)(i j:Nat):Bool:=if(jn t i j&&sy t i j)=true then(if(bF t j).dir=2 then decide (jh t c i<jh t c j)else decide (jh t c i<=jh t c j))else true
theorem LH{m:Nat}{p:Nat->Nat->Bool}(hm:m<=64){a b:Nat}(h:aQ (b1 m p) a b=true):a<m/\b<m/\p a b=true:=by
 rw[Bm m p hm]at h;simp only[aoo,aop]at h;refine⟨?_,?_,?_⟩
 ·omega
 ·omega
 simp_all
section
variable {t:aW} {c:cw} (h:fj t c=0)
include h
theorem zw{i:Nat}(hi:i<t.J.length)(hd:(bF t i).dir=1):(c.bE.getD i default= -1/\jh t c i=0)\/ ∃k:Nat,k<t.J.length/\c.bE.getD i default=(k:Int)/\(bF t k).dir=2/\(bF t k).loc=(bF t i).loc/\jh t c i=jh t c k/\jh t c i=fv (jt t c i) (k:Int)+1/\0<=fv (jt t c i) (k:Int):=by
 obtain⟨aJ,ai⟩:=nU h;rcases LP ai hi with h1 | ⟨_,h1⟩
 ·refine .inl ⟨h1,?_⟩;unfold jh lvl;rw[aou hd,h1];rfl
 obtain⟨k,hk,e,mY,eW⟩:=KN.1 h1;refine .inr ⟨k,hk,e,mY,eW,?_,?_,(C8 h hi hk).2 ⟨mY,eW⟩⟩
 ·unfold jh;rw[aou hd,aot (by omega),e]
 unfold jh lvl;rw[aou hd,e,aot (by omega),aoF,Aa h eW]
theorem ub{i:Nat}(hi:i<t.J.length)(hd:(bF t i).dir=2):jh t c i=fv (jt t c i) (i:Int)+1/\0<=fv (jt t c i) (i:Int):=by refine⟨?_,(C8 h hi hi).2 ⟨hd,rfl⟩⟩;unfold jh lvl;rw[aot (by omega),aot (by omega),aoF]
theorem acZ{i:Nat}(hi:i<t.J.length):0<=jh t c i:=by
 obtain⟨aJ,ai⟩:=nU h;rcases pt aJ hi with hd | hd
 ·rcases zw h hi hd with h1 | ⟨k,_,_,_,_,_,h2,h3⟩<;>omega
 have:=ub h hi hd;omega
theorem Lv{i:Nat}(hi:i<t.J.length)(hd:(bF t i).dir=1):jh t c i=fv (jt t c i) (c.bE.getD i default)+1:=by
 obtain⟨aJ,ai⟩:=nU h;rcases zw h hi hd with⟨h1,h2⟩ | ⟨k,_,e,_,_,_,h2,_⟩
 ·have:fv (jt t c i) (-1)= -1:=by
   have:=Dc (jt t c i) (-1);by_cases q:0<=fv (jt t c i) (-1)
   ·obtain⟨p,hp,mc⟩:=uU aJ hi;rw[wv,vH hp,vG ai mc]at q;obtain⟨xM,_,e,_⟩:=q;omega
   omega
  rw[h1,h2,this];rfl
 rw[e,h2]
def w5(t:aW)(c:cw)(i j:Nat):Prop:=jh t c i<jh t c j\/(jh t c i=jh t c j/\(bF t j).dir=1/\((bF t i).dir=2\/((bF t i).dir=1/\i<j)))
theorem ack{i j k:Nat}(h1:w5 t c i j)(h2:w5 t c j k):w5 t c i k:=by unfold w5 at *;omega
theorem Rc(hf:∀i j,i<j->j<t.J.length->A5 t c i j=true){i j:Nat}(hi:i<t.J.length)(ae:j<t.J.length)(aj:n5 t c i j=true):w5 t c i j:=by
 obtain⟨aJ,ai⟩:=nU h;unfold n5 rp at aj;simp only[aox]at aj;rcases aj with aj | (aj | aj) | aj
 ·unfold sG at aj;rw[aoo,rL aJ hi ae,aoo,aop]at aj;have:=hf i j aj.1.1 ae;unfold A5 at this;rw[aou (by rw[aj.1.2,aj.2];rfl)]at this;unfold w5;rcases pt aJ ae with hd | hd
  ·rw[aot (by omega),aop]at this;have:=pt aJ hi;omega
  rw[aou hd,aop]at this;exact .inl this
 ·unfold jG at aj;rw[aoo,aop,aop]at aj;rcases zw h ae aj.1 with⟨h1,_⟩ | ⟨k,_,e,mY,_,aL,_⟩
  ·omega
  obtain rfl:i=k:=by omega
  exact .inr ⟨aL.symm,aj.1,.inl mY⟩
 ·unfold jf uj at aj;rw[aoo,aop,aop]at aj;obtain⟨hid,_⟩:=(C8 h hi hi).1 aj.1;obtain⟨rC,gD⟩:=(C8 h hi ae).1 (by omega);have h1:=ub h hi hid;have h2:=ub h ae rC;rw[Aa h gD]at h2;exact .inl (by omega)
 unfold kx at aj;rw[aoo,aop,aop]at aj;have h0:=Dc (jt t c i) (c.bE.getD i default);obtain⟨rC,gD⟩:=(C8 h hi ae).1 (by omega);have h2:=ub h ae rC;rw[Aa h gD]at h2;have h3:=Lv h hi aj.1;exact .inl (by omega)
theorem Iv{i k:Nat}(hi:i<t.J.length)(hk:k<t.J.length)(hd:(bF t i).dir=1)(mY:(bF t k).dir=2)(e:(bF t k).loc=(bF t i).loc)(aL:jh t c i<jh t c k):kx t c i k=true:=by have h2:=ub h hk mY;rw[Aa h e]at h2;have h3:=Lv h hi hd;unfold kx;rw[aoo,aop,aop];exact⟨hd,by omega⟩
theorem HU{i k:Nat}(hi:i<t.J.length)(hk:k<t.J.length)(hd:(bF t i).dir=2)(mY:(bF t k).dir=2)(e:(bF t k).loc=(bF t i).loc)(aL:jh t c i<jh t c k):jf t c i k=true:=by have h2:=ub h hk mY;rw[Aa h e]at h2;have h3:=ub h hi hd;unfold jf uj;rw[aoo,aop,aop];omega
theorem Ks{i k:Nat}(hi:i<t.J.length)(hk:k<t.J.length)(hd:(bF t i).dir=2)(mY:(bF t k).dir=2)(e:(bF t k).loc=(bF t i).loc)(aL:jh t c i=jh t c k):i=k:=by have h2:=ub h hk mY;rw[Aa h e]at h2;have h3:=ub h hi hd;have:=ab2 h3.2 (show fv (jt t c i) (i:Int)=fv (jt t c i) (k:Int) by omega);omega
theorem GN{i k:Nat}(hd:(bF t i).dir=1)(e:c.bE.getD i default=(k:Int)):jG t c k i=true:=by unfold jG;rw[aoo,aop,aop];exact⟨hd,e⟩
theorem Pp(hb:t.J.length<=64):nY t c=true↔∀i j,i<j->j<t.J.length->A5 t c i j=true:=by
 obtain⟨aJ,ai⟩:=nU h;have ok:=lV t.J.length (n5 t c) hb;unfold nY w8;rw[aou h,aou ok,aoq,aoF,<-apS,MG ok];constructor
 ·intro bd i j iw ae;have hi:i<t.J.length:=by omega
  apply ao0;intro As;apply bd;refine⟨i,hi,?_⟩;unfold A5 at As;have aj:(fo.jn t i j&&sy t i j)=true:=ao0 λaj=>by rw[aot aj]at As;exact As rfl
  rw[aou aj]at As;rw[aoo]at aj;have hle:(bF t i).loc=(bF t j).loc:=by simpa[sy]using aj.2
  have st:∀{a b:Nat},a<t.J.length->b<t.J.length->n5 t c a b=true->mR (aQ (b1 t.J.length (n5 t c))) a b:=λay jT ba=>.one (by rw[u5 _ _ hb _ _ ay jT];exact ba);have uH:∀{a b:Nat},jf t c a b=true->n5 t c a b=true:=λq=>by unfold n5 rp;rw[q];simp
  have qd:∀{a b:Nat},jG t c a b=true->n5 t c a b=true:=λq=>by unfold n5 rp;rw[q];simp
  have vZ:∀{a b:Nat},kx t c a b=true->n5 t c a b=true:=λq=>by unfold n5 rp;rw[q];simp
  have qP:n5 t c i j=true:=by unfold n5 sG;rw[rL aJ hi ae,aj.1,aj.2,aow iw];rfl
  have s1:=st hi ae qP;rcases pt aJ ae with rC | rC
  ·rw[aot (by omega),aop]at As;rcases pt aJ hi with hid | hid
   ·rcases zw h hi hid with⟨_,h0⟩ | ⟨k,hk,e,mY,eW,aL,_⟩
    ·have:=acZ h ae;omega
    exact(s1.trans (st ae hk (vZ (Iv h ae hk rC mY (by omega) (by omega))))).trans (st hk hi (qd (GN h hid e)))
   exact s1.trans (st ae hi (vZ (Iv h ae hi rC hid hle (by omega))))
  rw[aou rC,aop]at As;rcases pt aJ hi with hid | hid
  ·have Fl:=ub h ae rC;rcases zw h hi hid with⟨_,h0⟩ | ⟨k,hk,e,mY,eW,aL,_⟩
   ·omega
   by_cases sl:k=j
   ·subst sl;exact s1.trans (st ae hi (qd (GN h hid e)))
   have:¬jh t c j=jh t c k:=λq=>sl (Ks h ae hk rC mY (by omega) q).symm;exact(s1.trans (st ae hk (uH (HU h ae hk rC mY (by omega) (by omega))))).trans (st hk hi (qd (GN h hid e)))
  have:¬jh t c j=jh t c i:=λq=>by have:=Ks h ae hi rC hid hle q;omega
  exact s1.trans (st ae hi (uH (HU h ae hi rC hid hle (by omega))))
 rintro hf ⟨i,hi,aM⟩;have key:∀{a b:Nat},mR (aQ (b1 t.J.length (n5 t c))) a b->w5 t c a b:=λq=>by
  induction q with
  | one q=>obtain⟨ay,jT,ba⟩:=LH hb q;exact Rc h hf ay jT ba
  | more _ q bP=>obtain⟨ay,jT,ba⟩:=LH hb q;exact ack h bP (Rc h hf ay jT ba)
 have:=key aM;unfold w5 at this;omega
end
def Cs(p d:Int):Bool:=decide (p=2)||decide (p=d-1)
def qn(f a b:Int):Bool:=
 if(a=1\/a=2)/\(b=1\/b=2)then
  if f=1 then true else if f=2 then decide (a=1)||decide (b=2)else
  if f<3\/11<f then false else Cs ((f-3).tdiv 3) a&&Cs ((f-3).tmod 3) b
 else false
def zW(x y:eV)(b:nx):Bool:=decide (b.aH=x.aH)&&decide (x.place<b.place)&&decide (b.place<y.place)&&qn b.dA x.dir y.dir
def vQ(bars:List nx)(x y:eV):Bool:=bars.any (zW x y)
def vR(t:aW)(i j:Nat):Bool:=eT t i j&&vQ t.bars (bF t i) (bF t j)
def pg(t:aW)(i j:Nat):Bool:=decide ((bF t i).dir=2)&&decide ((bF t j).dir=1)
def nN(t:aW)(i j:Nat):Bool:=eT t i j&&(!pg t i j||vR t i j)
def ou(t:aW)(c:cw)(i j:Nat):Bool:=((nN t i j||lq t (jG t c) i j)||jf t c i j)||kx t c i j
def qq(t:aW)(c:cw)(i j:Nat):Bool:=eT t i j||rp t c i j
def nT(t:aW)(p:Nat->Nat->Bool):Bool:=w8 t.J.length (b1 t.J.length p)
def nu(t:aW)(c:cw):Bool:=nY t c&&nT t (ou t c)
def oW(t:aW)(c:cw):Bool:=if fj t c=0 then nT t (qq t c)else false
theorem Wk{t:aW}(hb:t.J.length<=64)(p:Nat->Nat->Bool):nT t p=true↔¬∃i,i<t.J.length/\mR (aQ (b1 t.J.length p)) i i:=by have ok:=lV t.J.length p hb;unfold nT w8;rw[aou ok,aoq,aoF,<-apS,MG ok]
theorem agj{n:Nat}(hb:n<=64){p q:Nat->Nat->Bool}(h:∀a b,a<n->b<n->p a b=true->q a b=true){a b:Nat}(aM:mR (aQ (b1 n p)) a b):mR (aQ (b1 n q)) a b:=by
 have st:∀{a b:Nat},aQ (b1 n p) a b=true->aQ (b1 n q) a b=true:=λba=>by obtain⟨ay,jT,ba⟩:=LH hb ba;rw[u5 _ _ hb _ _ ay jT];exact h _ _ ay jT ba
 induction aM with
 | one h1=>exact .one (st h1)
 | more _ h2 bP=>exact .more bP (st h2)
theorem Nz{t:aW}(hb:t.J.length<=64){p q:Nat->Nat->Bool}(h:∀a b,a<t.J.length->b<t.J.length->p a b=true->q a b=true)(ba:nT t q=true):nT t p=true:=by rw[Wk hb]at ba⊢;rintro⟨i,hi,aM⟩;exact ba ⟨i,hi,agj hb h aM⟩
theorem XJ{t:aW}{c:cw}(h:fj t c=0):nY t c=nT t (n5 t c):=by unfold nY nT;rw[aou h]
theorem Ou{t:aW}{c:cw}(h:¬fj t c=0):nY t c=false:=by unfold nY;rw[aot h]
theorem MF{t:aW}{c:cw}{a b:Nat}(h:ou t c a b=true):qq t c a b=true:=by
 unfold ou nN lq at h;unfold qq rp;simp only[aox,aoo]at h⊢;rcases h with((h | h) | h) | h
 ·exact .inl h.1
 ·exact .inr (.inl (.inl h.1))
 ·exact .inr (.inl (.inr h))
 exact .inr (.inr h)
theorem ZH{t:aW}{c:cw}{a b:Nat}(h:n5 t c a b=true):qq t c a b=true:=by
 unfold n5 sG at h;unfold qq;simp only[aox,aoo]at h⊢;rcases h with h | h
 ·exact .inl h.1
 exact .inr h
theorem Uc{t:aW}{c:cw}(h:oW t c=true):nY t c=true:=by
 unfold oW at h;by_cases a1:fj t c=0
 ·rw[aou a1]at h;have hb:=(kI (nU a1).1).1;rw[XJ a1];exact Nz hb (λa b _ _ q=>ZH q) h
 rw[aot a1]at h;cases h
theorem ahw{t:aW}{c:cw}(h:oW t c=true):nu t c=true:=by
 have ai:=Uc h;unfold oW at h;by_cases a1:fj t c=0
 ·rw[aou a1]at h;have hb:=(kI (nU a1).1).1;unfold nu;rw[ai,Nz hb (λa b _ _ q=>MF q) h];rfl
 rw[aot a1]at h;cases h
section
variable {t:aW} {c:cw} (h:fj t c=0) (ai:nY t c=true)
include h ai
theorem agO{i j:Nat}(hi:i<t.J.length)(ae:j<t.J.length)(aM:jG t c i j=true)(aJ:fo.jn t i j=true):eT t i j=true/\i<j:=by
 obtain⟨hok,ky⟩:=nU h;have hb:=(kI hok).1;have hf:=(Pp h hb).1 ai;unfold jG at aM;rw[aoo,aop,aop]at aM;rcases zw h ae aM.1 with⟨h1,_⟩ | ⟨k,_,e,mY,eW,aL,_⟩
 ·omega
 obtain rfl:i=k:=by omega
 have dq:i<j:=by
  rcases arc i j with q | q | q
  ·exact q
  ·subst q;omega
  have:=hf j i q hi;unfold A5 at this;rw[aou (by simp only[fo.jn,sy,aoo,aop]at aJ⊢;exact⟨aJ.symm,eW.symm⟩),aou mY,aop]at this
  omega
 refine⟨?_,dq⟩;rw[rL hok hi ae,aow dq,aJ];rfl
end
theorem Kv{t:aW}(hb:t.J.length<=64){p:Nat->Nat->Bool}(ay:nT t p=true):AU t.J.length (b1 t.J.length p)=0/\ wz t.J.length (b1 t.J.length p)=ints (ka t.J.length (aQ (b1 t.J.length p)) t.J.length)/\r4 t.J.length (aQ (b1 t.J.length p)) (ka t.J.length (aQ (b1 t.J.length p)) t.J.length)/\(ka t.J.length (aQ (b1 t.J.length p)) t.J.length).length=t.J.length:=by
 have ok:=lV t.J.length p hb;unfold nT w8 at ay;rw[aou ok,aoq,aoF]at ay;refine⟨?_,?_,acB _,acA ok ay _ (aoL _)⟩
 ·unfold AU;rw[aou ok,aoF,aot (by rw[ay];simp)]
 unfold wz;rw[aou ok,aoF,aot (by rw[ay];simp)]
theorem ac5{t:aW}(hb:t.J.length<=64){p:Nat->Nat->Bool}(ay:nT t p=false):AU t.J.length (b1 t.J.length p)=12/\wz t.J.length (b1 t.J.length p)=[]:=by
 have ok:=lV t.J.length p hb;unfold nT w8 at ay;rw[aou ok,aos,aoF]at ay;constructor
 ·unfold AU;rw[aou ok,aoF,aou ay]
 unfold wz;rw[aou ok,aoF,aou ay]
def fF(ts:List Nat)(x:Nat):Nat:=ts.idxOf x
theorem aiZ{m:Nat}{p:Nat->Nat->Bool}{ts:List Nat}(bL:r4 m p ts)(aL:ts.length=m){a b:Nat}(ay:a<m)(hb:b<m)(h:p a b=true):fF ts a<fF ts b:=by
 have Fa:=bL.all aL b hb;have lr:=apO Fa;have e:ts[ts.idxOf b]?=some b:=by rw[aov lr];simp
 obtain⟨k,hk,AB⟩:=bL.prec _ _ e a ay h;have Zq:=bL.all aL a ay;have yB:=apO Zq;have b2:ts[ts.idxOf a]?=some a:=by rw[aov yB];simp
 have:=(List.getElem?_inj (ao2.1 AB).1 bL.nodup).1 (AB.trans b2.symm);unfold fF;omega
end Go.Proofs.bA
