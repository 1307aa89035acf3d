/- Lemmas for the law WholeComplete. -/
import Derived.Sort.OwnSorted
import Derived.Sort.Walk0
import Derived.Test.YtiknadellddjhaaGreatDoorC17
import Derived.Test.YtiknadellddjhaaGreatDoorC19
set_option linter.all false
open Go.Proofs.Tryz
open Go Go.b9 Go.bM Go.gG Go.fo
namespace Go.Proofs.bA
structure r0(n:Nat)(o:List Nat):Prop where
 nodup:o.Nodup
 lt:∀x,x∈o->x<n
 len:o.length=n
def l6(l:List Int):Int:=if l.length=0 then -1 else l.getD (l.length-1) default
def gq(t:aW)(o:List Nat)(k:Int):List Int:=ints (o.filter (nQ t k))
theorem r0.all{n:Nat}{o:List Nat}(h:r0 n o){x:Nat}(hx:x<n):x∈o:=r4.all (m:=n) (p:=λ_ _=>false) ⟨h.nodup,h.lt,λ_ _ _ _ _ q=>by cases q⟩ h.len x hx
theorem r0.perm{n:Nat}{o:List Nat}(h:r0 n o):o.Perm (List.range n):=(aqJ h.nodup aqd).2 λx=>⟨λq=>aoQ.2 (h.lt x q),λq=>h.all (aoQ.1 q)⟩
theorem SR{o:List Nat}{x:Nat}(h:x∈o):fF o x<o.length:=apO h
theorem SQ{o:List Nat}{x:Nat}(h:x∈o):o[fF o x]?=some x:=by have:=SR h;unfold fF at this⊢;rw[aov this];simp
theorem pos_at{o:List Nat}(h:o.Nodup){i x:Nat}(hi:o[i]?=some x):fF o x=i:=by have hm:x∈o:=aoM hi;exact(List.getElem?_inj (SR hm) h).1 ((SQ hm).trans hi.symm)
theorem R7{o:List Nat}(bd:o.Nodup){x m:Nat}:x∈o.take m↔x∈o/\fF o x<m:=by
 constructor
 ·intro h;obtain⟨i,hi⟩:=apF h;rw[apV]at hi;split at hi
  ·rename_i Z6;exact⟨List.mem_of_mem_take h,by rw[pos_at bd hi];exact Z6⟩
  cases hi
 rintro⟨h1,h2⟩;refine aoM (i:=fF o x) ?_;rw[apV,aou h2,SQ h1]
theorem SS{o:List Nat}(bd:o.Nodup):o.Pairwise λa b=>fF o a<fF o b:=by rw[aph];intro i j hi ae iw;rw[pos_at bd (aov hi),pos_at bd (aov ae)];exact iw
theorem AX{t:aW}{o:List Nat}{k x:Int}:x∈gq t o k↔∃i:Nat,i∈o/\x=i/\(bF t i).dir=2/\(bF t i).loc=k:=by
 unfold gq ints;simp only[ao9,apd,nQ,aoo,aop];constructor
 ·rintro⟨i,⟨h1,h2,h3⟩,rfl⟩;exact⟨i,h1,rfl,h2,h3⟩
 rintro⟨i,h1,rfl,h2,h3⟩;exact⟨i,⟨h1,h2,h3⟩,rfl⟩
theorem Ow{t:aW}{o:List Nat}(bd:o.Nodup)(k:Int):(gq t o k).Pairwise λa b=>fF o a.toNat<fF o b.toNat:=by unfold gq ints;rw[apI];exact ap1 (λ{a b} h=>by simpa using h) (apL _ (SS bd))
theorem XL{t:aW}{o:List Nat}(h:r0 t.J.length o)(k:Int):(gq t o k).Perm (wr t k):=by unfold gq ints wr rf;exact(h.perm.filter _).map _
theorem Ia{l:List Int}(h:¬l.length=0):l6 l∈l:=by unfold l6;rw[aot h];exact uX.2 ⟨_,by omega,rfl⟩
theorem Iz{α:Type}[Inhabited α]{l m:List α}(aL:l.length=m.length)(h:∀i,i<l.length->l.getD i default=m.getD i default):l=m:=by refine apq aL λi h1 h2=>?_;have:=h i h1;rw[aor,aor,aov h1,aov h2]at this;simpa using this
theorem XG{t:aW}{c:cw}{o:List Nat}(a1:fj t c=0)(h:r0 t.J.length o)(hs:∀a b,a<t.J.length->b<t.J.length->jf t c a b=true->fF o a<fF o b){k:Nat}(hk:k<t.aO.length):gq t o k=c.co.getD k default:=by
 obtain⟨aJ,ai⟩:=nU a1;refine List.Perm.eq_of_pairwise (le:=λa b=>fF o a.toNat<fF o b.toNat) (λa b _ _ h1 h2=>by omega) (Ow h.nodup k) ?_ ((XL h k).trans (Ex ai hk).symm);rw[aph];intro i j hi ae iw;have oI:=Cf ai hk;have key:∀q (ba:q<(c.co.getD k default).length),∃x:Nat,x<t.J.length/\(c.co.getD k default)[q]=(x:Int)/\(bF t x).loc=k/\fv (c.co.getD k default) x=q:=λq ba=>by obtain⟨x,hx,e,_,h2⟩:=(vG ai hk).1 (apC ba);refine⟨x,hx,e,h2,?_⟩;have:=Db oI ba;rw[aor (l:=c.co.getD k default),aov ba]at this;simp only[apM]at this;rw[<-e];exact this
 obtain⟨x,hx,ex,KB,abZ⟩:=key i hi;obtain⟨y,aY,EK,adg,ab3⟩:=key j ae;rw[ex,EK,aoF,aoF];refine hs x y hx aY ?_;unfold jf uj;rw[vH KB,abZ,ab3];simp only[aox,aoo,aop];exact⟨by omega,by omega⟩
def HM(t:aW)(a m b:Nat):Bool:=eT t a m&&eT t m b
def SB(t:aW)(a b:Nat):Bool:=decide ((bF t b).dir=2)&&sy t a b
def YZ(t:aW)(a b:Nat):Bool:=(List.range t.J.length).any λm=>HM t a m b&&decide ((bF t m).dir=2)&&sy t a m
def U9(t:aW)(c:cw)(a b:Nat):Bool:=decide ((bF t a).dir=1)&&decide ((bF t b).dir=1)&&sy t a b&&!decide (c.bE.getD a default=c.bE.getD b default)&&!YZ t a b
def SJ(t:aW)(c:cw)(a b:Nat):Bool:=decide ((bF t b).dir=1)&&decide (0<=c.bE.getD b default)&&HM t a (c.bE.getD b default).toNat b&&(kH t.addr a (c.bE.getD b default).toNat||kH t.data a (c.bE.getD b default).toNat)
def NO(t:aW)(a b:Nat):Bool:=decide ((bF t b).dir=2)&&(List.range t.J.length).any λm=>HM t a m b&&kH t.addr a m
def TT(t:aW)(c:cw)(k:Int)(a b:Nat):Bool:=
 if k=1 then SB t a b else if k=2 then U9 t c a b else if k=4 then vQ t.bars (bF t a) (bF t b)else if k=9 then kH t.addr a b else if k=10 then kH t.data a b else
 if k=11 then decide ((bF t b).dir=2)&&kH t.bh a b else if k=12 then SJ t c a b else if k=13 then NO t a b else false
def GS(t:aW)(c:cw)(k:Int)(a b:Nat):Bool:=eT t a b&&TT t c k a b
def TU(t:aW)(c:cw)(f:Int)(n:Nat)(a b:Nat):Bool:=(List.range n).any λi=>GS t c (f+i) a b
def DK(t:aW)(c:cw)(a b:Nat):Bool:=TU t c 1 13 a b
def Bq(t:aW)(c:cw)(a b:Nat):Bool:=((DK t c a b||lq t (jG t c) a b)||jf t c a b)||kx t c a b
theorem T6{t:aW}{c:cw}{a b:Nat}(h:DK t c a b=true):∃k:Int,GS t c k a b=true:=by unfold DK TU at h;rw[apH]at h;obtain⟨i,_,h⟩:=h;exact⟨_,h⟩
theorem ahl{t:aW}{c:cw}{a b:Nat}(h:DK t c a b=true):eT t a b=true:=by obtain⟨k,h⟩:=T6 h;unfold GS at h;rw[aoo]at h;exact h.1
theorem Gt{t:aW}{l:List ca}{w:Bool}(h:kc t l w=true){a b:Nat}(hm:kH l a b=true):a<b/\b<t.J.length/\(bF t a).dir=1/\fo.jn t a b=true:=by
 unfold kH at hm;rw[aop]at hm;obtain⟨i,hi⟩:=apF hm;have gJ:=(ao2.1 hi).1;unfold kc at h;rw[fT]at h;have h1:=h i gJ;have e:l.getD i default=⟨(a:Int),(b:Int)⟩:=by rw[aor,hi];rfl
 unfold qo Dv at h1;rw[e]at h1;simp only[aoo,aop,bM.aI,aoF]at h1;unfold fo.jn;rw[aop];unfold bF;obtain⟨⟨⟨⟨⟨⟨cB,bz⟩,fc⟩,iB⟩,kp⟩,-⟩,-⟩:=h1;exact⟨by omega,by omega,by simpa using iB,by simpa using kp⟩
theorem ai8{t:aW}(h:e0 t=true):kc t t.addr false=true/\kc t t.data true=true/\kc t t.bh false=true:=by unfold e0 at h;simp only[aoo]at h;exact⟨h.1.1.1.2,h.1.1.2,h.1.2⟩
theorem ahm{t:aW}{c:cw}(aJ:e0 t=true){a b:Nat}(h:DK t c a b=true):nN t a b=true:=by
 have hp:=ahl h;obtain⟨k,h⟩:=T6 h;obtain⟨g1,g2,g3⟩:=ai8 aJ;unfold nN;rw[hp,apE,aox,aoq];unfold GS TT at h;rw[hp,apE]at h;have Kq:¬(bF t b).dir=1->pg t a b=false:=λq=>by unfold pg;rw[aoE q,apu]
 have Dh:¬(bF t a).dir=2->pg t a b=false:=λq=>by unfold pg;rw[aoE q,apy]
 by_cases mK:k=1
 ·rw[aou mK]at h;simp only[SB,aoo,aop]at h;exact .inl (Kq (by omega))
 by_cases nh:k=2
 ·rw[aot mK,aou nh]at h;simp only[U9,aoo,aop]at h;exact .inl (Dh (by omega))
 by_cases wx:k=4
 ·rw[aot mK,aot nh,aou wx]at h;right;unfold vR;rw[hp,h];rfl
 by_cases AR:k=9
 ·rw[aot mK,aot nh,aot wx,aou AR]at h;have:=(Gt g1 h).2.2.1;exact .inl (Dh (by omega))
 by_cases Dd:k=10
 ·rw[aot mK,aot nh,aot wx,aot AR,aou Dd]at h;have:=(Gt g2 h).2.2.1;exact .inl (Dh (by omega))
 by_cases FW:k=11
 ·rw[aot mK,aot nh,aot wx,aot AR,aot Dd,aou FW]at h;simp only[aoo,aop]at h;exact .inl (Kq (by omega))
 by_cases Kl:k=12
 ·rw[aot mK,aot nh,aot wx,aot AR,aot Dd,aot FW,aou Kl]at h;simp only[SJ,aoo,aox]at h;rcases h.2 with q | q
  ·have:=(Gt g1 q).2.2.1;exact .inl (Dh (by omega))
  have:=(Gt g2 q).2.2.1;exact .inl (Dh (by omega))
 by_cases Q9:k=13
 ·rw[aot mK,aot nh,aot wx,aot AR,aot Dd,aot FW,aot Kl,aou Q9]at h;simp only[NO,aoo,aop]at h;exact .inl (Kq (by omega))
 rw[aot mK,aot nh,aot wx,aot AR,aot Dd,aot FW,aot Kl,aot Q9]at h;cases h
def tW(t:aW)(f:Nat->Nat)(r w:Nat):Bool:=decide ((bF t w).dir=2)&&sy t w r&&(decide (f w<f r)||eT t w r)
def xQ(q:Nat->Bool)(f:Nat->Nat):Nat->Int
 | 0=> -1
 | w+1=>if(q w&&(decide (xQ q f w<0)||decide (f (xQ q f w).toNat<f w)))=true then(w:Int)else xQ q f w
theorem F8(q:Nat->Bool)(f:Nat->Nat):∀n,(xQ q f n= -1/\∀w,w<n->q w=false)\/∃k:Nat,k<n/\xQ q f n=(k:Int)/\q k=true/\∀w,w<n->q w=true->f w<=f k
 | 0=>.inl ⟨rfl,λw hw=>absurd hw (apw _)⟩
 | n+1=>by
  have bP:=F8 q f n;unfold xQ;by_cases ba:q n=true
  ·rcases bP with⟨h1,h2⟩ | ⟨k,hk,h1,h2,h3⟩
   ·refine .inr ⟨n,by omega,?_,ba,λw hw uL=>?_⟩
    ·rw[aou (by rw[ba,h1];rfl)]
    rcases ao6 w n with g | g
    ·rw[h2 w g]at uL;cases uL
    obtain rfl:w=n:=by omega
    exact aoL _
   by_cases hf:f k<f n
   ·refine .inr ⟨n,by omega,?_,ba,λw hw uL=>?_⟩
    ·rw[aou (by rw[ba,h1,aoF,aow hf,aqZ];rfl)]
    rcases ao6 w n with g | g
    ·have:=h3 w g uL;omega
    obtain rfl:w=n:=by omega
    exact aoL _
   refine .inr ⟨k,by omega,?_,h2,λw hw uL=>?_⟩
   ·rw[aot (by rw[ba,h1,aoF,aoE hf,aoE (by omega)];simp)];exact h1
   rcases ao6 w n with g | g
   ·exact h3 w g uL
   obtain rfl:w=n:=by omega
   omega
  rw[aot (by rw[aoW.2 ba];simp)];rw[apS]at ba;rcases bP with⟨h1,h2⟩ | ⟨k,hk,h1,h2,h3⟩
  ·refine .inl ⟨h1,λw hw=>?_⟩;rcases ao6 w n with g | g
   ·exact h2 w g
   obtain rfl:w=n:=by omega
   exact ba
  refine .inr ⟨k,by omega,h1,h2,λw hw uL=>?_⟩;rcases ao6 w n with g | g
  ·exact h3 w g uL
  obtain rfl:w=n:=by omega
  rw[ba]at uL;cases uL
def MI(f:Nat->Nat)(l:List Int)(i:Nat):Bool:=!decide (f (l.getD (i+1) default).toNat<f (l.getD i default).toNat)
def MK(f:Nat->Nat)(l:List Int):Bool:=(List.range (l.length-1)).all (MI f l)
def GH(t:aW)(c:cw)(f:Nat->Nat)(r:Nat):Bool:=!decide ((bF t r).dir=1)||decide (c.bE.getD r default=xQ (tW t f r) f t.J.length)
def AV(t:aW)(c:cw)(f:Nat->Nat):Bool:=((List.range c.co.length).all λk=>MK f (c.co.getD k default))&&(List.range t.J.length).all (GH t c f)
theorem ahk{t:aW}{c:cw}(h:fj t c=0)(ai:nY t c=true){f:Nat->Nat}(hf:∀a b,a<t.J.length->b<t.J.length->Bq t c a b=true->f a<f b):AV t c f=true:=by
 obtain⟨aJ,ky⟩:=nU h;have hb:=(kI aJ).1;have ZX:=(Pp h hb).1 ai;have co:∀{a b:Nat},a<t.J.length->b<t.J.length->jf t c a b=true->f a<f b:=λay jT q=>hf _ _ ay jT (by unfold Bq;rw[q];simp);have fr:∀{a b:Nat},a<t.J.length->b<t.J.length->kx t c a b=true->f a<f b:=λay jT q=>hf _ _ ay jT (by unfold Bq;rw[q];simp);unfold AV;rw[aoo,fT,fT];constructor
 ·intro k hk;have eW:k<t.aO.length:=by have:=((r6 t c).1 ky).2.1;omega
  unfold MK;rw[fT];intro i hi;unfold MI;have oI:=Cf ky eW;obtain⟨x,hx,ex,_,KB⟩:=(vG ky eW).1 (uX.2 ⟨i,by omega,rfl⟩);obtain⟨y,aY,EK,_,adg⟩:=(vG ky eW).1 (uX.2 ⟨i+1,by omega,rfl⟩);have g1:=Db oI (show i<(c.co.getD k default).length by omega);have g2:=Db oI (show i+1<(c.co.getD k default).length by omega);rw[ex]at g1;rw[EK]at g2;rw[ex,EK,aoF,aoF,aoq,aoA];have:=co hx aY (by unfold jf uj;rw[vH KB,g1,g2,aoo,aop,aop];omega)
  omega
 intro r aM;unfold GH;rcases pt aJ aM with hd | hd
 ·rw[aox,aop];right;have tB:=Lv h aM hd;have seen:∀{w:Nat},w<t.J.length->tW t f r w=true->(bF t w).dir=2/\(bF t w).loc=(bF t r).loc/\jh t c w<=jh t c r:=λ{w} hw aj=>by
   unfold tW sy at aj;simp only[aoo,aox,aop]at aj;obtain⟨⟨h1,h2⟩,h3⟩:=aj;refine⟨h1,h2,?_⟩;rcases h3 with h3 | h3
   ·apply ao0;intro eD;have:=fr aM hw (Iv h aM hw hd h1 h2 (by omega));omega
   rw[rL aJ hw aM,aoo,aop]at h3;have:=ZX w r h3.1 aM;unfold A5 at this;rw[aou (by rw[h3.2];exact aow h2),aot (by omega),aop]at this;exact this
  rcases zw h aM hd with⟨e,h0⟩ | ⟨k,hk,e,mY,eW,aL,_⟩
  ·rw[e];rcases F8 (tW t f r) f t.J.length with⟨q,_⟩ | ⟨w,hw,_,q,_⟩
   ·exact q.symm
   exfalso;obtain⟨h1,_,h3⟩:=seen hw q;have:=ub h hw h1;omega
  rw[e];have qd:=GN h hd e;have iK:tW t f r k=true:=by
   unfold tW sy;simp only[aoo,aox,aop];refine⟨⟨mY,eW⟩,?_⟩;by_cases dB:fo.jn t k r=true
   ·exact .inr (agO h ai hk aM qd dB).1
   refine .inl (hf k r hk aM ?_);unfold Bq lq;rw[qd,aoW.2 dB];simp
  rcases F8 (tW t f r) f t.J.length with⟨_,q⟩ | ⟨w,hw,q,AH,aao⟩
  ·rw[q k hk]at iK;cases iK
  rw[q];obtain⟨h1,h2,h3⟩:=seen hw AH;have aA:=aao k hk iK;have:w=k:=by
   rcases Int.lt_trichotomy (jh t c w) (jh t c k)with g | g | g
   ·have:=co hw hk (HU h hw hk h1 mY (by omega) g);omega
   ·exact Ks h hw hk h1 mY (by omega) g
   omega
  omega
 rw[hd];rfl
end Go.Proofs.bA
namespace Go.bM
open Go Go.b9 Go.Sort Go.Proofs
section
variable {ud aX:Type} {f:ud->Value} {w:World} {g n:Nat} {os:Array Obj}
theorem Qk[Inhabited ud]{cur:Array Value}{e:TypeId}{Bz:List ud}(hb:w.heap[g]?=some (.cells cur e (0,0)))(aJ:cur.toList.take Bz.length=Bz.map f):Holds f w g 0 Bz.toArray:=by
 intro j ae;have qM:j<Bz.length:=by simpa using ae
 refine⟨?_,by simp[World.frozen?,hb]⟩;have h1:(cur.toList.take Bz.length)[j]?=(Bz.map f)[j]?:=by rw[aJ]
 rw[aqU qM]at h1;simp only[World.cell?,hb,aqX];simp only[Option.isSome_none,aqL,aqw];rw[<-aqP,h1];simp[qM]
theorem ZN[Inhabited ud]{cur:Array Value}{e:TypeId}{fr:Nat×Nat}(d:Array ud)(hb:w.heap[g]?=some (.cells cur e fr)): (grow (putRow f (Sort.ahead w n) g 0 d) os).heap[g]?=some (.cells (putCells f 0 d cur) e fr):=by have az:g<w.heap.size:=(aqe.1 hb).1;rw[heap_grow_old _ _ (by simpa using az)];simp[putRow,mapBlock,Sort.ahead,Array.getElem?_modify,hb,onCells]
theorem Y2[Inhabited ud](d:Array ud):w.grownBy (grow (putRow f (Sort.ahead w n) g 0 d) os) (some g):=by refine⟨rfl,rfl,rfl,by simp,λk hk dS=>?_⟩;rw[heap_grow_old _ _ (by simpa using hk)];have:g≠k:=λe=>dS (by rw[e]);simp[putRow,mapBlock,Sort.ahead,Array.getElem?_modify,this]
theorem aiH[Inhabited ud](cur:Array Value)(ts:List ud)(h:ts.length<=cur.size):(putCells f 0 ts.toArray cur).toList.take ts.length=ts.map f:=by
 apply aqm;intro j;by_cases ae:j<ts.length
 ·rw[aqU ae,aqP];simp[putCells,ae,show j<cur.size by omega]
 rw[List.getElem?_take_eq_none (by omega),aoV (by simp;omega)]
theorem S1[Inhabited ud]{enc:aX->List Value}{sz tt cap:Nat}[he:eg enc sz]{xs ys:List aX}{ts:List ud}(hw:Mem [] [.own (.slice (some ⟨g,0,none⟩) xs.length cap) tt sz enc xs] w)(aL:ys.length=xs.length)(hf:ts.map f=ys.flatMap enc): Mem [(w,pX (.own (.slice (some ⟨g,0,none⟩) xs.length cap) tt sz enc xs))] [.own (.slice (some ⟨g,0,none⟩) xs.length cap) tt sz enc ys] (grow (putRow f (Sort.ahead w n) g 0 ts.toArray) os):=by
 have gY:=hw.fC _ aP;obtain⟨alr,bn⟩:=hw.own _ aP;have qR:ts.length=xs.length* sz:=by have:=aoI List.length hf;rwa[aoJ,n2,aL]at this
 have gN:=Y2 (f:=f) (w:=w) (g:=g) (n:=n) (os:=os) ts.toArray;refine(zg hw).q9 (i:=0) rfl gN.os gN.tape gN.output gN.size (λk hk dS=>gN.block k hk λe=>dS (by simp[aB.cN,Value.ownBlock];cases e;rfl)) ?_ (λk hk=>apJ (gY k hk) gN.size) λk hk=>.inl hk;rcases bn with⟨h0,_⟩ | ⟨nD,Ca,cur,ax,az,eC,bd,hm,ej,gj⟩
 ·cases h0
 cases ax;refine⟨by rw[n2],.inr ⟨g,cap,_,by rw[aL],az,ZN _ eC,by rw[aL];exact bd,hm,by simp[putCells,ej],?_⟩⟩;rw[aL,<-qR,<-hf];exact aiH cur ts (by rw[qR,ej];exact apo _ bd)
end
theorem DS(s:ByteArray):s.toList=s.data.toList:=Lib.toList_data s
theorem Ps(xs:List ByteArray):xs.flatMap dU=xs.map Value.string:=by
 induction xs with
 | nil=>rfl
 | cons x xs bP=>rw[ao8,bP];rfl
end Go.bM
namespace Go.Proofs.bA
open Go Go.b9 Go.bM Go.Proofs Go.RowKit Go.Sort
def AY(l:List UInt8):ByteArray:=⟨l.toArray⟩
theorem Sb(s:ByteArray):AY s.data.toList=s:=by cases s;simp[AY]
theorem ah9(v:Value)(xs:List ByteArray)(w:World)(hx:xs.length<=100000)(hw:Mem [] [.own v 9 1 dU xs] w): oy prog 142 [v] (.own v 9 1 dU xs) w λ_ r e' _=>r=.tuple #[]/\∃ys:List ByteArray,e'=.own v 9 1 dU ys/\ys.Perm xs/\ys.Pairwise λa b=>fL b a=false:=by
 have gY:=hw.fC _ aP;obtain⟨aL,bn⟩:=hw.own _ aP;unfold oy;rcases bn with⟨rfl,h0⟩ | ⟨g,cap,cur,rfl,az,eC,bd,hm,ej,gj⟩
 ·have:xs=[]:=aoY h0;subst this;refine(Any.slices_Sort_string_none Rp none 0 w).mono ?_;rintro e I ⟨rfl,rfl⟩;unfold r1;exact⟨_,_,rfl,⟨rfl,[],rfl,.refl _,.nil⟩,zg hw⟩
 have CA:g<w.heap.size:=gY g (by simp[aB.cN,Value.ownBlock]);have aaZ:(xs.map λs=>s.data.toList).map encStr=xs.flatMap dU:=by rw[Ps,aq9];exact apP λs _=>aoI Value.string (Sb s)
 have bH:(xs.map λs=>s.data.toList).length=xs.length:=aoJ _;have CV:cur.toList.take (xs.map λs=>s.data.toList).length=(xs.map λs=>s.data.toList).map encStr:=by rw[aaZ,<-gj,bH,ara]
 have cG:=Any.slices_Sort_string Rp g 0 cap (xs.map λs=>s.data.toList) w (Qk eC CV) CA (by omega);rw[bH]at cG;refine cG.mono ?_;rintro e I ⟨rfl,n,os,rfl⟩;unfold r1;have hf:((xs.map λs=>s.data.toList).mergeSort λx y=>decide (x<=y)).map encStr=(((xs.map λs=>s.data.toList).mergeSort λx y=>decide (x<=y)).map AY).flatMap dU:=by rw[Ps,aq9];rfl
 refine⟨_,_,rfl,⟨rfl,_,rfl,?_,?_⟩,S1 (os:=os) (n:=n) hw ?_ hf⟩
 ·have:=(aql (xs.map λs=>s.data.toList) λx y=>decide (x<=y)).map AY;rw[aq9,show(AY∘λs:ByteArray=>s.data.toList)=id from funext Sb,List.map_id]at this;exact this
 ·rw[apI];refine ap1 ?_ (aqy (le:=λx y=>decide (x<=y)) (λa b c h1 h2=>by
   rw[aop]at *;exact List.le_trans h1 h2) (λa b=>by
   rw[aox,aop,aop];exact List.le_total a b) _)
  intro a b h;rw[aop]at h;unfold fL;rw[DS,DS,bytesLess_eq,aoA];simp only[AY];exact List.not_lt.2 h
 rw[aoJ,List.length_mergeSort,aoJ]
end Go.Proofs.bA
