/- Lemmas for the law WholeSound. -/
import Derived.Test.YtiknadellddjhaaGreatDoorS16
set_option linter.all false
open Go Go.cc Go.bU Go.gH Go.eV
namespace Go.Proofs.bK
def Bw(t:a1)(a m b:Nat):Bool:=dK t a m&&dK t m b
def FW(t:a1)(a b:Nat):Bool:=decide ((bf t b).dir=2)&&ov t a b
def BH(t:a1)(a b:Nat):Bool:=(List.range t.J.length).any λm=>Bw t a m b&&decide ((bf t m).dir=2)&&ov t a m
def A3(t:a1)(c:cv)(a b:Nat):Bool:=decide ((bf t a).dir=1)&&decide ((bf t b).dir=1)&&ov t a b&&!decide (c.br.getD a default=c.br.getD b default)&&!BH t a b
def RP(t:a1)(c:cv)(a b:Nat):Bool:=decide ((bf t b).dir=1)&&decide (0<=c.br.getD b default)&&Bw t a (c.br.getD b default).toNat b&&(kp t.addr a (c.br.getD b default).toNat||kp t.data a (c.br.getD b default).toNat)
def MS(t:a1)(a b:Nat):Bool:=decide ((bf t b).dir=2)&&(List.range t.J.length).any λm=>Bw t a m b&&kp t.addr a m
def SU(t:a1)(c:cv)(k:Int)(a b:Nat):Bool:=
 if k=1 then FW t a b else if k=2 then A3 t c a b else if k=4 then vh t.bars (bf t a) (bf t b)else if k=9 then kp t.addr a b else if k=10 then kp t.data a b else
 if k=11 then decide ((bf t b).dir=2)&&kp t.ba a b else if k=12 then RP t c a b else if k=13 then MS t a b else false
def C2(t:a1)(c:cv)(k:Int)(a b:Nat):Bool:=dK t a b&&SU t c k a b
def La(t:a1)(c:cv)(f:Int)(n:Nat)(a b:Nat):Bool:=(List.range n).any λi=>C2 t c (f+i) a b
def xo(t:a1)(c:cv)(a b:Nat):Bool:=La t c 1 13 a b
def xn(t:a1)(c:cv)(a b:Nat):Bool:=((xo t c a b||ke t (iR t c) a b)||hX t c a b)||jD t c a b
def Lg(t:a1)(c:cv):Bool:=na t c&&mq t (xn t c)
theorem K9{t:a1}{c:cv}{k a b:Nat}(h1:1<=k)(h2:k<=13)(h:C2 t c k a b=true):xo t c a b=true:=by unfold xo La;rw[anl];exact⟨k-1,amH.2 (by omega),by rw[show(1:Int)+((k-1:Nat):Int)=(k:Int) by omega];exact h⟩
theorem S8{t:a1}{c:cv}{a b:Nat}(h:xo t c a b=true):∃k:Int,C2 t c k a b=true:=by unfold xo La at h;rw[anl]at h;obtain⟨i,_,h⟩:=h;exact⟨_,h⟩
theorem afL{t:a1}{c:cv}{a b:Nat}(h:xo t c a b=true):dK t a b=true:=by obtain⟨k,h⟩:=S8 h;unfold C2 at h;rw[ami]at h;exact h.1
theorem FY{t:a1}{l:List b5}{w:Bool}(h:pa t l w=true){a b:Nat}(hm:kp l a b=true):a<b/\b<t.J.length/\(bf t a).dir=1/\eV.ik t a b=true:=by
 unfold kp at hm;rw[amj]at hm;obtain⟨i,hi⟩:=anv hm;have gB:=(amV.1 hi).1;unfold pa at h;rw[fX]at h;have h1:=h i gB;have e:l.getD i default=⟨(a:Int),(b:Int)⟩:=by rw[aml,hi];rfl
 unfold vX CP at h1;rw[e]at h1;simp only[ami,amj,bU.aN,amw]at h1;unfold eV.ik;rw[amj];unfold bf;obtain⟨⟨⟨⟨⟨⟨cq,bn⟩,e8⟩,ih⟩,j9⟩,-⟩,-⟩:=h1;exact⟨by omega,by omega,by simpa using ih,by simpa using j9⟩
theorem ahn{t:a1}(h:gL t=true):pa t t.addr false=true/\pa t t.data true=true/\pa t t.ba false=true:=by unfold gL at h;simp only[ami]at h;exact⟨h.1.1.1.2,h.1.1.2,h.1.2⟩
theorem S7{t:a1}{c:cv}(aE:gL t=true){a b:Nat}(h:xo t c a b=true):nu t a b=true:=by
 have hp:=afL h;obtain⟨k,h⟩:=S8 h;obtain⟨g1,g2,g3⟩:=ahn aE;unfold nu;rw[hp,anA,amr,amk];unfold C2 SU at h;rw[hp,anA]at h;have JL:¬(bf t b).dir=1->o3 t a b=false:=λq=>by unfold o3;rw[amy q,anM]
 have CC:¬(bf t a).dir=2->o3 t a b=false:=λq=>by unfold o3;rw[amy q,anT]
 by_cases mK:k=1
 ·rw[amo mK]at h;simp only[FW,ami,amj]at h;exact .inl (JL (by omega))
 by_cases mL:k=2
 ·rw[amn mK,amo mL]at h;simp only[A3,ami,amj]at h;exact .inl (CC (by omega))
 by_cases vJ:k=4
 ·rw[amn mK,amn mL,amo vJ]at h;right;unfold vi;rw[hp,h];rfl
 by_cases Ab:k=9
 ·rw[amn mK,amn mL,amn vJ,amo Ab]at h;have:=(FY g1 h).2.2.1;exact .inl (CC (by omega))
 by_cases Cz:k=10
 ·rw[amn mK,amn mL,amn vJ,amn Ab,amo Cz]at h;have:=(FY g2 h).2.2.1;exact .inl (CC (by omega))
 by_cases Fk:k=11
 ·rw[amn mK,amn mL,amn vJ,amn Ab,amn Cz,amo Fk]at h;simp only[ami,amj]at h;exact .inl (JL (by omega))
 by_cases JG:k=12
 ·rw[amn mK,amn mL,amn vJ,amn Ab,amn Cz,amn Fk,amo JG]at h;simp only[RP,ami,amr]at h;rcases h.2 with q | q
  ·have:=(FY g1 q).2.2.1;exact .inl (CC (by omega))
  have:=(FY g2 q).2.2.1;exact .inl (CC (by omega))
 by_cases Qb:k=13
 ·rw[amn mK,amn mL,amn vJ,amn Ab,amn Cz,amn Fk,amn JG,amo Qb]at h;simp only[MS,ami,amj]at h;exact .inl (JL (by omega))
 rw[amn mK,amn mL,amn vJ,amn Ab,amn Cz,amn Fk,amn JG,amn Qb]at h;cases h
def lV(t:a1)(f:Nat->Nat)(r w:Nat):Bool:=decide ((bf t w).dir=2)&&ov t w r&&(decide (f w<f r)||dK t w r)
def xd(q:Nat->Bool)(f:Nat->Nat):Nat->Int
 | 0=> -1
 | w+1=>if(q w&&(decide (xd q f w<0)||decide (f (xd q f w).toNat<f w)))=true then(w:Int)else xd q f w
theorem CF(q:Nat->Bool)(f:Nat->Nat):∀n,(xd q f n= -1/\∀w,w<n->q w=false)\/∃k:Nat,k<n/\xd q f n=(k:Int)/\q k=true/\∀w,w<n->q w=true->f w<=f k
 | 0=>.inl ⟨rfl,λw hw=>absurd hw (anp _)⟩
 | n+1=>by
  have bH:=CF q f n;unfold xd;by_cases aZ:q n=true
  ·rcases bH with⟨h1,h2⟩ | ⟨k,hk,h1,h2,h3⟩
   ·refine .inr ⟨n,by omega,?_,aZ,λw hw ui=>?_⟩
    ·rw[amo (by rw[aZ,h1];rfl)]
    rcases amY w n with g | g
    ·rw[h2 w g]at ui;cases ui
    obtain rfl:w=n:=by omega
    exact amK _
   by_cases hf:f k<f n
   ·refine .inr ⟨n,by omega,?_,aZ,λw hw ui=>?_⟩
    ·rw[amo (by rw[aZ,h1,amw,amq hf,aoR];rfl)]
    rcases amY w n with g | g
    ·have:=h3 w g ui;omega
    obtain rfl:w=n:=by omega
    exact amK _
   refine .inr ⟨k,by omega,?_,h2,λw hw ui=>?_⟩
   ·rw[amn (by rw[aZ,h1,amw,amy hf,amy (by omega)];simp)];exact h1
   rcases amY w n with g | g
   ·exact h3 w g ui
   obtain rfl:w=n:=by omega
   omega
  rw[amn (by rw[amP.2 aZ];simp)];rw[anK]at aZ;rcases bH with⟨h1,h2⟩ | ⟨k,hk,h1,h2,h3⟩
  ·refine .inl ⟨h1,λw hw=>?_⟩;rcases amY w n with g | g
   ·exact h2 w g
   obtain rfl:w=n:=by omega
   exact aZ
  refine .inr ⟨k,by omega,h1,h2,λw hw ui=>?_⟩;rcases amY w n with g | g
  ·exact h3 w g ui
  obtain rfl:w=n:=by omega
  rw[aZ]at ui;cases ui
def GI(f:Nat->Nat)(l:List Int)(i:Nat):Bool:=!decide (f (l.getD (i+1) default).toNat<f (l.getD i default).toNat)
def Dh(f:Nat->Nat)(l:List Int):Bool:=(List.range (l.length-1)).all (GI f l)
def CW(t:a1)(c:cv)(f:Nat->Nat)(r:Nat):Bool:=!decide ((bf t r).dir=1)||decide (c.br.getD r default=xd (lV t f r) f t.J.length)
def qa(t:a1)(c:cv)(f:Nat->Nat):Bool:=((List.range c.co.length).all λk=>Dh f (c.co.getD k default))&&(List.range t.J.length).all (CW t c f)
section
variable {t:a1} {c:cv} (h:fc t c=0) {f:Nat->Nat} (nf:∀a b,a<t.J.length->b<t.J.length->f a=f b->a=b)
include h nf
theorem ahC{k:Nat}(hk:k<t.bb.length)(hu:Dh f (c.co.getD k default)=true):∀(d i:Nat),i+d+1<(c.co.getD k default).length->f ((c.co.getD k default).getD i default).toNat<f ((c.co.getD k default).getD (i+d+1) default).toNat:=by
 obtain⟨aE,ai⟩:=l5 h;have mB:=zk ai hk;have step:∀i,i+1<(c.co.getD k default).length->f ((c.co.getD k default).getD i default).toNat<f ((c.co.getD k default).getD (i+1) default).toNat:=λi hi=>by
  unfold Dh at hu;rw[fX]at hu;have h1:=hu i (by omega);unfold GI at h1;rw[amk,amu]at h1;obtain⟨x,hx,ex,_⟩:=(sY ai hk).1 (se.2 ⟨i,by omega,rfl⟩);obtain⟨y,aR,xR,_⟩:=(sY ai hk).1 (se.2 ⟨i+1,hi,rfl⟩);have dC:x≠y:=λq=>by have g1:=yx mB (show i<(c.co.getD k default).length by omega);have g2:=yx mB hi;rw[ex]at g1;rw[xR]at g2;rw[q]at g1;omega
  rw[ex,xR,amw,amw]at h1⊢;have:f x≠f y:=λq=>dC (nf x y hx aR q);omega
 intro d
 induction d with
 | zero=>exact λi hi=>step i hi
 | succ d bH=>intro i hi;have h1:=bH i (by omega);have h2:=step (i+d+1) (by omega);rw[show i+(d+1)+1=i+d+1+1 by omega];omega
theorem JS(aB:qa t c f=true){a b:Nat}(au:a<t.J.length)(hb:b<t.J.length)(ag:hX t c a b=true):f a<f b:=by obtain⟨aE,ai⟩:=l5 h;obtain⟨p,hp,kC⟩:=tw aE au;unfold qa at aB;rw[ami,fX,fX]at aB;have hu:=aB.1 p (by have:=((q2 t c).1 ai).2.1;omega);unfold hX sL at ag;rw[ami,amj,amj,tR hp]at ag;have h1:=Cx ((tq _ _).1 ag.1);have h2:=Cx ((tq _ _).1 (show 0<=eF (c.co.getD p default) b by omega));have:=ahC h nf kC hu ((eF (c.co.getD p default) b).toNat-(eF (c.co.getD p default) a).toNat-1) (eF (c.co.getD p default) a).toNat (by omega);rw[Aa ag.1,show(eF (c.co.getD p default) a).toNat+((eF (c.co.getD p default) b).toNat-(eF (c.co.getD p default) a).toNat-1)+1=(eF (c.co.getD p default) b).toNat by omega,Aa (by omega)]at this;simpa using this
theorem abP(aB:qa t c f=true){r:Nat}(aH:r<t.J.length)(hd:(bf t r).dir=1):(c.br.getD r default= -1/\∀w,w<t.J.length->lV t f r w=false)\/ ∃k:Nat,k<t.J.length/\c.br.getD r default=(k:Int)/\lV t f r k=true/\∀w,w<t.J.length->lV t f r w=true->f w<=f k:=by unfold qa at aB;rw[ami,fX,fX]at aB;have h1:=aB.2 r aH;unfold CW at h1;rw[hd,amq (rfl:(1:Int)=1),aoT,anU,amj]at h1;rw[h1];exact CF (lV t f r) f t.J.length
theorem QE(aB:qa t c f=true){a b:Nat}(au:a<t.J.length)(e1:b<t.J.length)(j1:(bf t a).dir=2)(EA:(bf t b).dir=2)(oX:(bf t b).loc=(bf t a).loc)(hf:f a<f b):ga t c a<ga t c b:=by
 rcases Int.lt_trichotomy (ga t c a) (ga t c b)with q | q | q
 ·exact q
 ·have:=Ft h au e1 j1 EA oX q;subst this;omega
 have:=JS h nf aB e1 au (DR h e1 au EA j1 oX.symm q);omega
theorem QF(aB:qa t c f=true){a b:Nat}(au:a<t.J.length)(e1:b<t.J.length)(j1:(bf t a).dir=2)(EA:(bf t b).dir=2)(oX:(bf t b).loc=(bf t a).loc)(hf:f a<=f b):ga t c a<=ga t c b:=by
 by_cases q:a=b
 ·subst q;exact Int.le_refl _
 have:=QE h nf aB au e1 j1 EA oX (by have:f a≠f b:=λe=>q (nf _ _ au e1 e);omega);omega
omit h nf in
theorem Tn{r w:Nat}(hd:(bf t w).dir=2)(oX:(bf t w).loc=(bf t r).loc)(q:f w<f r\/dK t w r=true):lV t f r w=true:=by unfold lV ov;simp only[ami,amr,amj];exact⟨⟨hd,oX⟩,q⟩
theorem JT(aB:qa t c f=true){r:Nat}(aH:r<t.J.length)(hd:(bf t r).dir=1):(c.br.getD r default= -1/\ga t c r=0/\∀w,w<t.J.length->lV t f r w=false)\/ ∃k:Nat,k<t.J.length/\c.br.getD r default=(k:Int)/\(bf t k).dir=2/\(bf t k).loc=(bf t r).loc/\ga t c r=ga t c k/\(f k<f r\/dK t k r=true)/\∀w,w<t.J.length->lV t f r w=true->f w<=f k:=by
 rcases abP h nf aB aH hd with⟨e,h2⟩ | ⟨k,eB,e,h2,h3⟩
 ·rcases wa h aH hd with⟨_,q⟩ | ⟨cF,_,e',_⟩
  ·exact .inl ⟨e,q,h2⟩
  omega
 rcases wa h aH hd with⟨e',_⟩ | ⟨cF,_,e',g1,g2,g3,_⟩
 ·omega
 obtain rfl:k=cF:=by omega
 refine .inr ⟨k,eB,e,g1,g2,g3,?_,h3⟩;unfold lV at h2;simp only[ami,amr,amj]at h2;exact h2.2
theorem vM(aB:qa t c f=true){a b:Nat}(au:a<t.J.length)(e1:b<t.J.length)(ag:(ke t (iR t c) a b=true\/hX t c a b=true)\/jD t c a b=true):f a<f b:=by
 obtain⟨aE,ai⟩:=l5 h;rcases ag with(ag | ag) | ag
 ·unfold ke at ag;rw[ami,amk]at ag;obtain⟨ag,dj⟩:=ag;unfold iR at ag;rw[ami,amj,amj]at ag;rcases JT h nf aB e1 ag.1 with⟨e,_⟩ | ⟨k,eB,e,g1,g2,g3,g4,_⟩
  ·omega
  obtain rfl:a=k:=by omega
  refine g4.resolve_right λq=>?_;unfold dK at q;rw[dj]at q;cases q
 ·exact JS h nf aB au e1 ag
 have hd:(bf t a).dir=1:=by unfold jD at ag;rw[ami,amj]at ag;exact ag.1
 have dn:eF (iH t c a) (c.br.getD a default)<eF (iH t c a) b:=by unfold jD at ag;rw[ami,amj,amj]at ag;exact ag.2
 obtain⟨j,ad,e,kV,fZ⟩:=Oz aE ai au dn;obtain rfl:b=j:=by omega
 apply amT;intro e7;have dC:f a≠f b:=λq=>by have:=nf _ _ au e1 q;subst this;omega
 have PN:=Tn (f:=f) kV fZ (.inl (show f b<f a by omega));rcases JT h nf aB au hd with⟨e,q,uA⟩ | ⟨k,eB,e,g1,g2,g3,g4,g5⟩
 ·have:=uA b e1;rw[PN]at this;cases this
 have h1:=g5 b e1 PN;have h2:=QF h nf aB e1 eB kV g1 (by omega) h1;have h3:=rI h e1 kV;have aC:=Ga h au hd;rw[xH h fZ]at h3;omega
theorem abQ(aB:qa t c f=true)(hk:∀a b,a<t.J.length->b<t.J.length->xo t c a b=true->f a<f b):Lg t c=true:=by
 obtain⟨aE,ai⟩:=l5 h;have hb:=(lD aE).1;have co:∀{a b:Nat},a<t.J.length->b<t.J.length->hX t c a b=true->f a<f b:=λau e1 ag=>JS h nf aB au e1 ag;have one:∀{a b:Nat},a<t.J.length->b<t.J.length->dK t a b=true->(bf t b).dir=2->(bf t a).loc=(bf t b).loc->f a<f b:=λau e1 hp hd oX=>
  hk _ _ au e1 (K9 (k:=1) (by omega) (by omega) (by show(dK t _ _&&FW t _ _)=true;unfold FW ov;rw[hp,hd,oX];simp))
 have lv:∀{a b:Nat},a<t.J.length->b<t.J.length->(bf t a).dir=2->(bf t b).dir=2->(bf t b).loc=(bf t a).loc->f a<f b->ga t c a<ga t c b:=λau e1=>QE h nf aB au e1;have QH:∀{a b:Nat},a<t.J.length->b<t.J.length->(bf t a).dir=2->(bf t b).dir=2->(bf t b).loc=(bf t a).loc->f a<=f b->ga t c a<=ga t c b:=λau e1=>QF h nf aB au e1;have wg:∀{r w:Nat},(bf t w).dir=2->(bf t w).loc=(bf t r).loc->(f w<f r\/dK t w r=true)->lV t f r w=true:=Tn;have Gh:∀{r:Nat},r<t.J.length->(bf t r).dir=1->(c.br.getD r default= -1/\ga t c r=0/\∀w,w<t.J.length->lV t f r w=false)\/ ∃k:Nat,k<t.J.length/\c.br.getD r default=(k:Int)/\(bf t k).dir=2/\(bf t k).loc=(bf t r).loc/\ga t c r=ga t c k/\(f k<f r\/dK t k r=true)/\∀w,w<t.J.length->lV t f r w=true->f w<=f k:=λaH hd=>JT h nf aB aH hd
 unfold Lg;rw[ami];constructor
 ·refine(HM h hb).2 λi j hN ad=>?_;have hi:i<t.J.length:=by omega
  unfold yJ;by_cases ag:(eV.ik t i j&&ov t i j)=true
  ·rw[amo ag];rw[ami]at ag;have oX:(bf t i).loc=(bf t j).loc:=by simpa[ov]using ag.2
   have hp:dK t i j=true:=by rw[qI aE hi ad,ag.1,amq hN];rfl
   have ptr:∀{k:Nat},k<t.J.length->dK t k i=true->dK t k j=true:=λ{k} eB q=>by simp only[dK,eV.ik,ami,amj]at hp q⊢;omega
   by_cases kV:(bf t j).dir=2
   ·rw[amo kV,amj];rcases mU aE hi with hid | hid
    ·rcases Gh hi hid with⟨_,q,_⟩ | ⟨k,eB,e,g1,g2,g3,g4,_⟩
     ·have:=rI h ad kV;omega
     rw[g3];refine lv eB ad g1 kV (by omega) ?_;rcases g4 with g | g
     ·have:=one hi ad hp kV oX;omega
     exact one eB ad (ptr eB g) kV (by omega)
    exact lv hi ad hid kV oX.symm (one hi ad hp kV oX)
   have EJ:(bf t j).dir=1:=by have:=mU aE ad;omega
   rw[amn kV,amj];rcases mU aE hi with hid | hid
   ·rcases Gh hi hid with⟨_,q,_⟩ | ⟨k,eB,e,g1,g2,g3,g4,g5⟩
    ·have:=Qw h ad;omega
    rcases Gh ad EJ with⟨e',q',uA⟩ | ⟨cF,IG,e',HU,HV,HW,XJ,BG⟩
    ·exfalso;by_cases g:dK t k i=true
     ·have:=uA k eB;rw[wg g1 (by omega) (.inr (ptr eB g))]at this;cases this
     have rf:=g4.resolve_right g;by_cases vk:BH t i j=true
     ·unfold BH at vk;rw[anl]at vk;obtain⟨m,hm,ua⟩:=vk;rw[amH]at hm;simp only[Bw,ov,ami,amj]at ua;have:=uA m hm;rw[wg ua.1.2 (by omega) (.inr ua.1.1.2)]at this;cases this
     have YR:=hk i j hi ad (K9 (k:=2) (by omega) (by omega) (by show(dK t i j&&A3 t c i j)=true;unfold A3;rw[hp,ag.2,hid,EJ,amP.2 vk,e,e',amy (p:=((k:Int)=_)) (by omega)];rfl))
     have:=uA k eB;rw[wg g1 (by omega) (.inl (by omega))]at this;cases this
    rw[g3,HW];by_cases yc:k=cF
    ·subst yc;exact Int.le_refl _
    refine QH eB IG g1 HU (by omega) ?_;by_cases g:dK t k i=true
    ·exact BG k eB (wg g1 (by omega) (.inr (ptr eB g)))
    have rf:=g4.resolve_right g;by_cases vk:BH t i j=true
    ·unfold BH at vk;rw[anl]at vk;obtain⟨m,hm,ua⟩:=vk;rw[amH]at hm;simp only[Bw,ov,ami,amj]at ua;have h1:=one hi hm ua.1.1.1 ua.1.2 ua.2;have h2:=BG m hm (wg ua.1.2 (by omega) (.inr ua.1.1.2));omega
    have YR:=hk i j hi ad (K9 (k:=2) (by omega) (by omega) (by show(dK t i j&&A3 t c i j)=true;unfold A3;rw[hp,ag.2,hid,EJ,amP.2 vk,e,e',amy (p:=((k:Int)=_)) (by omega)];rfl))
    exact BG k eB (wg g1 (by omega) (.inl (by omega)))
   rcases Gh ad EJ with⟨e',q',uA⟩ | ⟨cF,IG,e',HU,HV,HW,XJ,BG⟩
   ·exfalso;have:=uA i hi;rw[wg hid oX (.inr hp)]at this;cases this
   rw[HW];exact QH hi IG hid HU (by omega) (BG i hi (wg hid oX (.inr hp)))
  rw[amn ag]
 refine LP (f:=f) hb λa b au e1 ag=>?_;unfold xn at ag;simp only[amr]at ag;rcases ag with((ag | ag) | ag) | ag
 ·exact hk a b au e1 ag
 ·exact vM h nf aB au e1 (.inl (.inl ag))
 ·exact vM h nf aB au e1 (.inl (.inr ag))
 exact vM h nf aB au e1 (.inr ag)
end
theorem afK{t:a1}{c:cv}(h:fc t c=0)(ai:na t c=true){f:Nat->Nat}(hf:∀a b,a<t.J.length->b<t.J.length->xn t c a b=true->f a<f b):qa t c f=true:=by
 obtain⟨aE,kg⟩:=l5 h;have hb:=(lD aE).1;have YI:=(HM h hb).1 ai;have co:∀{a b:Nat},a<t.J.length->b<t.J.length->hX t c a b=true->f a<f b:=λau e1 q=>hf _ _ au e1 (by unfold xn;rw[q];simp);have fr:∀{a b:Nat},a<t.J.length->b<t.J.length->jD t c a b=true->f a<f b:=λau e1 q=>hf _ _ au e1 (by unfold xn;rw[q];simp);unfold qa;rw[ami,fX,fX];constructor
 ·intro k hk;have eB:k<t.bb.length:=by have:=((q2 t c).1 kg).2.1;omega
  unfold Dh;rw[fX];intro i hi;unfold GI;have mB:=zk kg eB;obtain⟨x,hx,ex,_,JV⟩:=(sY kg eB).1 (se.2 ⟨i,by omega,rfl⟩);obtain⟨y,aR,xR,_,abW⟩:=(sY kg eB).1 (se.2 ⟨i+1,by omega,rfl⟩);have g1:=yx mB (show i<(c.co.getD k default).length by omega);have g2:=yx mB (show i+1<(c.co.getD k default).length by omega);rw[ex]at g1;rw[xR]at g2;rw[ex,xR,amw,amw,amk,amu];have:=co hx aR (by unfold hX sL;rw[tR JV,g1,g2,ami,amj,amj];omega)
  omega
 intro r aH;unfold CW;rcases mU aE aH with hd | hd
 ·rw[amr,amj];right;have te:=Ga h aH hd;have seen:∀{w:Nat},w<t.J.length->lV t f r w=true->(bf t w).dir=2/\(bf t w).loc=(bf t r).loc/\ga t c w<=ga t c r:=λ{w} hw ag=>by
   unfold lV ov at ag;simp only[ami,amr,amj]at ag;obtain⟨⟨h1,h2⟩,h3⟩:=ag;refine⟨h1,h2,?_⟩;rcases h3 with h3 | h3
   ·apply amT;intro e7;have:=fr aH hw (HT h aH hw hd h1 h2 (by omega));omega
   rw[qI aE hw aH,ami,amj]at h3;have:=YI w r h3.1 aH;unfold yJ at this;rw[amo (by rw[h3.2];exact amq h2),amn (by omega),amj]at this;exact this
  rcases wa h aH hd with⟨e,h0⟩ | ⟨k,hk,e,mz,eB,aB,_⟩
  ·rw[e];rcases CF (lV t f r) f t.J.length with⟨q,_⟩ | ⟨w,hw,_,q,_⟩
   ·exact q.symm
   exfalso;obtain⟨h1,_,h3⟩:=seen hw q;have:=rI h hw h1;omega
  rw[e];have p5:=Gf h hd e;have iy:lV t f r k=true:=by
   unfold lV ov;simp only[ami,amr,amj];refine⟨⟨mz,eB⟩,?_⟩;by_cases dj:eV.ik t k r=true
   ·exact .inr (SN h ai hk aH p5 dj).1
   refine .inl (hf k r hk aH ?_);unfold xn ke;rw[p5,amP.2 dj];simp
  rcases CF (lV t f r) f t.J.length with⟨_,q⟩ | ⟨w,hw,q,zT,Y8⟩
  ·rw[q k hk]at iy;cases iy
  rw[q];obtain⟨h1,h2,h3⟩:=seen hw zT;have aC:=Y8 k hk iy;have:w=k:=by
   rcases Int.lt_trichotomy (ga t c w) (ga t c k)with g | g | g
   ·have:=co hw hk (DR h hw hk h1 mz (by omega) g);omega
   ·exact Ft h hw hk h1 mz (by omega) g
   omega
  omega
 rw[hd];rfl
end Go.Proofs.bK
