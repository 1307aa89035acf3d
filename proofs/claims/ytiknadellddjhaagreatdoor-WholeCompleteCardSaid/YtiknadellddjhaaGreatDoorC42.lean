/- Lemmas for the law WholeComplete. -/
import Derived.Test.YtiknadellddjhaaGreatDoorC41
set_option linter.all false
open Go.Proofs.Tryz
set_option maxHeartbeats 12800000
open Go Go.b9 Go.bM Go.gG Go.fo
attribute [local irreducible] Go.wpList Go.Code.wp Go.bodyPost Go.Exit.then Go.Exit.inBlock Go.Calls
namespace Go.Proofs.bA
theorem N6{t:aV}(h:dI t=0){m:cD}{log:List Nat}{b:Nat->List Nat}(M:kL t m log b){k:Nat}(hk:k<t.code.length):(m.cW.getD k default).length<=64:=by
 have bd:=(kI (kr h)).1;rw[M.buf k hk,aoJ,<-aoJ (f:=λe:Nat=>(e:Int))];refine ao5 (Di (ar t).J.length _ ?_ ?_) bd
 ·rw[apI];exact(M.pC k hk).imp λh=>by omega
 intro x hx;obtain⟨e,he,rfl⟩:=ao9.1 hx;have:=((M.jO k hk e).1 he).1;omega
theorem WL{b:Nat}{t:aV}{q:gy}{m:cD}(w:World)(h:px al w b t q m)(bd:0<t.code.length)(nF:t.code.length<=16)(p:Int)(dS:c8 t m=[]): bl prog 88 [av b,.int .i64 p] w λ_ v _=>v=.tuple #[.agg (e7 ⟨0,0⟩).toArray,.int .i64 210]:=by refine ha func88 ntmps88 ?_;refine ei λcO=>?_;refine aq (bp (λI hw=>Em I (h.now hw) bd) ?_);rintro v bx bc rfl cu;refine af ?_;refine cM rfl (λh=>by cases h) λ_=>?_;refine af ?_;refine aq (bp (λI hw=>NT I (h.now hw) bd nF) ?_);rintro ML ck bY FC eZ;rw[dS]at FC;have aiw:=FC.aK;refine af ?_;refine cM rfl (λh2=>?_) (λh2=>by rw[au]at h2;exact absurd rfl h2);refine af ?_;refine c7 0 ?_;exact bT rfl (.dv rfl aP rfl (.t1 rfl)) λI hw=>rfl
theorem aeB{t:aV}{buf:Bool}{script:List Int}{i:Nat}{m:cD}(hm:runM t (ar t) buf script i=m)(h:¬c8 t m=[]):hK t (ar t) buf m (qX t m (rK script i))=runM t (ar t) buf script (i+1):=by
 subst hm;have bd:¬(c8 t (runM t (ar t) buf script i)).length=0:=λg=>h (aoY g);have e:runM t (ar t) buf script (i+1)=let m:=runM t (ar t) buf script i
  if(c8 t m).length=0 then m else hK t (ar t) buf m ((c8 t m).getD (wL script i (c8 t m).length) default):=rfl
 rw[e];dsimp only;rw[aot bd];rfl
theorem WR(t:aV)(ah ad ao aK:Value)(vs:List Value)(script:List Int)(w:World)(bL:gW al w ah ad ao vs t)(cG:aZ al w a7 1 aK script):bl prog 31 [.agg (c6 t ah ad ao).toArray,aK] w (Ht t true script):=by
 have hr:=cG.aK;refine ha func31 ntmps31 ?_;refine e4 λaQ=>?_;refine ei λaU=>?_;refine aq (gi (λI hw=>WO t ah ad ao vs I (bL.now hw)) ?_);rintro v bx es bc ir;rcases ir with⟨h1,rfl,rfl⟩ | ⟨h1,b,q,rfl,rfl,ok,c0,jS⟩
 ·refine af ?_;refine cM rfl (λ_=>?_) (λh=>by rw[aos,an]at h;exact absurd h h1);refine af ?_;refine c7 0 ?_;exact bT rfl (.dv rfl aP rfl (.t1 rfl)) λI hw=>.inl ⟨h1,rfl⟩
 refine af ?_;refine cM rfl (λh=>by rw[aoq,au]at h;exact absurd rfl h) λ_=>?_;refine dp (λh2=>?_) λh2=>?_
 ·rw[an]at h2;refine af ?_;refine c7 5 ?_;exact bT rfl (.dv rfl pN rfl (.t1 rfl)) λI hw=>.inr (.inl ⟨h1,by omega,rfl⟩)
 rw[au]at h2;have G:=kS h1;have nF:=G.n16;have yO:0<t.code.length:=by have:=G.bx;omega
 generalize PI:jK bx (iJ b t q (iY t (ar t)))=sX at *;refine af ?_;refine ei λdu=>?_;refine ea 97 2 e7 ?_;refine w0 (λz:List (Value×Value)×Value×List lI=>qv t {q with rs:=z.1}/\aD z.2.1) (λz=>[(8,true,av du),(6,true,av b),(4,true,av aU),(1,true,aK)]) (λz=>Mem [(bc,sX),(w,al)] (iJ b t {q with rs:=z.1} (uv t (ar t) true script)++[.box du [aa,z.2.1] 47,.own z.2.1 97 2 e7 z.2.2,.box aU [aa,aa] 47])) ?_ ?_
 ·refine bX (λz:Nat×List (Value×Value)×Value×List lI=>z.1<=4161/\qv t {q with rs:=z.2.1}/\aD z.2.2.1/\z.2.2.2.length=z.1) (λz=>[(9,true,.int .i64 (z.1:Nat)),(8,true,av du),(6,true,av b),(4,true,av aU),(1,true,aK)]) (λz=>Mem [(bc,sX),(w,al)] (iJ b t {q with rs:=z.2.1} (runM t (ar t) true script z.1)++[.box du [aa,z.2.2.1] 47,.own z.2.2.1 97 2 e7 z.2.2.2,.box aU [aa,aa] 47])) (λz=>4161-z.1) (0,q.rs,aa,[]) ⟨aoD _,ok,cU,rfl⟩ ?_ ⟨rfl,rfl,rfl,rfl,rfl,trivial⟩ (b4 [2,3,4,5,6,1,0,7])
  rintro⟨i,rs,bR,ms⟩ ⟨hi,ok,kC,CG⟩;dsimp only at hi ok kC CG⊢;obtain⟨log,df,R,aaF⟩:=DJ h1 true script i;have I1:=@GU t h1 true script i;have mb:=LX h1 true script (i:=i);have M:=R.M;generalize kB:runM t (ar t) true script i=m at *;refine af ?_;refine ih (λ_:Unit=>True) (λ_=>[(10,true,.int .i64 (rK script i)),(9,true,.int .i64 (i:Nat)),(8,true,av du),(6,true,av b),(4,true,av aU),(1,true,aK)]) (λ_=>Mem [(bc,sX),(w,al)] (iJ b t {q with rs:=rs} m++[.box du [aa,bR] 47,.own bR 97 2 e7 ms,.box aU [aa,aa] 47])) ?_ ?_
  ·refine bC (λaA=>?_) λaA=>?_
   ·have da:i<script.length:=by rw[an]at aA;omega
    refine af ?_;exact b6 () trivial ⟨by unfold rK;rw[aou da];rfl,rfl,rfl,rfl,rfl,rfl,trivial⟩ λ_ h=>h
   have da:¬i<script.length:=by rw[au]at aA;omega
   refine af ?_;exact b6 () trivial ⟨by unfold rK;rw[aot da];rfl,rfl,rfl,rfl,rfl,rfl,trivial⟩ λ_ h=>h
  rintro⟨⟩ _;refine af ?_;by_cases dS:c8 t m=[]
  ·refine aq (bp (λI hw=>WL I (px.of ok hw (hw.now c0) (hw.now jS)) yO nF (rK script i) dS) ?_);rintro v39 ck bY rfl eZ;have hm:=mb dS;refine af ?_;refine ei λeQ=>?_;refine c7 0 ?_;refine cM rfl (λ_=>?_) (λh=>by rw[aos,an]at h;cases h);refine af ?_;exact b6 (rs,bR,ms) ⟨ok,kC⟩ (hA:=λ_ h=>by rw[<-hm];exact h.cX.tail)
  refine aq (eB (es:=iJ b t {q with rs:=rs} m) (bb:=λI hw=>WK I h1 R ok (rK script i) dS (λk hk=>N6 h1 M hk) (hw.iD c0 aP λ_ h=>aoK _ h) (hw.iD jS aP λ_ h=>aoK _ h) hw.dt.ew) (ab:=?_));rintro rM ia Yn ig ⟨rfl,u7,rfl,ob⟩;rw[aeB kB dS];have Je:=I1 dS;refine af ?_;generalize qO:qX t m (rK script i)=u4;refine ei λeQ=>?_;refine c7 0 ?_;refine cM rfl (λh=>by rw[aoq,au]at h;exact absurd rfl h) λ_=>?_;refine af ?_;refine cA (Mem [(bc,sX),(w,al)] (.box eQ (e7 u4) 97::(iJ b t {q with rs:=u7} (runM t (ar t) true script (i+1))++([.box du [aa,bR] 47,.own bR 97 2 e7 ms,.box aU [aa,aa] 47]:List aB)))) (λ_ h=>h) ?_;refine aq (eI (enc:=e7) (dec:=xh) (e:=97) (sz:=2) (len:=1) (dM:=[(0,e7 u4)]) (ab:=λpU y0=>af ?_));refine aq (e6 8 (hm:=aP) (hk:=rfl) (bH:=by simp;omega) (ab:=λtZ tJ=>af ?_));refine c7 7 ?_;refine bm (i+1,u7,tZ,ms++[u4]) ⟨?_,ob,tJ,?_⟩ ?_ (hA:=b4 [2,3,4,5,6,7,8,9])
  ·show i+1<=4161;omega
  ·show(ms++[u4]).length=i+1;simp[CG]
  show 4161-(i+1)<4161-i;omega
 rintro⟨rs,bR,ms⟩ ⟨ok,kC⟩;dsimp only at ok kC⊢;obtain⟨log,df,R⟩:=Yk h1 true script;have M:=R.M;generalize kB:uv t (ar t) true script=m at *;have jg:=M.nL;rw[lR h1]at jg;refine af ?_;refine aq (bp (λI hw=>(WS I (px.of ok hw (hw.now c0) (hw.now jS)) G yO jg λk hk=>(M.zu h1 hk).1.1).size (hw.sz dg)) ?_);rintro v53 hj fW ⟨CX,Jr⟩ nG;have aix:=CX.aK;refine af ?_;refine c7 5 ?_;refine c7 7 ?_;refine bT rfl (.dv rfl xR rfl (.t1 rfl)) λI hw=>.inr (.inr ⟨h1,by omega,v53,bR,rfl,kC,?_⟩);rw[kB,UF h1];exact hw.pass CX aP Jr
structure lJ where
 ah:Value
 ad:Value
 ao:Value
 vs:List Value
 hG:Value
 ff:Value
 hE:Value
 gF:Value
 hY:Value
 h4:Value
 hZ:Value
 tt:Value
 h5:Value
structure fh where
 ax:Value
 bR:Value
 iW:Value
 di:Value
 dD:Value
 bE:Value
 co:Value
 aj:List (Value×Nat)
 bs:List Value
 cs:List Value
def jk(t:aV)(c:lJ)(buf:Bool)(q:fh):List Value:=c6 t c.ah c.ad c.ao++[c.hG,c.ff,c.hE,c.gF,c.hY,c.h4,c.hZ,c.tt,c.h5,.bool buf,q.ax,q.bR,q.iW,q.di,q.dD,q.bE,q.co]
def gE(q:fh)(m:cD)(k:Nat):List aB:=[.own (q.aj.getD k default).1 70 2 dy (m.aw.getD k default).ag,k3 (q.bs.getD k default) 201 3 j2 (m.cW.getD k default)]
def jI(q:fh)(m:cD)(l:Nat):List aB:=[.own (q.cs.getD l default) 3 1 a7 (m.co.getD l default)]
def hn(b:Nat)(t:aV)(c:lJ)(buf:Bool)(q:fh)(m:cD):List aB:=[.box b (jk t c buf q) 108,.own q.ax 183 2 gM q.aj,.own q.bR 3 1 a7 m.mem,.own q.iW 3 1 a7 m.last,.own q.di 198 1 ct q.bs,.own q.dD 4 1 kQ m.done,.own q.bE 3 1 a7 m.bE,.own q.co 33 1 ct q.cs,dj (dQ (gE q m) t.code.length),dj (dQ (jI q m) (ar t).aO.length)]
structure py(t:aV)(q:fh)(m:cD):Prop where
 ax:aD q.ax
 bR:aD q.bR
 iW:aD q.iW
 di:aD q.di
 dD:aD q.dD
 bE:aD q.bE
 co:aD q.co
 aL:q.aj.length=t.code.length
 cZ:q.bs.length=t.code.length
 cl:q.cs.length=(ar t).aO.length
 aj:∀k,k<t.code.length->aD (q.aj.getD k default).1/\(q.aj.getD k default).2=(m.aw.getD k default).at'
 bs:∀k,k<t.code.length->aD (q.bs.getD k default)
 cs:∀l,l<(ar t).aO.length->aD (q.cs.getD l default)
structure qz(S:Nat->Prop)(w:World)(t:aV)(c:lJ):Prop where
 T:gW S w c.ah c.ad c.ao c.vs t
 R:fB S w c.hG c.ff c.hE c.gF c.hY c.h4 c.hZ c.tt c.h5 (ar t)
structure p0(S:Nat->Prop)(w:World)(b:Nat)(t:aV)(c:lJ)(buf:Bool)(q:fh)(m:cD):Prop where
 ok:py t q m
 g:qz S w t c
 box:gQ S w b (jk t c buf q)
 hold:aZ S w gM 2 q.ax q.aj
 mem:aZ S w a7 1 q.bR m.mem
 last:aZ S w a7 1 q.iW m.last
 cW:aZ S w ct 1 q.di q.bs
 done:aZ S w kQ 1 q.dD m.done
 bo:∀k,k<t.code.length->aZ S w dy 2 (q.aj.getD k default).1 (m.aw.getD k default).ag
 buf:∀k,k<t.code.length->aZ S w j2 3 (q.bs.getD k default) (m.cW.getD k default)
theorem qz.now{S:Nat->Prop}{B I:World}{t:aV}{c:lJ}{bs:List dm}{H:List aB}(h:qz S B t c)(hw:Mem bs H I)(hB:(B,S)∈bs:=by repeat (first | exact List.Mem.head _ | refine List.Mem.tail _ ?_)):qz al I t c:=⟨h.T.now hw hB,h.R.now hw hB⟩
theorem p0.of{b:Nat}{t:aV}{c:lJ}{buf:Bool}{q:fh}{m:cD}{bs:List dm}{H:List aB}{w:World}(ok:py t q m)(hw:Mem bs (hn b t c buf q m++H) w)(g:qz al w t c):p0 al w b t c buf q m:=
 have hf:∀k,k<t.code.length->Mem bs (gE q m k++(dj (jQ (gE q m) t.code.length k)::(dj (dQ (jI q m) (ar t).aO.length)::H))) w:=λk hk=>(hw.tail.tail.tail.tail.tail.tail.tail.tail).sE k hk
 ⟨ok,g,hw.eQ aP trivial,hw.dX,hw.dX,hw.dX,hw.dX,hw.dX,λk hk=>(hf k hk).dX aP,λk hk=>(hf k hk).acW dg⟩
theorem p0.now{S:Nat->Prop}{B I:World}{b:Nat}{t:aV}{c:lJ}{buf:Bool}{q:fh}{m:cD}{bs:List dm}{H:List aB}(h:p0 S B b t c buf q m)(hw:Mem bs H I)(hB:(B,S)∈bs:=by repeat (first | exact List.Mem.head _ | refine List.Mem.tail _ ?_)):p0 al I b t c buf q m:=⟨h.ok,h.g.now hw hB,hw.vE h.box hB,hw.now h.hold hB,hw.now h.mem hB,hw.now h.last hB,hw.now h.cW hB,hw.now h.done hB,λk hk=>hw.now (h.bo k hk) hB,λk hk=>hw.now (h.buf k hk) hB⟩
theorem Ru{α:Type}(l:List α):bw ((0:Int)<l.length)=!l.isEmpty:=by
 cases l with
 | nil=>show bw _=false;rw[au];simp
 | cons x l=>show bw _=true;rw[an,aoN];omega
section
variable {b:Nat} {t:aV} {c:lJ} {buf:Bool} {q:fh} {m:cD} (w:World) (h:p0 al w b t c buf q m)
include h
theorem ahK(k:Nat)(hk:k<t.code.length)(dR:(m.aw.getD k default).at'<(cr t k).length):bl prog 91 [av b,.int .i64 k] w λ_ v _=>v=.bool (sU t m k):=by
 have hb:=h.box;unfold jk at hb;have hp:=h.hold;have hc:=h.cW;have iv:=h.g.T.nA;have eA:=h.g.T.nX;have lO:=h.g.T.code k (by omega);obtain⟨t1,t2,t3⟩:=h.g.T.jY;have iu:=h.buf k hk;obtain⟨s1,s2,cJ,dw,dk,eM,eb,lx,lr,tx,j6,p8,fP⟩:=h.ok;have iK:=j6 k hk;have JK:=p8 k hk;have QE:=lO.aK;have Zt:(q.aj.getD k default).2<(t.code.getD k default).length:=by rw[iK.2];exact dR
 have Zx:=iu.le;refine ha func91 ntmps91 ?_;refine cz [0,1,2,3,4,5,6,7,8,9,10,11,12,13,14,15,16,17,18,19] mixed ?_;refine bQ ?_;refine bO _ (h:=fb ?_);intro ec;refine aF (aN ?_) iR;refine eP (λ_=>True) (h:=bK 0 (ab:=?_));refine aF (aN ?_) dz;refine af ?_;rw[iK.2];have sk:(t.code.getD k default).getD (m.aw.getD k default).at' default=(cr t k).getD (m.aw.getD k default).at' default:=rfl;rw[sk];generalize hi:(cr t k).getD (m.aw.getD k default).at' default=i at *;refine ih (λ_:Unit=>True) (λ_=>[(6,true,.int .i64 (p4 i)),(5,true,av ec),(1,true,.int .i64 k),(0,true,av b)]) (λ_=>Mem [(w,al)] [.box ec (cL i) 169]) ?_ ?_
 ·refine bC (λh1=>?_) λh1=>?_
  ·rw[an]at h1;refine af ?_;exact b6 () trivial ⟨by unfold p4;rw[aou h1];rfl,rfl,rfl,rfl,trivial⟩ λ_ h=>h
  rw[au]at h1;refine af ?_;exact b6 () trivial ⟨by unfold p4;rw[aot h1];rfl,rfl,rfl,rfl,trivial⟩ λ_ h=>h
 rintro⟨⟩ _;refine af ?_;refine e1 (h:=ev (bb:=λ_ I hw=>Mv _ _ _ I)) (ab:=af ?_);refine bT rfl (.t1 rfl) λI hw=>?_;refine aoI Value.bool ?_;unfold sU;rw[hi];dsimp only;have bu:=Ru (m.cW.getD k default);rw[bu,cd,cd]
theorem Md(nF:t.code.length<=16):bl prog 33 [av b] w λn v I=>aZ (Fr n) I e7 2 v (c8 t m):=by
 have hb:=h.box;unfold jk at hb;have hp:=h.hold;have hc:=h.cW;have iv:=h.g.T.nA;have eA:=h.g.T.nX;obtain⟨t1,t2,t3⟩:=h.g.T.jY;obtain⟨s1,s2,cJ,dw,dk,eM,eb,lx,lr,tx,j6,p8,fP⟩:=h.ok;refine ha func33 ntmps33 ?_;refine ea 97 2 e7 ?_;refine bX (λz:Nat×Value=>z.1<=t.code.length/\aD z.2) (λz=>[(10,true,.int .i64 z.1),(9,true,.int .i64 q.aj.length),(3,true,z.2),(0,true,av b)]) (λz=>Mem [(w,al)] [.own z.2 97 2 e7 (pn t m z.1)]) (λz=>t.code.length-z.1) (0,aa) ⟨aoD _,cU⟩ ?_
 rintro⟨k,v⟩ ⟨hk,ax⟩;dsimp only at hk ax⊢;have jg:=AZ t m k;refine dp (λh2=>?_) λh2=>?_
 ·have bq:k<t.code.length:=by rw[an]at h2;omega
  have lO:=h.g.T.code k (by omega);have QE:=lO.aK;have ep:=lO.le;have iu:=h.buf k bq;have Zx:=iu.le;have iK:=j6 k bq;have JK:=p8 k bq;have er:=Dk t m k;unfold uZ at er;refine af ?_;refine cz [0,1,2,3,4,5,6,7,8,9,10,11,12,13,14,15,16,17,18,19,20,21,22,23] mixed ?_;refine bQ ?_;rw[iK.2];refine rE ?_ (h:=ev (bb:=λaz I hw=>ahK I (h.now hw) k bq (by rw[an]at az;show _<(t.code.getD k default).length;omega)));refine aN ?_;refine af ?_;have n4:(bw (((m.aw.getD k default).at':Int)<(t.code.getD k default).length)&&!sU t m k)=k9 t m k:=by
   unfold k9;have e:bw (((m.aw.getD k default).at':Int)<(t.code.getD k default).length)=decide ((m.aw.getD k default).at'<(cr t k).length):=by rw[cd];simp[cr]
   rw[e]
  refine ih (λz:Value=>aD z) (λz=>[(4,true,.int .i64 k),(10,true,.int .i64 k),(9,true,.int .i64 q.aj.length),(3,true,z),(0,true,av b)]) (λz=>Mem [(w,al)] [.own z 97 2 e7 (pn t m k++if k9 t m k=true then [⟨1,(k:Int)⟩]else [])]) ?_ ?_
  ·refine bC (λh3=>?_) λh3=>?_
   ·rw[n4]at h3;rw[aou h3];refine af ?_;refine aq (eI (enc:=e7) (dec:=xh) (ab:=λsT AK=>af ?_));refine aq (e6 1 (hm:=aP) (hk:=rfl) (bH:=by simp;omega) (ab:=λv35 tI=>af ?_));exact b6 v35 tI (hA:=iR)
   rw[n4]at h3;rw[aot (by rw[h3];exact apK),aoH];refine af ?_;exact b6 v ax
  rintro v1 jy;have aas:(pn t m k++if k9 t m k=true then [(⟨1,(k:Int)⟩:lI)]else []).length<=2* k+1:=by rw[aoy];split<;>simp<;>omega
  have bu:=Ru (m.cW.getD k default);rw[<-aoP]at er;refine dp (λh3=>?_) λh3=>?_
  ·rw[bu,aoq]at h3;rw[aot (c:=(m.cW.getD k default).isEmpty=true) (by rw[h3];exact apK)]at er;refine af ?_;refine aq (eI (enc:=e7) (dec:=xh) (ab:=λsT AK=>af ?_));refine aq (e6 1 (hm:=aP) (hk:=rfl) (bH:=by simp only[aoJ,aoN,ao1];omega) (ab:=λv35 tI=>af ?_));exact bm (k+1,v35) ⟨by omega,tI⟩ (show t.code.length-(k+1)<t.code.length-k by omega) (hA:=λ_ h=>by dsimp only;rw[er];exact h.tail)
  rw[bu,aos]at h3;rw[aou (c:=(m.cW.getD k default).isEmpty=true) h3,aoH]at er;refine af ?_;exact bm (k+1,v1) ⟨by omega,jy⟩ (show t.code.length-(k+1)<t.code.length-k by omega) (hA:=λ_ h=>by dsimp only;rw[er];exact h)
 have bq:k=t.code.length:=by rw[au]at h2;omega
 subst bq;refine pG λI hw=>?_;exact hw.im aP aP
end
theorem Yo(gn dC:Nat)(x:eV)(k p:Nat)(w:World)(h1:gQ al w gn [.int .i64 k])(h2:gQ al w dC [.int .i64 p]):bl prog 260 [.agg (ef x).toArray,av gn,av dC] w λ_ v _=>v=.bool (tl k p x):=by refine ha func260 ntmps260 ?_;refine e4 λdK=>?_;refine bT rfl (.t1 rfl) λI hw=>?_;unfold tl;rw[<-cd,<-cd];rfl
theorem Yp(gn dC:Nat)(aI:Value)(l:List eV)(k p:Nat)(w:World)(aL:aZ al w ef 6 aI l)(h1:gQ al w gn [.int .i64 k])(h2:gQ al w dC [.int .i64 p]):bl prog 259 [aI,.func (.func 260) #[] #[av gn,av dC]] w λ_ v _=>v=.int .i64 (if l.findIdx (tl k p)<l.length then(l.findIdx (tl k p):Int)else -1):=by
 have iy:=aL.le;have hr:=aL.aK;refine ha func259 ntmps259 ?_;refine bX (λi:Nat=>i<=l.length/\∀j,j<i->tl k p (l.getD j default)=false) (λi=>[(8,true,.int .i64 i),(7,true,.int .i64 l.length),(1,true,.func (.func 260) #[] #[av gn,av dC]),(0,true,aI)]) (λs=>Mem [(w,al)] []) (λs=>l.length-s) (0) ⟨by omega,λj ae=>by omega⟩ ?_ ⟨rfl,rfl,rfl,rfl,trivial⟩ cv
 rintro i ⟨hi,bG⟩;have PN:∀j,(ae:j<l.length)->j<i->tl k p l[j]=false:=λj ae kz=>by have:=bG j kz;rwa[aor,aov ae]at this
 refine dp (λh3=>?_) λh3=>?_
 ·have dE:i<l.length:=by rw[an]at h3;omega
  refine af ?_;refine aq (bp (λI hw=>Yo gn dC (l.getD i default) k p I (hw.vE h1 aP) (hw.vE h2 aP)) ?_);rintro MN bx bc rfl cu;refine dp (λaA=>?_) λaA=>?_
  ·refine pG λI hw=>?_;have hf:l.findIdx (tl k p)=i:=by rw[List.findIdx_eq dE];refine⟨?_,λj ae=>PN j (by omega) ae⟩;rwa[aor,aov dE]at aA
   rw[hf,aou dE];rfl
  refine af ?_;refine bm ((i+1)) ⟨by omega,λj ae=>?_⟩ (by omega) (hA:=ek);by_cases e:j=i
  ·subst e;exact aA
  exact bG j (by omega)
 have dE:i=l.length:=by rw[au]at h3;omega
 subst dE;refine pG λI hw=>?_;have hf:l.findIdx (tl k p)=l.length:=by rw[List.findIdx_eq_length];intro x hx;obtain⟨j,ae,rfl⟩:=aqk hx;exact PN j ae ae
 rw[hf,aot (aqN _)];rfl
theorem ahE{b:Nat}{t:aV}{c:lJ}{buf:Bool}{q:fh}(k p:Nat)(w:World)(hb:gQ al w b (jk t c buf q))(cj:fB al w c.hG c.ff c.hE c.gF c.hY c.h4 c.hZ c.tt c.h5 (ar t)):bl prog 171 [av b,.int .i64 k,.int .i64 p] w λ_ v _=>v=.int .i64 (if n1 (ar t) k p<(ar t).J.length then(n1 (ar t) k p:Int)else -1):=by have cF:=cj.J;have hr:=cF.aK;unfold jk at hb;refine ha func171 ntmps171 ?_;refine e4 λcO=>?_;refine e4 λec=>?_;refine aq (bp (λI hw=>Yp cO ec _ _ k p I (hw.now cF) (hw.eQ dg trivial) (hw.eQ aP trivial)) ?_);rintro anL bx bc rfl cu;refine af ?_;exact bT rfl (.t1 rfl) λI hw=>rfl
def sP(t:aV)(q:fh)(m:cD):List aB:=[.own q.bR 3 1 a7 m.mem,.own q.iW 3 1 a7 m.last,.own q.co 33 1 ct q.cs,dj (dQ (jI q m) (ar t).aO.length)]
def VU(t:aV)(q:fh)(m:cD):Nat->Value->List aB->World->Prop:=λ_ _ es _=>∃pE,es=sP t {q with cs:=pE} m/\pE.length=(ar t).aO.length/\∀l,l<(ar t).aO.length->aD (pE.getD l default)
theorem Uf{b:Nat}{t:aV}{c:lJ}{buf:Bool}{q q0:fh}{m:cD}(wt:qA)(l:Nat)(w:World)(aL:l<(ar t).aO.length)(jU:wt.loc=(l:Int))(jg:m.mem.length=(ar t).aO.length)(iy:m.last.length=(ar t).aO.length)(eA:m.co.length=(ar t).aO.length)(uH:(m.co.getD l default).length<=100000) (bu:q0.bR=q.bR) (b2:q0.iW=q.iW) (gg:q0.co=q.co) (s1:aD q.bR) (s2:aD q.iW) (cJ:aD q.co) (fP:q.cs.length=(ar t).aO.length) (iv:∀l,l<(ar t).aO.length->aD (q.cs.getD l default)) (hb:gQ (bJ (sP t q m)) w b (jk t c buf q0)) (hw:Mem [] (sP t q m) w): eY prog 93 [av b,.agg (j2 wt).toArray] (sP t q m) w (VU t q (nB m wt)):=by
 unfold jk at hb;rw[bu,b2,gg]at hb;obtain⟨wl,v,e⟩:=wt;dsimp only at jU;subst jU;refine j3 func93 ntmps93 hw ?_;refine e4 λdK=>?_;refine cz [0,1,2,3,4,5,6,7,8,9] mixed ?_;refine bQ ?_;refine eP (λ_=>True) (h:=fq 1 rfl v (ab:=?_));refine aF (aN ?_) dz;refine af ?_;refine cz [0,1,2,3,4,5,6,7,8,9] mixed ?_;refine bQ ?_;refine eP (λ_=>True) (h:=fq 2 rfl e (ab:=?_));refine aF (aN ?_) dz;refine af ?_;refine cA (Mem [(w,bJ (sP t q m))] ([.own (q.cs.getD l default) 3 1 a7 (m.co.getD l default)]++(dj (jQ (jI q m) (ar t).aO.length l)::[.box dK (j2 ⟨l,v,e⟩) 201,.own q.bR 3 1 a7 (m.mem.set l v),.own q.iW 3 1 a7 (m.last.set l e),.own q.co 33 1 ct q.cs]))) (λ_ h=>(h.cC (es:=dj (dQ (jI q m) (ar t).aO.length)::[.box dK (j2 ⟨l,v,e⟩) 201,.own q.bR 3 1 a7 (m.mem.set l v),.own q.iW 3 1 a7 (m.last.set l e),.own q.co 33 1 ct q.cs]) [4,0,1,2,3]).sE l aL) ?_;have ZE:=iv l aL;refine fw (Mem [(w,bJ (sP t q m))] [.box dK (j2 ⟨l,v,e⟩) 201,.own q.co 33 1 ct q.cs]) [0,1,2,3,4,5,6,7,8,9,10,11,12,13,14,15,16,17,18,19,20,21] mixed (b4 [2,5]) ?_;refine bQ ?_;refine bO _ (h:=eI (enc:=a7) (dec:=b9.oE) (e:=3) (sz:=1) (len:=1) (dM:=[(0,[.int .i64 e])]) (ab:=?_));intro v40 QR;refine aF (bQ ?_) (b4 [3,6]);refine bO _ (h:=e6 1 (hm:=aP) (hk:=rfl) (bH:=by simp only[aoJ,aoN,ao1];omega) (ab:=?_));intro v41 wm;refine aF (bQ ?_) (b4 [3,6]);refine eP (λ_=>True) (h:=fq 6 rfl v41 (ab:=?_));refine aF (aN ?_) dz;refine af ?_;refine u1 rfl .nil aP λI hw=>?_;have sg:(nB m ⟨(l:Int),v,e⟩).co=m.co.set l (m.co.getD l default++[e]):=by unfold nB;simp
 have IU:∀j,(q.cs.set l v41).getD j default=if j=l then v41 else q.cs.getD j default:=λj=>by
  rw[fU,fP];by_cases g:j=l
  ·rw[aou ⟨g.symm,by omega⟩,aou g]
  rw[aot λg2=>g g2.1.symm,aot g]
 have h3:=Mem.xd (jI {q with cs:=q.cs.set l v41} (nB m ⟨(l:Int),v,e⟩)) l (show Mem _ (jI {q with cs:=q.cs.set l v41} (nB m ⟨(l:Int),v,e⟩) l++(dj (jQ (jI q m) (ar t).aO.length l)::[.own q.bR 3 1 a7 (m.mem.set l v),.own q.iW 3 1 a7 (m.last.set l e),.own q.co 33 1 ct (q.cs.set l v41)])) _ by
  unfold jI;dsimp only;rw[IU,aou rfl,sg,fU,aou ⟨rfl,by omega⟩];exact hw.cC [1,2,4,5,6]) aL λj ae dS=>by
  unfold jI;dsimp only;rw[IU,aot dS,sg,fU,aot λg=>dS g.1.symm]
 refine⟨sP t {q with cs:=q.cs.set l v41} (nB m ⟨(l:Int),v,e⟩),⟨q.cs.set l v41,rfl,by rw[aoU,fP],λj ae=>?_⟩,h3.cC [1,2,3,0]⟩;rw[IU];split
 ·exact wm
 exact iv j ae
theorem Ug{b:Nat}{t:aV}{c:lJ}{buf:Bool}{q:fh}(cZ:Nat)(aE:Value)(a:Int)(ag:List eh)(d n:Int)(w:World)(eo:aD aE)(hd:0<=d/\d<ag.length)(hb:gQ (bJ (mh cZ aE a ag)) w b (jk t c buf q))(hw:Mem [] (mh cZ aE a ag) w): eY prog 175 [av b,av cZ,.int .i64 d,.int .i64 n] (mh cZ aE a ag) w λ_ _ es _=>es=mh cZ aE a (fM t.aC ag d ⟨bg,n⟩):=by
 unfold jk at hb;refine j3 func175 ntmps175 hw ?_;refine bC (λh1=>?_) λh1=>?_
 ·rw[aox,aoq,aoq,au,au]at h1;refine af ?_;refine aq (fq 1 rfl (⟨bg,n⟩:eh) (ab:=af ?_));refine qV rfl .nil aP (mh cZ aE a (ag.set d.toNat ⟨bg,n⟩)) [0,1] rfl (by decide) λI hw=>?_;unfold fM;rw[aot λq=>h1.elim (λg=>g q.1) λg=>g q.2]
 rw[aoz,aos,aos,an,an]at h1;refine af ?_;refine qV rfl .nil aP (mh cZ aE a ag) [0,1] rfl (by decide) λI hw=>?_;unfold fM;rw[aou h1]
theorem ahF{b:Nat}{t:aV}{c:lJ}{buf:Bool}{q:fh}{m:cD}(k l e:Nat)(w:World)(hk:k<t.code.length)(aL:l<(ar t).aO.length)(he:e<m.bE.length)(jg:m.mem.length=(ar t).aO.length)(iy:m.last.length=(ar t).aO.length)(s1:aD q.bR)(s2:aD q.iW)(cJ:aD q.bE)(dw:aD q.di)(lr:q.bs.length=t.code.length) (hb:gQ (bJ [.own q.bE 3 1 a7 m.bE]) w b (jk t c buf q)) (hc:aZ (bJ [.own q.bE 3 1 a7 m.bE]) w ct 1 q.di q.bs) (iu:aZ (bJ [.own q.bE 3 1 a7 m.bE]) w j2 3 (q.bs.getD k default) (m.cW.getD k default)) (kC:aZ (bJ [.own q.bE 3 1 a7 m.bE]) w a7 1 q.bR m.mem) (p9:aZ (bJ [.own q.bE 3 1 a7 m.bE]) w a7 1 q.iW m.last) (hw:Mem [] [.own q.bE 3 1 a7 m.bE] w): eY prog 176 [av b,.int .i64 k,.int .i64 l,.int .i64 e] [.own q.bE 3 1 a7 m.bE] w λ_ v es _=>v=.int .i64 (nm m k l).1/\es=[.own q.bE 3 1 a7 (m.bE.set e (nm m k l).2)]:=by
 unfold jk at hb;have alc:=iu.aK;have alb:=iu.le;generalize hB:m.cW.getD k default=B at *;refine j3 func176 ntmps176 hw ?_;refine bX (λi:Nat=>i<=B.length/\pw B l=pw (B.take i) l) (λi=>[(9,true,.int .i64 ((i:Int)-1)),(3,true,.int .i64 e),(2,true,.int .i64 l),(1,true,.int .i64 k),(0,true,av b)]) (λ_=>Mem [(w,bJ [.own q.bE 3 1 a7 m.bE])] [.own q.bE 3 1 a7 m.bE]) (λi=>i) B.length ⟨aoL _,by rw[aoZ]⟩ ?_
 rintro i ⟨hi,aY⟩;refine dp (λh1=>?_) λh1=>?_
 ·obtain⟨c4,rfl⟩:∃c4,i=c4+1:=⟨i-1,by rw[an]at h1;omega⟩;have eW:c4<B.length:=by omega
  have aj:pw (B.take (c4+1)) l=if(B.getD c4 default).loc=l then some (B.getD c4 default)else pw (B.take c4) l:=by
   unfold pw;rw[apn,getD_some eW];show((B.take c4++[B.getD c4 default]).reverse.find? _)=_;rw[List.reverse_append,List.reverse_singleton,List.singleton_append,List.find?_cons];by_cases q:(B.getD c4 default).loc=l
   ·rw[aou q,aow q]
   rw[aot q,aoE q]
  have bu:((c4+1:Nat):Int)-1=(c4:Int):=by omega
  rw[bu];refine af ?_;refine ei λo1=>?_;refine c7 0 ?_;refine bC (λh2=>?_) λh2=>?_
  ·rw[an]at h2;rw[aou h2]at aj;have J9:=aY.trans aj;have h8:nm m k l=((B.getD c4 default).val,(B.getD c4 default).aI):=by unfold nm;rw[hB,J9]
   refine af ?_;refine cz [0,1,2,3,4,5,6,7,8,9] mixed ?_;refine bQ ?_;refine eP (λ_=>True) (h:=fq 1 rfl (B.getD c4 default).aI (ab:=?_));refine aF (aN ?_) dz;refine af ?_;exact eL rfl (.t1 rfl) [.own q.bE 3 1 a7 (m.bE.set e (B.getD c4 default).aI)] [1] λI hw=>⟨by rw[h8];rfl,by rw[h8]⟩
  rw[au]at h2;rw[aot h2]at aj;refine af ?_;exact bm c4 ⟨by omega,aY.trans aj⟩ (by omega) (hA:=iR)
 have bU:i=0:=by rw[au]at h1;omega
 subst bU;have bd:pw B l=none:=aY;have h8:nm m k l=(m.mem.getD l default,m.last.getD l default):=by unfold nm;rw[hB,bd]
 refine af ?_;refine cz [0,1,2,3,4,5,6,7,8,9,10,11,12,13,14] mixed ?_;refine bQ ?_;refine eP (λ_=>True) (h:=fq 0 rfl (m.last.getD l default) (ab:=?_));refine aF (aN ?_) dz;refine af ?_;exact eL rfl (.t1 rfl) [.own q.bE 3 1 a7 (m.bE.set e (m.last.getD l default))] [0] λI hw=>⟨by rw[h8];rfl,by rw[h8]⟩
end Go.Proofs.bA
