/- Lemmas for the law WholeComplete. -/
import Derived.Test.YtiknadellddjhaaGreatDoorC44
import Derived.Test.YtiknadellddjhaaGreatDoorC47
set_option linter.all false
open Go.Proofs.Tryz
set_option maxHeartbeats 12800000
open Go Go.b9 Go.bM Go.gG Go.fo
attribute [local irreducible] Go.wpList Go.Code.wp Go.bodyPost Go.Exit.then Go.Exit.inBlock Go.Calls
namespace Go.Proofs.bA
instance:s3 prog 97 e7:=⟨Tryz.eqGuardType97,λx y w=>by obtain⟨a0,ds⟩:=x;obtain⟨b0,gn⟩:=y;simp[e7,run_equalIn_agg w 9999 97 _ _ (by rw[Program.fieldsOf,underlying97]) Tryz.stoodInHeld97,Program.fieldsOf,underlying97,Op.eqFields,part,isAgg,run_underlying underlying3,run_equalIn_int w 9998 3 .i64 .i64 _ _ underlying3];by_cases h0:a0=b0<;>by_cases h1:ds=gn<;>simp[h0,h1]⟩
theorem adR(v:Value)(x:lI)(l:List lI)(w:World)(h:aZ al w e7 2 v l)(hm:x∈l):bl prog 103 [v,.agg (e7 x).toArray] w λ_ r _=>r=.int .i64 (l.idxOf x:Nat):=by
 have iy:=h.le;have dq:=apO hm;have sk:∀i,i<l.length->l.getD i default=x->(∀j,j<i->l.getD j default≠x)->l.idxOf x=i:=λi h1 h2 h3=>by unfold List.idxOf;rw[List.findIdx_eq h1];refine⟨by rw[ap7,<-h2,aor,aov h1];rfl,λj ae=>?_⟩;have:=h3 j ae;rw[beq_eq_false_iff_ne];rwa[aor,aov (by omega)]at this
 obtain⟨i1,h1,h2⟩:=aqk hm;refine ha func103 ntmps103 ?_;refine e4 λdK=>?_;refine bX (λi:Nat=>i<=l.length/\∀j,j<i->l.getD j default≠x) (λi=>[(8,true,.int .i64 i),(7,true,.int .i64 l.length),(3,true,av dK),(0,true,v)]) (λs=>Mem [(w,al)] [.box dK (e7 x) 97]) (λs=>l.length-s) (0) ⟨by omega,λj ae=>by omega⟩ ?_
 rintro i ⟨hi,bG⟩;refine dp (λh3=>?_) λh3=>?_
 ·have dE:i<l.length:=by rw[an]at h3;omega
  refine af ?_;refine cz [0,1,2,3,4,5] mixed ?_;refine bQ ?_;refine bO _ (h:=uC rfl (GA (enc:=e7) (p:=x) (q:=l.getD i default)) ?_);refine aF (aN ?_) λ_ h=>h;refine dp (λaA=>?_) λaA=>?_
  ·refine pG λI hw=>?_;have da:x=l.getD i default:=by rw[an]at aA;exact aA
   rw[sk i dE da.symm bG];rfl
  refine af ?_;have da:¬x=l.getD i default:=by rw[au]at aA;exact aA
  refine bm ((i+1)) ⟨by omega,λj ae=>?_⟩ (by omega);by_cases e:j=i
  ·subst e;exact λg=>da g.symm
  exact bG j (by omega)
 have dE:i=l.length:=by rw[au]at h3;omega
 refine absurd ?_ (bG i1 (by omega));rw[aor,aov h1,h2];rfl
def oq(b du aU:Nat)(t:aV)(c:lJ)(buf:Bool)(q:fh)(m:cD)(b8:Value)(out:List Int):List aB:=.box du [b8] 33::.own b8 3 1 a7 out::.box aU [av b] 101::hn b t c buf q m
theorem XE{t:aV}(aJ:dI t=0){m:cD}{log:List Nat}{b:Nat->List Nat}(M:kL t m log b):∀l,l<(ar t).aO.length->(m.co.getD l default).length<=64:=λl aL=>by
 have bd:=(kI (kr aJ)).1;rw[M.co l aL];unfold gq;have h1:(ints (log.filter (nQ (ar t) l))).length<=log.length:=by unfold ints;rw[aoJ];exact apr _ _
 have h2:log.length<=(ar t).J.length:=KW M.oP λe he=>(M.mi e he).1;omega
theorem Mc{b du aU:Nat}{t:aV}{c:lJ}{buf:Bool}{q:fh}{m:cD}(b8:Value)(out:List Int)(w:World)(aJ:dI t=0){log:List Nat}{df:Nat->List Nat}(M:kL t m log df)(ok:py t q m)(x:lI)(hx:x∈c8 t m)(mb:aD b8)(tC:out.length<=5000) (l7:qz (bJ (oq b du aU t c buf q m b8 out)) w t c) (hw:Mem [] (oq b du aU t c buf q m b8 out) w): eY prog 102 [.agg (e7 x).toArray,av du,av aU] (oq b du aU t c buf q m b8 out) w λ_ _ es _=>∃zl q',aD zl/\es=oq b du aU t c buf q' (hK t (ar t) buf m x) zl (out++[((c8 t m).idxOf x:Int)])/\py t q' (hK t (ar t) buf m x):=by have G:=kS aJ;have nF:=G.n16;have Av:=XE aJ M;refine j3 func102 ntmps102 hw ?_;refine e4 λdK=>?_;refine fw (Mem [(w,bJ (oq b du aU t c buf q m b8 out))] [.box dK (e7 x) 97,.box du [b8] 33,.box aU [av b] 101]) [0,1,3,2,4,5,6,7] mixed (b4 [0,1,3]) ?_;refine bQ ?_;refine bO _ (h:=bp (λI hw=>Md I (p0.rG ok hw.tail.tail.tail.tail (l7.now hw)) nF) ?_);rintro v6 ck bY nd eZ;refine aF (aN ?_) λ_ h=>h.cX.cC [0,1,3];refine bO _ (h:=bp (λI hw=>adR v6 x _ I (hw.now nd) hx) ?_);rintro ua hj fW rfl nG;refine aF (aN ?_) λ_ h=>h.cX.cX.cC [0,1,3];refine bO _ (h:=eI (enc:=a7) (dec:=b9.oE) (e:=3) (sz:=1) (len:=1) (dM:=[(0,[.int .i64 ((c8 t m).idxOf x:Nat)])]) (ab:=?_));intro v9 al7;refine aF (aN ?_) λ_ h=>h.cX.cX.cC [1,2,4];refine bO _ (h:=e6 3 (hm:=aP) (hk:=rfl) (bH:=by simp only[aoJ,aoN,ao1];omega) (ab:=?_));intro v10 QN;refine aF (bQ ?_) λ_ h=>h.cX.cX.cC [1,2,4];refine eP (λ_=>True) (h:=bK 2 (ab:=?_));refine aF (aN ?_) dz;refine af ?_;refine cA (Mem [(w,bJ (oq b du aU t c buf q m b8 out))] (hn b t c buf q m++([.box du [v10] 33,.own v10 3 1 a7 (out++[((c8 t m).idxOf x:Int)]),.box aU [av b] 101,.box dK (e7 x) 97]:List aB))) (λ_ h=>h.cX.cX.cC [5,6,7,8,9,10,11,12,13,14,2,3,4,1]) ?_;refine aq (eB (es:=hn b t c buf q m) (bb:=λI hw=>ahD I aJ M ok x hx Av (l7.off hw aP λ_ h=>aoK _ h) hw.dt.ew) (ab:=?_));rintro rM ia es ig ⟨q',rfl,ob⟩;refine af ?_;exact u1 rfl .nil aP λI hw=>⟨_,⟨v10,q',QN,rfl,ob⟩,hw.cC [10,11,12,0,1,2,3,4,5,6,7,8,9]⟩
theorem F1{t:aV}(aJ:dI t=0){buf:Bool}{out:List Int}{m:cD}(L:vt t (ar t) buf out m)(h:¬c8 t m=[]):out.length<=4160:=by have:=Rt L [];rw[aoH]at this;exact GU aJ buf out (i:=out.length) (by rw[this];exact h)
structure zQ(t:aV)(buf:Bool)(out:List Int)(m:cD)(log:List Nat):Prop where
 L:vt t (ar t) buf out m
 R:∃df,kg t buf m log df
 n:out.length<=4161
theorem ahJ{b du aU di ec:Nat}{t:aV}{c:lJ}{buf:Bool}{o:List Nat}(w:World)(aJ:dI t=0)(kh:x6 t buf o){j e:Nat}(he:o[j]?=some e){q:fh}{m:cD}(b8:Value)(out:List Int)(bV:zQ t buf out m (if m.done.getD e default=true then logAt t buf o j e else o.take j))(ok:py t q m)(mb:aD b8) (hc:gQ (bJ (oq b du aU t c buf q m b8 out)) w di [.func (.func 102) #[] #[av du,av aU]]) (ak9:gQ (bJ (oq b du aU t c buf q m b8 out)) w ec [c.hG,c.ff,c.hE,c.gF,c.hY,c.h4,c.hZ,c.tt,c.h5]) (l7:qz (bJ (oq b du aU t c buf q m b8 out)) w t c) (hw:Mem [] (oq b du aU t c buf q m b8 out) w): eY prog 104 [.int .i64 (e:Nat),av aU,av di,av ec] (oq b du aU t c buf q m b8 out) w λ_ _ es _=>∃zl q' m' SA,aD zl/\es=oq b du aU t c buf q' m' zl SA/\py t q' m'/\zQ t buf SA m' (logAt t buf o j e)/\m'.done.getD e default=true:=by
 obtain⟨eR,_⟩:=kh.at aJ he;have cF:=l7.R.J;have Zd:=cF.aK;obtain⟨k,hk,dB⟩:∃k,k<t.code.length/\(bF (ar t) e).aH=(k:Int):=by obtain⟨k,i,h1,h2,rfl⟩:=BH aJ eR;exact⟨k,h1,wR aJ h1 h2⟩
 generalize E6:bJ (oq b du aU t c buf q m b8 out)=X at *;refine tk func104 ntmps104 rfl rfl hw ?_;rw[E6];refine af ?_;refine bX (λz:List Int×cD×fh×Value=>py t z.2.2.1 z.2.1/\aD z.2.2.2/\zQ t buf z.1 z.2.1 (if z.2.1.done.getD e default=true then logAt t buf o j e else o.take j)) (λz=>[(3,true,av ec),(2,true,av di),(1,true,av aU),(0,true,.int .i64 (e:Nat))]) (λz=>Mem [(w,X)] (oq b du aU t c buf z.2.2.1 z.2.1 z.2.2.2 z.1)) (λz=>4161-z.1.length) (out,m,q,b8) ⟨ok,mb,bV⟩ ?_
 rintro⟨out,m,q,b8⟩ ⟨ok,mb,bV⟩;dsimp only at ok mb bV⊢;obtain⟨df,R⟩:=bV.R;have Fe:=R.M.o5;have alh:=ok.dD;refine dp (λh1=>?_) λh1=>?_
 ·have oI:m.done.getD e default=false:=by rw[aoq]at h1;exact h1
  rw[oI,aot apK]at R bV;obtain⟨n4,kO,r2⟩:=ajs aJ kh he hk dB R oI;have hx:(⟨1,(k:Int)⟩:lI)∈c8 t m:=wB.2 ⟨k,hk,.inl ⟨rfl,n4⟩⟩;have tC:=F1 aJ bV.L (λg=>by rw[g]at hx;cases hx);have mD:hK t (ar t) buf m ⟨1,(k:Int)⟩=eU t (ar t) buf m k:=by unfold hK;rw[aou rfl,aoF]
  have JQ:((ar t).J.getD e default).aH=(k:Int):=dB;have yv:=bV.L.snoc hx;rw[mD]at yv;refine af ?_;refine cz [0,1,2,3,4,5,6,7,8] mixed ?_;refine bQ ?_;rw[JQ];refine eP (λ_=>True) (h:=Py (bb:=λI hw=>Mc b8 out I aJ R.M ok ⟨1,(k:Int)⟩ hx mb (by omega) (l7.off hw aP λ_ h=>h) hw.ew) (ab:=?_));rintro amY n21 es an1 ⟨zl,q',aaA,rfl,ob⟩;rw[mD]at ob⊢;refine aF (aN ?_) dz;refine af ?_;refine bm (out++[((c8 t m).idxOf ⟨1,(k:Int)⟩:Int)],eU t (ar t) buf m k,q',zl) ⟨ob,aaA,⟨yv,⟨_,r2⟩,?_⟩⟩ ?_
  ·rw[aoy,aps];omega
  show 4161-(out++[_]).length<4161-out.length;rw[aoy,aps];omega
 have hd:m.done.getD e default=true:=by rw[aos]at h1;exact h1
 rw[hd,aou rfl]at bV;refine af ?_;refine u1 rfl .nil (by rw[<-E6];exact .head _) λI hw=>⟨_,⟨b8,q,m,out,mb,rfl,ok,bV,hd⟩,hw⟩
def V9(t:aV)(buf:Bool)(o:List Nat):Nat->Value->World->Prop:=λn v I=>∃out m,aZ (Fr n) I a7 1 v out/\vt t (ar t) buf out m/\(∃df,kg t buf m o df)/\c8 t m=[]
theorem Ui(t:aV)(buf:Bool)(ah ad ao hG ff hE gF hY h4 hZ tt h5 ol:Value)(vs:List Value)(o:List Nat)(w:World)(aJ:dI t=0)(kh:x6 t buf o)(bL:gW al w ah ad ao vs t)(cj:fB al w hG ff hE gF hY h4 hZ tt h5 (ar t))(hO:aZ al w a7 1 ol (ints o)): bl prog 41 [.agg (c6 t ah ad ao).toArray,.agg #[hG,ff,hE,gF,hY,h4,hZ,tt,h5],.bool buf,ol] w (V9 t buf o):=by
 have G:=kS aJ;have nF:=G.n16;have cF:=cj.J;have Zd:=cF.aK;have akZ:=hO.aK;have hole:=hO.le;have gJ:(ints o).length=o.length:=by unfold ints;rw[aoJ]
 refine ha func41 ntmps41 ?_;refine e4 λcO=>?_;refine e4 λec=>?_;refine aq (gi (λI hw=>ahC t buf ah ad ao hG ff hE gF hY h4 hZ tt h5 vs I aJ (bL.now hw) (cj.now hw)) ?_);rintro anM bx es bc ⟨b,q,rfl,rfl,ok⟩;generalize iV:(⟨ah,ad,ao,vs,hG,ff,hE,gF,hY,h4,hZ,tt,h5⟩:lJ)=c at *;obtain⟨rfl,rfl,rfl,rfl,rfl,rfl,rfl,rfl,rfl,rfl,rfl,rfl,rfl⟩:c.ah=ah/\c.ad=ad/\c.ao=ao/\c.vs=vs/\c.hG=hG/\c.ff=ff/\c.hE=hE/\c.gF=gF/\c.hY=hY/\c.h4=h4/\c.hZ=hZ/\c.tt=tt/\c.h5=h5:=by subst iV;exact⟨rfl,rfl,rfl,rfl,rfl,rfl,rfl,rfl,rfl,rfl,rfl,rfl,rfl⟩
 clear iV;have l7:qz al w t c:=⟨bL,cj⟩;refine af ?_;refine ei λaU=>?_;refine c7 0 ?_;refine ei λdu=>?_;refine ei λdi=>?_;refine c7 0 ?_;refine ea 3 1 a7 ?_;refine bX (λz:Nat×List Int×cD×fh×Value=>z.1<=o.length/\py t z.2.2.2.1 z.2.2.1/\aD z.2.2.2.2/\zQ t buf z.2.1 z.2.2.1 (o.take z.1)) (λz=>[(24,true,.int .i64 z.1),(23,true,.int .i64 (ints o).length),(22,true,ol),(12,true,.func (.func 104) #[] #[av aU,av di,av ec]),(11,true,av di),(10,true,av du),(9,true,av aU),(5,true,av ec),(2,true,.bool buf)]) (λz=>Mem [(w,al)] (oq b du aU t c buf z.2.2.2.1 z.2.2.1 z.2.2.2.2 z.2.1++([.box di [.func (.func 102) #[] #[av du,av aU]] 104,.box ec [c.hG,c.ff,c.hE,c.gF,c.hY,c.h4,c.hZ,c.tt,c.h5] 41]:List aB))) (λz=>o.length-z.1) (0,[],iY t (ar t),q,aa) ⟨aoD _,ok,cU,⟨.nil,⟨_,TM aJ buf⟩,by simp⟩⟩ ?_ ⟨rfl,rfl,rfl,rfl,rfl,rfl,rfl,rfl,rfl,trivial⟩ λ_ h=>h.cX.cC [2,0,3,4,5,6,7,8,9,10,11,12,13,1,14]
 rintro⟨j,out,m,q,b8⟩ ⟨ae,ok,mb,bV⟩;dsimp only at ae ok mb bV⊢;refine dp (λh1=>?_) λh1=>?_
 ·have bU:j<o.length:=by rw[an]at h1;omega
  have akL:j<(ints o).length:=by omega
  obtain⟨e,he⟩:∃e,o[j]?=some e:=⟨_,aov bU⟩;have ZQ:(ints o).getD j default=((e:Nat):Int):=by unfold ints;rw[aor,ao4,he];rfl
  obtain⟨eR,_⟩:=kh.at aJ he;obtain⟨k,hk,dB⟩:∃k,k<t.code.length/\(bF (ar t) e).aH=(k:Int):=by obtain⟨k,i,h1,h2,rfl⟩:=BH aJ eR;exact⟨k,h1,wR aJ h1 h2⟩
  have JQ:((ar t).J.getD e default).aH=(k:Int):=dB;have VX:zQ t buf out m (if m.done.getD e default=true then logAt t buf o j e else o.take j):=by
   obtain⟨df,R⟩:=bV.R;by_cases hd:m.done.getD e default=true
   ·rw[aou hd,ajq aJ kh he R hd];exact bV
   rw[aot hd];exact bV
  refine af ?_;rw[ZQ];refine aq (eB (es:=oq b du aU t c buf q m b8 out) (bb:=λI hw=>ahJ I aJ kh he b8 out VX ok mb (hw.ta aP) (hw.ta dg) (l7.off hw aP λ_ h=>aoK _ h) hw.dt.ew) (ab:=?_));rintro am1 n30 es an4 ⟨K4,cB,m1,Gq,Ql,rfl,Sl,zJ,hd⟩;refine dp (λh2=>?_) λh2=>?_
  ·rw[aoo,an]at h2;obtain⟨ZA,pH⟩:=h2;obtain⟨WC,x7⟩:=zJ.R;subst ZA;have Jm:logAt t true o j e=o.take j:=by unfold logAt;rw[aot];intro g;rcases g with g | g;(have alg:(bF (ar t) e).dir=2:=pH;omega);cases g
   rw[Jm]at x7 zJ;obtain⟨uF,kO,r2⟩:=YM aJ kh he hk dB x7 hd pH;have hx:(⟨2,(k:Int)⟩:lI)∈c8 t m1:=wB.2 ⟨k,hk,.inr ⟨rfl,uF⟩⟩;have tC:=F1 aJ zJ.L (λg=>by rw[g]at hx;cases hx);have mD:hK t (ar t) true m1 ⟨2,(k:Int)⟩=kk m1 k:=by unfold hK;rw[aot (by show ¬(2:Int)=1;decide),aoF]
   have yv:=zJ.L.snoc hx;rw[mD]at yv;refine af ?_;refine fw (Mem [(w,al)] [.box di [.func (.func 102) #[] #[av du,av aU]] 104,.box ec [c.hG,c.ff,c.hE,c.gF,c.hY,c.h4,c.hZ,c.tt,c.h5] 41]) [0,1,2,3,4,5,6,7,8] mixed (b4 [13,14]) ?_;refine bQ ?_;rw[JQ];refine eP (λ_=>True) (h:=eB (es:=oq b du aU t c true cB m1 K4 Gq) (bb:=λI hw=>Mc K4 Gq I aJ x7.M Sl ⟨2,(k:Int)⟩ hx Ql (by omega) (l7.off hw aP λ_ h=>aoK _ h) hw.dt.ew) (ab:=?_));rintro am4 n49 es an9 ⟨K5,bz,Jx,rfl,CK⟩;rw[mD]at CK⊢;refine aF (aN ?_) dz;refine af ?_;refine bm (j+1,Gq++[((c8 t m1).idxOf ⟨2,(k:Int)⟩:Int)],kk m1 k,bz,K5) ⟨bU,CK,Jx,⟨yv,⟨_,r2⟩,?_⟩⟩ (show o.length-(j+1)<o.length-j by omega);rw[aoy,aps];omega
  have Jm:logAt t buf o j e=o.take (j+1):=by
   unfold logAt;rw[aou];rcases pt (kr aJ) eR with g | g
   ·exact .inl g
   right;have nD:((ar t).J.getD e default).dir=2:=g;rw[aoC,au]at h2;exact h2.resolve_right λq=>q nD
  rw[Jm]at zJ;refine af ?_;exact bm (j+1,Gq,m1,cB,K4) ⟨bU,Sl,Ql,zJ⟩ (show o.length-(j+1)<o.length-j by omega)
 have bU:j=o.length:=by rw[au]at h1;omega
 subst bU;rw[aoZ]at bV;refine af ?_;refine aq (bp (λI hw=>Md I (p0.of ok hw.tail.tail.tail (l7.now hw)) nF) ?_);rintro MO ck bY FE eZ;have anw:=FE.aK;refine af ?_;refine bX (λz:(Value×Nat×World)×List Int×cD×fh×Value=>py t z.2.2.2.1 z.2.2.1/\aD z.2.2.2.2/\zQ t buf z.2.1 z.2.2.1 o/\aZ (Fr z.1.2.1) z.1.2.2 e7 2 z.1.1 (c8 t z.2.2.1)) (λz=>[(15,true,z.1.1),(11,true,av di),(10,true,av du),(9,true,av aU)]) (λz=>Mem [(z.1.2.2,Fr z.1.2.1),(w,al)] (oq b du aU t c buf z.2.2.2.1 z.2.2.1 z.2.2.2.2 z.2.1++([.box di [.func (.func 102) #[] #[av du,av aU]] 104,.box ec [c.hG,c.ff,c.hE,c.gF,c.hY,c.h4,c.hZ,c.tt,c.h5] 41]:List aB))) (λz=>4161-z.2.1.length) ((MO,ck,bY),out,m,q,b8) ⟨ok,mb,bV,FE⟩ ?_
 rintro⟨⟨v,n,fW⟩,out,m,q,b8⟩ ⟨ok,mb,bV,ax⟩;dsimp only at ok mb bV ax⊢;have anA:=ax.aK;obtain⟨WC,x7⟩:=bV.R;refine dp (λh1=>?_) λh1=>?_
 ·have jg:0<(c8 t m).length:=by rw[an]at h1;omega
  have hx:(c8 t m).getD 0 default∈c8 t m:=eN jg;generalize abA:(c8 t m).getD 0 default=x at *;have tC:=F1 aJ bV.L (λg=>by rw[g]at jg;simp at jg);obtain⟨V4,_⟩:=agz aJ kh x7 hx;have yv:=bV.L.snoc hx;refine af ?_;refine fw (Mem [(fW,Fr n),(w,al)] [.box di [.func (.func 102) #[] #[av du,av aU]] 104,.box ec [c.hG,c.ff,c.hE,c.gF,c.hY,c.h4,c.hZ,c.tt,c.h5] 41]) [0,1,2,3,4] mixed (b4 [13,14]) ?_;refine bQ ?_;rw[abA];refine eP (λ_=>True) (h:=eB (es:=oq b du aU t c buf q m b8 out) (bb:=λI hw=>Mc b8 out I aJ x7.M ok x hx mb (by omega) (l7.off hw dg λ_ h=>aoK _ h) hw.dt.ew) (ab:=?_));rintro To n62 es Vs ⟨K5,bz,Jx,rfl,CK⟩;refine aF (aN ?_) dz;refine af ?_;refine aq (bp (λI hw=>Md I (p0.of CK hw.tail.tail.tail (l7.now hw)) nF) ?_);rintro zD n57 ajQ FF alx;have anx:=FF.aK;refine af ?_;refine bm ((zD,n57,ajQ),out++[((c8 t m).idxOf x:Int)],hK t (ar t) buf m x,bz,K5) ⟨CK,Jx,⟨yv,⟨_,V4⟩,?_⟩,FF⟩ ?_ (hA:=λ_ h=>h.uu)
  ·rw[aoy,aps];omega
  show 4161-(out++[_]).length<4161-out.length;rw[aoy,aps];omega
 have v7:c8 t m=[]:=aoY (by rw[au]at h1;omega);refine af ?_;exact bT rfl (.t1 rfl) λI hw=>⟨out,m,hw.im dg dg,bV.L,⟨_,x7⟩,v7⟩
def VL(t:aV)(c:cw):Nat->Value->World->Prop:=λn v I=>∃(ak ah aI bv aG aR ad aT bj:Value) (e:Int),v=.tuple #[.agg #[ak,ah,aI,bv,aG,aR,ad,aT,bj],.int .i64 e]/\ (aD ak/\aD ah/\aD aI/\aD bv/\aD aG/\aD aR/\aD ad/\aD aT/\aD bj)/\(e=if dI t=0 then if fj (ar t) c=0 then 0 else 160 else dI t)/\(dI t=0->fj (ar t) c=0->fB (Fr n) I ak ah aI bv aG aR ad aT bj (ar t))
theorem Ue(t:aV)(ah ad ao cI b8:Value)(vs:List Value)(c:cw)(w:World)(bL:gW al w ah ad ao vs t)(ai:ke al w cI b8 c): bl prog 39 [.agg (c6 t ah ad ao).toArray,.agg #[cI,b8]] w (VL t c):=by
 obtain⟨s1,s2,cJ⟩:=bL.jY;have lv:=ai.bE.aK;have nb:=ai.pD;refine ha func39 ntmps39 ?_;refine e4 λdC=>?_;refine e4 λdK=>?_;refine ei λcO=>?_;refine aq (bp (λI hw=>(My t ah ad ao vs I (bL.now hw)).size (hw.sz aP)) ?_);rintro v bx bc ⟨⟨ak,vd,aI,bv,aG,aR,um,aT,bj,Kk,rfl,⟨ps,tX,rN,eX,fe,q4,lF,st,rP⟩,hN⟩,fA⟩ cu;refine af ?_;refine ei λcY=>?_;refine aq (bK 0 (h1:=.cons ps.one (.cons tX.one (.cons rN.one (.cons eX.one (.cons fe.one (.cons q4.one (.cons lF.one (.cons st.one (.cons rP.one .nil))))))))) (ab:=af ?_));refine bC (λh1=>?_) λh1=>?_
 ·rw[aoq,au]at h1;refine af ?_;refine c7 1 ?_;refine bT rfl (.dv rfl dg rfl (.t1 rfl)) λI hw=>?_;exact⟨_,_,_,_,_,_,_,_,_,_,rfl,⟨cU,cU,cU,cU,cU,cU,cU,cU,cU⟩,by rw[aot h1],λh=>absurd h h1⟩
 rw[aos,an]at h1;have hN:=hN h1;refine af ?_;refine aq (bp (λI hw=>yf cI b8 c I (hN.now hw) (ai.now hw)) ?_);rintro v21 ck bY rfl eZ;refine dp (λh2=>?_) λh2=>?_
 ·rw[aoq,au]at h2;refine af ?_;refine c7 1 ?_;refine bT rfl (.dv rfl dg rfl (.t1 rfl)) λI hw=>?_;exact⟨_,_,_,_,_,_,_,_,_,_,rfl,⟨cU,cU,cU,cU,cU,cU,cU,cU,cU⟩,by rw[aou h1,aot h2],λ_ h=>absurd h h2⟩
 rw[aos,an]at h2;refine af ?_;refine aq (bK 1 (h1:=.cons ps.one (.cons tX.one (.cons rN.one (.cons eX.one (.cons fe.one (.cons q4.one (.cons lF.one (.cons st.one (.cons rP.one .nil))))))))) (ab:=af ?_));refine bT rfl (.dv rfl dg rfl (.t1 rfl)) λI hw=>?_;refine⟨ak,vd,aI,bv,aG,aR,um,aT,bj,0,rfl,⟨ps,tX,rN,eX,fe,q4,lF,st,rP⟩,by rw[aou h1,aou h2],λ_ _=>?_⟩;exact⟨hw.pass hN.aO dg fA,hw.pass hN.init dg fA,hw.pass hN.J dg fA,hw.pass hN.bars dg fA,hw.pass hN.addr dg fA,hw.pass hN.data dg fA,hw.pass hN.bh dg fA,hw.pass hN.cf dg fA,hw.pass hN.ends dg fA⟩
def s8(t:aV)(c:cw)(B:Bool):Int:=if dI t=0 then if fj (ar t) c=0 then if B=true then 0 else 181 else 160 else dI t
def M9(t:aV)(c:cw)(buf B:Bool):Nat->Value->World->Prop:=λn v I=>∃l,v=.tuple #[l,.int .i64 (s8 t c B)]/\aD l/\(dI t=0->fj (ar t) c=0->B=true->∃out,aZ (Fr n) I a7 1 l out/\out.length<=65536/\wT (ar t) (uv t (ar t) buf out)=uz (ar t) c)
theorem Rw{t:aW}(hb:t.J.length<=64){p:Nat->Nat->Bool}(ay:nT t p=true):∃o,wz t.J.length (b1 t.J.length p)=ints o/\r0 t.J.length o/\∀a d,a<t.J.length->d<t.J.length->p a d=true->fF o a<fF o d:=by obtain⟨_,h2,bL,aL⟩:=Kv hb ay;exact⟨_,h2,⟨bL.nodup,bL.lt,aL⟩,λa d h1 h2 q=>aiZ bL aL h1 h2 (by rw[u5 _ _ hb _ _ h1 h2];exact q)⟩
theorem ajg{t:aW}{c:cw}(h:nu t c=true):nY t c=true:=by unfold nu at h;rw[aoo]at h;exact h.1
theorem Rs{t:aV}(aJ:dI t=0){buf:Bool}{out:List Int}{m:cD}(L:vt t (ar t) buf out m):out.length<=65536:=by
 cases L with
 | nil=>simp
 | @snoc out m x L hx=>have:=F1 aJ L (λg=>by rw[g]at hx;cases hx);rw[aoy,aps];omega
theorem ahG(t:aV)(ah ad ao cI b8:Value)(vs:List Value)(c:cw)(w:World)(bL:gW al w ah ad ao vs t)(ai:ke al w cI b8 c)(xr:lK w): bl prog 12 [.agg (c6 t ah ad ao).toArray,.agg #[cI,b8]] w (M9 t c false (oW (ar t) c)):=by
 obtain⟨s1,s2,cJ⟩:=bL.jY;have lv:=ai.bE.aK;have nb:=ai.pD;refine ha func12 ntmps12 ?_;refine e4 λdC=>?_;refine e4 λdK=>?_;refine aq (bp (λI hw=>Ue t ah ad ao cI b8 vs c I (bL.now hw) (ai.now hw)) ?_);rintro v12 bx bc ⟨ak,vd,aI,bv,aG,aR,um,aT,bj,e,rfl,⟨ps,tX,rN,eX,fe,q4,lF,st,rP⟩,he,hN⟩ cu;refine af ?_;refine ei λcY=>?_;refine aq (bK 0 (h1:=.cons ps.one (.cons tX.one (.cons rN.one (.cons eX.one (.cons fe.one (.cons q4.one (.cons lF.one (.cons st.one (.cons rP.one .nil))))))))) (ab:=af ?_));refine bC (λh1=>?_) λh1=>?_
 ·rw[aoq,au]at h1;refine af ?_;refine bT rfl (.tmp rfl (.t1 rfl)) λI hw=>?_;have iu:e=s8 t c (oW (ar t) c):=by
   rw[he]at h1⊢;unfold s8;by_cases g1:dI t=0
   ·rw[aou g1]at h1⊢;by_cases g2:fj (ar t) c=0
    ·rw[aou g2]at h1;exact absurd rfl h1
    rw[aot g2,aou g1,aot g2]
   rw[aot g1,aot g1]
  refine⟨_,by rw[iu];rfl,cU,λg1 g2 _=>?_⟩;rw[he,aou g1,aou g2]at h1;exact absurd rfl h1
 rw[aos,an]at h1;have g1:dI t=0:=ao0 λg=>by rw[he,aot g]at h1;exact g h1
 have g2:fj (ar t) c=0:=ao0 λg=>by rw[he,aou g1,aot g]at h1;exact absurd h1 (by decide)
 have hN:=hN g1 g2;have IN:=(kI (Go.bM.kr g1)).1;refine af ?_;refine aq (gi (λI hw=>ah4 cI b8 c I (hN.now hw) (ai.now hw) (xr.now hw)) ?_);rintro v21 ck es bY ⟨hW,yT,rfl,rfl⟩;have JL:Bx (ar t) c=if oW (ar t) c=true then 0 else 181:=by unfold Bx;rw[aou g2]
 rw[JL];refine af ?_;cases hB:oW (ar t) c with
 | false=>refine cM rfl (λ_=>?_) (λh=>by rw[aos,an]at h;exact absurd h (by decide));refine af ?_;exact bT rfl (.tmp rfl (.t1 rfl)) λI hw=>⟨_,by unfold s8;rw[aou g1,aou g2];rfl,cU,λ_ _ g=>by cases g⟩
 | true=>
  refine cM rfl (λh=>by rw[aoq,au]at h;exact absurd rfl h) λ_=>?_;have dW:nT (ar t) (qq (ar t) c)=true:=(by rw[<-GX g2];exact hB);obtain⟨o,v8,oa,wa⟩:=Rw IN dW;have IE:By (ar t) c=ints o:=by unfold By;rw[aou hB,v8]
  have IV:nY (ar t) c=true:=by have:=(Uc hB);exact this
  have kh:x6 t false o:=Sw g1 oa (c:=c) (by simpa using wa);rw[IE];refine af ?_;refine aq (bp (λI hw=>(Ui t false ah ad ao ak vd aI bv aG aR um aT bj hW vs o I g1 kh (bL.now hw) (hN.now hw) (hw.dX)).size (hw.sz hy)) ?_);rintro v30 hj fW ⟨⟨out,m,wk,Cq,⟨df,cj⟩,v7⟩,kl⟩ nG;have Mn:=wk.aK;have iu:=NK g1 oa g2 IV (by simpa using wa) Cq cj v7;refine af ?_;refine bT rfl (.tmp rfl (.t1 rfl)) λI hw=>⟨v30,by unfold s8;rw[aou g1,aou g2];rfl,Mn,λ_ _ _=>⟨out,hw.pass wk aP kl,?_,by rw[iu.1];exact iu.2⟩⟩;exact Rs g1 Cq
theorem ahI(t:aV)(ah ad ao cI b8:Value)(vs:List Value)(c:cw)(w:World)(bL:gW al w ah ad ao vs t)(ai:ke al w cI b8 c)(xr:lK w): bl prog 14 [.agg (c6 t ah ad ao).toArray,.agg #[cI,b8]] w (M9 t c true (nu (ar t) c)):=by
 obtain⟨s1,s2,cJ⟩:=bL.jY;have lv:=ai.bE.aK;have nb:=ai.pD;refine ha func14 ntmps14 ?_;refine e4 λdC=>?_;refine e4 λdK=>?_;refine aq (bp (λI hw=>Ue t ah ad ao cI b8 vs c I (bL.now hw) (ai.now hw)) ?_);rintro v12 bx bc ⟨ak,vd,aI,bv,aG,aR,um,aT,bj,e,rfl,⟨ps,tX,rN,eX,fe,q4,lF,st,rP⟩,he,hN⟩ cu;refine af ?_;refine ei λcY=>?_;refine aq (bK 0 (h1:=.cons ps.one (.cons tX.one (.cons rN.one (.cons eX.one (.cons fe.one (.cons q4.one (.cons lF.one (.cons st.one (.cons rP.one .nil))))))))) (ab:=af ?_));refine bC (λh1=>?_) λh1=>?_
 ·rw[aoq,au]at h1;refine af ?_;refine bT rfl (.tmp rfl (.t1 rfl)) λI hw=>?_;have iu:e=s8 t c (nu (ar t) c):=by
   rw[he]at h1⊢;unfold s8;by_cases g1:dI t=0
   ·rw[aou g1]at h1⊢;by_cases g2:fj (ar t) c=0
    ·rw[aou g2]at h1;exact absurd rfl h1
    rw[aot g2,aou g1,aot g2]
   rw[aot g1,aot g1]
  refine⟨_,by rw[iu];rfl,cU,λg1 g2 _=>?_⟩;rw[he,aou g1,aou g2]at h1;exact absurd rfl h1
 rw[aos,an]at h1;have g1:dI t=0:=ao0 λg=>by rw[he,aot g]at h1;exact g h1
 have g2:fj (ar t) c=0:=ao0 λg=>by rw[he,aou g1,aot g]at h1;exact absurd h1 (by decide)
 have hN:=hN g1 g2;have IN:=(kI (Go.bM.kr g1)).1;refine af ?_;refine aq (gi (λI hw=>ai0 cI b8 c I (hN.now hw) (ai.now hw) (xr.now hw)) ?_);rintro v21 ck es bY ⟨hW,yT,rfl,rfl⟩;have JL:BE (ar t) c=if nu (ar t) c=true then 0 else 181:=by unfold BE;rw[aou g2]
 rw[JL];refine af ?_;cases hB:nu (ar t) c with
 | false=>refine cM rfl (λ_=>?_) (λh=>by rw[aos,an]at h;exact absurd h (by decide));refine af ?_;exact bT rfl (.tmp rfl (.t1 rfl)) λI hw=>⟨_,by unfold s8;rw[aou g1,aou g2];rfl,cU,λ_ _ g=>by cases g⟩
 | true=>
  refine cM rfl (λh=>by rw[aoq,au]at h;exact absurd rfl h) λ_=>?_;have dW:nT (ar t) (ou (ar t) c)=true:=(by unfold nu at hB;rw[aoo]at hB;exact hB.2);obtain⟨o,v8,oa,wa⟩:=Rw IN dW;have IE:BF (ar t) c=ints o:=by unfold BF;rw[aou hB,v8]
  have IV:nY (ar t) c=true:=by have:=(ajg hB);exact this
  have kh:x6 t true o:=Sw g1 oa (c:=c) (by simpa using wa);rw[IE];refine af ?_;refine aq (bp (λI hw=>(Ui t true ah ad ao ak vd aI bv aG aR um aT bj hW vs o I g1 kh (bL.now hw) (hN.now hw) (hw.dX)).size (hw.sz hy)) ?_);rintro v30 hj fW ⟨⟨out,m,wk,Cq,⟨df,cj⟩,v7⟩,kl⟩ nG;have Mn:=wk.aK;have iu:=NK g1 oa g2 IV (by simpa using wa) Cq cj v7;refine af ?_;refine bT rfl (.tmp rfl (.t1 rfl)) λI hw=>⟨v30,by unfold s8;rw[aou g1,aou g2];rfl,Mn,λ_ _ _=>⟨out,hw.pass wk aP kl,?_,by rw[iu.1];exact iu.2⟩⟩;exact Rs g1 Cq
theorem N1{t:aV}(h:dI t=0){c:cw}(ai:fj (ar t) c=0)(B:Bool):s8 t c B=if B=true then 0 else 181:=by unfold s8;rw[aou h,aou ai]
def GQ(t:aV)(script:List Int):Int:=if dI t=0 then if 65536<script.length then 2 else 0 else dI t
def Hw(t:aV)(buf:Bool)(script:List Int):Nat->Value->World->Prop:=λn v I=>∃st bR,v=.tuple #[.agg #[st,bR],.int .i64 (GQ t script)]/\aD st/\aD bR/\(dI t=0->script.length<=65536->aZ (Fr n) I a7 1 st (wT (ar t) (uv t (ar t) buf script)))
theorem TS{t:aV}{buf:Bool}{script:List Int}{n:Nat}{v:Value}{I:World}(h:Ht t buf script n v I):Hw t buf script n v I:=by
 unfold Hw GQ;rcases h with⟨h1,rfl⟩ | ⟨h1,h2,rfl⟩ | ⟨h1,h2,st,bR,rfl,h3,aA⟩
 ·exact⟨_,_,by rw[aot h1],cU,cU,λq=>absurd q h1⟩
 ·exact⟨_,_,by rw[aou h1,aou h2],cU,cU,λ_ q=>by omega⟩
 exact⟨st,bR,by rw[aou h1,aot (by omega)],aA.aK,h3,λ_ _=>aA⟩
def adt(buf:Bool):Int:=if buf=true then 2 else 1
theorem Rm(t:aV)(buf:Bool)(ah ad ao aK:Value)(vs:List Value)(script:List Int)(w:World)(bL:gW al w ah ad ao vs t)(cG:aZ al w a7 1 aK script): bl prog 7 [.agg (c6 t ah ad ao).toArray,.int .i64 (adt buf),aK] w (Hw t buf script):=by
 obtain⟨s1,s2,cJ⟩:=bL.jY;have hr:=cG.aK;refine ha func7 ntmps7 ?_;refine e4 λdK=>?_;refine ei λcY=>?_;cases buf with
 | false=>refine cM rfl (λ_=>?_) (λh=>by rw[au]at h;exact absurd rfl h);refine af ?_;refine aq (bp (λI hw=>(ado t ah ad ao aK vs script I (bL.now hw) (hw.now cG)).size (hw.sz aP)) ?_);rintro v bx bc ⟨eJ,fA⟩ cu;obtain⟨st,bR,rfl,h1,h2,h3⟩:=TS eJ;refine af ?_;refine c7 0 ?_;exact bT rfl (.dv rfl aP rfl (.t1 rfl)) λI hw=>⟨st,bR,rfl,h1,h2,λcB bz=>hw.pass (h3 cB bz) aP fA⟩
 | true=>refine cM rfl (λh=>by rw[an]at h;exact absurd h (by decide)) λ_=>?_;refine af ?_;refine aq (bp (λI hw=>(WR t ah ad ao aK vs script I (bL.now hw) (hw.now cG)).size (hw.sz aP)) ?_);rintro v bx bc ⟨eJ,fA⟩ cu;obtain⟨st,bR,rfl,h1,h2,h3⟩:=TS eJ;refine af ?_;refine c7 0 ?_;exact bT rfl (.dv rfl aP rfl (.t1 rfl)) λI hw=>⟨st,bR,rfl,h1,h2,λcB bz=>hw.pass (h3 cB bz) aP fA⟩
theorem XM(t:aV)(ah ad ao:Value)(vs:List Value)(n:Int)(w:World)(bL:gW al w ah ad ao vs t)(xr:lK w): bl prog 4 [.agg (c6 t ah ad ao).toArray,.int .i64 n] w λ_ v _=>v=.bool true:=by
 obtain⟨s1,s2,cJ⟩:=bL.jY;have hd:bw True=true:=by rw[an];trivial
 refine ha func4 ntmps4 ?_;refine e4 λdC=>?_;refine aq (bp (λI hw=>My t ah ad ao vs I (bL.now hw)) ?_);rintro v bx bc ⟨ak,vd,aI,bv,aG,aR,um,aT,bj,Kk,rfl,⟨ps,tX,rN,eX,fe,q4,lF,st,rP⟩,hN⟩ cu;refine af ?_;refine ei λec=>?_;refine aq (bK 0 (h1:=.cons ps.one (.cons tX.one (.cons rN.one (.cons eX.one (.cons fe.one (.cons q4.one (.cons lF.one (.cons st.one (.cons rP.one .nil))))))))) (ab:=af ?_));refine aq (bp (λI hw=>agF t ah ad ao vs I (bL.now hw)) ?_);rintro v m1 anB ⟨ji,aiR,xk,ki,vB,vL,Xg,jJ,xT,mK,rfl,⟨ahV,ahT,ahN,ahu,ahq,ahB,ahv,aid,ah2⟩,IF⟩ qN;refine af ?_;refine ei λdx=>?_;refine aq (bK 0 (h1:=.cons ahV.one (.cons ahT.one (.cons ahN.one (.cons ahu.one (.cons ahq.one (.cons ahB.one (.cons ahv.one (.cons aid.one (.cons ah2.one .nil))))))))) (ab:=af ?_));simp only[hd];by_cases aJ:dI t=0
 case neg=>rw[show bw (dI t=0)=false from by rw[au];exact aJ];refine af ?_;refine e1 (h:=IA rfl) (u:=.bool true) (ab:=af ?_);refine cM rfl (λh=>by cases h) λ_=>?_;refine af ?_;refine cM rfl (λ_=>?_) (λh=>by rw[aos,an]at h;exact absurd h aJ);refine af ?_;exact bT rfl (.t1 rfl) λI hw=>rfl
 have hN:=hN aJ;have IF:=IF aJ;have j5:=Go.bM.kr aJ;have PY:∀l:List Int,l.length<=65536->GQ t l=0:=λl aL=>by unfold GQ;rw[aou aJ,aot (by omega)]
 rw[show bw (dI t=0)=true from by rw[an];exact aJ];refine af ?_;refine x3 rfl rfl rfl ?_;refine aq (bp (λI hw=>agI ak vd aI bv aG aR um aT bj ji aiR xk ki vB vL Xg jJ xT _ I (hN.now hw) (IF.now hw)) ?_);rintro v m2 rU rfl so;refine cA _ ek (af ?_);refine cM rfl (λh=>by cases h) λ_=>?_;refine af ?_;refine cM rfl (λh=>by rw[aoq,au]at h;exact absurd aJ h) λ_=>?_;refine af ?_;refine aq (gi (λI hw=>W6 n I (hN.now hw)) ?_);rintro v ck es bY ⟨dN,ib,ajG,Fy,AF,rfl,p9,rfl⟩;refine af ?_;refine ei λvC=>?_;refine c7 0 ?_;refine bC (λh3=>?_) λh3=>?_
 ·refine af ?_;refine aq (gi (λI hw=>agd n I (hN.now hw)) ?_);rintro v hj es fW ⟨gx,wH,anV,alK,Qi,rfl,ma,rfl⟩;refine af ?_;refine ei λya=>?_;refine c7 0 ?_;refine bT rfl (.t1 rfl) λI hw=>?_;show Value.bool (bw (mx (ar t) n=mx (ar t) n))=.bool true;congr 1;rw[an]
 rw[aos,an]at h3;have cG:=Ww (ar t) n;obtain⟨c,iV⟩:∃c,oB (ar t) n=c:=⟨_,rfl⟩;have xv:fj (ar t) c=0:=by rw[<-iV];unfold oB;rw[aou h3];exact W8 j5
 rw[iV]at p9 cG⊢;refine cA (Mem [(bc,Fr bx),(w,al)] [.own dN 3 1 a7 c.bE,tS 3 33 ib ajG c.co,.box vC [dN,ib] 53,.box ec [ak,vd,aI,bv,aG,aR,um,aT,bj] 41,.box dC (c6 t ah ad ao) 32]) (λ_ h=>h.cX.cX.cC [1,2,0,4,5]) (af ?_);refine aq (bp (λI hw=>W7 dN ib c I (hN.now hw) (Cb hw aP dg p9 cG) xv) ?_);rintro v ia ig ⟨u,rfl,hu⟩ xD;have anv:=hu.aK;refine af ?_;refine aq (bp (λI hw=>ahz dN ib c I (hN.now hw) (Cb hw aP dg p9 cG) (xr.now hw)) ?_);rintro v qk qu rfl Js;refine cA _ ek (af ?_);refine aq (bp (λI hw=>aiK dN ib c I (hN.now hw) (Cb hw aP dg p9 cG) (xr.now hw)) ?_);rintro v n6 wY rfl rD;refine cA _ ek (af ?_);refine aq (bp (λI hw=>ahG t ah ad ao dN ib vs c I (bL.now hw) (Cb hw aP dg p9 cG) (xr.now hw)) ?_);rintro v n7 BJ ⟨l,rfl,ant,hh⟩ CI;refine af ?_;refine aq (bp (λI hw=>ahI t ah ad ao dN ib vs c I (bL.now hw) (Cb hw aP dg p9 cG) (xr.now hw)) ?_);rintro v n8 Hg ⟨jX,rfl,anu,CL⟩ aly;have hh:=hh aJ xv;have CL:=CL aJ xv;have l8:oW (ar t) c=true->nu (ar t) c=true:=ahw;rw[N1 aJ xv,N1 aJ xv];generalize oW (ar t) c=A at hh l8⊢;generalize nu (ar t) c=B at CL l8⊢;refine dp (λh=>?_) λ_=>?_
 ·exfalso;have d0:∀X:Bool,bw ((if X=true then(0:Int)else 181)=0)=X:=λX=>by
   cases X
   ·rw[au];decide
   rw[an];rfl
  have d1:∀X:Bool,bw (X=X)=true:=λX=>by rw[an]
  simp only[d0]at h;revert h l8;clear hh CL;cases A<;>cases B<;>simp[d1]
 refine af ?_;refine ih (λ_:Unit=>True) (λ_=>[(23,true,jX),(19,true,.bool B),(15,true,u),(2,true,av dC)]) (λ_=>Mem [(Hg,Fr n8),(ig,Fr ia),(w,al)] [.box dC (c6 t ah ad ao) 32]) ?_ ?_
 ·refine bC (λhA=>?_) λ_=>?_
  ·obtain⟨out,v8,oa,wa⟩:=hh hA;refine af ?_;refine aq (bp (λI hw=>Rm t false ah ad ao l vs out I (bL.now hw) (hw.now v8)) ?_);rintro v Sf Vt ⟨Ml,adS,rfl,ah7,ah1,yW⟩ aav;have yW:=yW aJ oa;rw[PY _ oa];refine af ?_;refine ei λakw=>?_;refine c7 0 ?_;simp only[hd];refine af ?_;refine x3 rfl rfl rfl ?_;refine aq (hq (bb:=λI hw=>Ma Ml u (uz (ar t) c) I (by have:=hw.now yW;rwa[wa]at this) (hw.now hu)) (ab:=?_));rintro v n10 Vr rfl aau;refine af ?_;refine cM rfl (λh=>by cases h) λ_=>?_;refine af ?_;exact b6 () trivial (hA:=λ_ h=>(h.B8 (bs':=[(Hg,Fr n8),(ig,Fr ia),(w,al)]) λB hB=>by simp at hB⊢;rcases hB with rfl | rfl | rfl<;>simp).cC [5])
  refine af ?_;exact b6 () trivial (hA:=λ_ h=>(h.B8 (bs':=[(Hg,Fr n8),(ig,Fr ia),(w,al)]) λB hB=>by simp at hB⊢;rcases hB with rfl | rfl | rfl<;>simp).cC [4])
 rintro⟨⟩ _;refine dp (λhB=>?_) λ_=>?_
 ·obtain⟨out,v8,oa,wa⟩:=CL hB;refine af ?_;refine aq (bp (λI hw=>Rm t true ah ad ao jX vs out I (bL.now hw) (hw.now v8)) ?_);rintro v Sf Vt ⟨Ml,adS,rfl,ah7,ah1,yW⟩ aav;have yW:=yW aJ oa;rw[PY _ oa];refine af ?_;refine ei λakx=>?_;refine c7 0 ?_;simp only[hd];refine af ?_;refine x3 rfl rfl rfl ?_;refine aq (hq (bb:=λI hw=>Ma Ml u (uz (ar t) c) I (by have:=hw.now yW;rwa[wa]at this) (hw.now hu)) (ab:=?_));rintro v n10 Vr rfl aau;refine af ?_;exact bT rfl (.t1 rfl) λI hw=>rfl
 refine af ?_;exact bT rfl (.t1 rfl) λI hw=>rfl
end Go.Proofs.bA
