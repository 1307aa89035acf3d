/- Lemmas for the law WholeComplete. -/
import Derived.Test.YtiknadellddjhaaGreatDoorC45
set_option linter.all false
open Go.Proofs.Tryz
set_option maxHeartbeats 12800000
open Go Go.b9 Go.bM
attribute [local irreducible] Go.wpList Go.Code.wp Go.bodyPost Go.Exit.then Go.Exit.inBlock Go.Calls
namespace Go.Proofs.bA
theorem aht(fe eX:Value)(xs:List ByteArray)(w:World)(ay:aZ al w dU 1 fe xs)(hb:aZ al w dU 1 eX xs): bl prog 52 [fe,eX] w λ_ v _=>v=.bool true:=by
 have p9:=ay.le;have ma:=hb.le;refine bZ func52 ntmps52 ?_;refine cM rfl (λh1=>by rw[aoq,au]at h1;exact absurd rfl h1) λ_=>?_;refine U ?_;refine bX (λk:Nat=>k<=xs.length) (λk=>[(5,true,.int .i64 k),(0,true,fe),(1,true,eX)]) (λ_=>Mem [(w,al)] []) (λk=>xs.length-k) 0 (aoD _) ?_;intro k hk;refine a8 (λh2=>?_) λh2=>?_
 ·have ix:k<xs.length:=by rw[an]at h2;omega
  refine U ?_;refine cz [0,1,2,3,4,5,6,7,8] mixed ?_;refine aN ?_;refine U ?_;refine cM rfl (λh3=>by rw[aoq,au]at h3;exact absurd rfl h3) λ_=>?_;refine U ?_;exact bm (k+1) ix (by omega)
 refine U ?_;exact bT rfl (.t1 rfl) λI hw=>rfl
theorem Ma(fe eX:Value)(xs:List Int)(w:World)(ay:aZ al w a7 1 fe xs)(hb:aZ al w a7 1 eX xs):bl prog 10 [fe,eX] w λ_ v _=>v=.bool true:=(ahr fe eX xs xs w ay hb).mono λ_ _ _ h=>by rw[h,aow rfl]
theorem Mb(fe eX:Value)(xs:List ca)(w:World)(ay:aZ al w bB 2 fe xs)(hb:aZ al w bB 2 eX xs):bl prog 53 [fe,eX] w λ_ v _=>v=.bool true:=(ahs fe eX xs xs w ay hb).mono λ_ _ _ h=>by rw[h,aow rfl]
theorem agI(ak ah aI bv aG aR ad aT bj ji y9 xk ki vB vL r7 jJ xT:Value)(t:aW)(w:World)(hA:fB al w ak ah aI bv aG aR ad aT bj t)(hB:fB al w ji y9 xk ki vB vL r7 jJ xT t): bl prog 16 [.agg #[ak,ah,aI,bv,aG,aR,ad,aT,bj],.agg #[ji,y9,xk,ki,vB,vL,r7,jJ,xT]] w λ_ v _=>v=.bool true:=by
 obtain⟨ds,a2,a3,a4,a5,l4,mT,pA,a9⟩:=hA;obtain⟨gn,dC,dK,cO,ec,cY,ey,dx,qB⟩:=hB;have am9:=ds.aK;have ami:=ds.le;have ana:=a2.aK;have amj:=a2.le;have anb:=a3.aK;have amk:=a3.le;have anc:=a4.aK;have aml:=a4.le;have ane:=a5.aK;have amm:=a5.le;have anf:=l4.aK;have amn:=l4.le;have ang:=mT.aK;have amo:=mT.le;have anh:=pA.aK;have amp:=pA.le;have ani:=a9.aK;have amq:=a9.le;have anj:=gn.aK;have amr:=gn.le;have ank:=dC.aK;have ams:=dC.le;have anl:=dK.aK;have amt:=dK.le;have anm:=cO.aK;have amu:=cO.le;have ann:=ec.aK;have amv:=ec.le;have ano:=cY.aK;have amw:=cY.le;have anp:=ey.aK;have amx:=ey.le;have anq:=dx.aK;have amy:=dx.le;have anr:=qB.aK;have amz:=qB.le;have hd:bw True=true:=by rw[an];trivial
 refine ha func16 ntmps16 ?_;refine e4 λrU=>?_;refine e4 λwW=>?_;refine aq (bp (λI hw=>aht ak ji t.aO I (hw.now ds) (hw.now gn)) ?_);rintro v bx bc rfl cu;refine cA _ ek (af ?_);refine x3 rfl rfl rfl ?_;refine aq (bp (λI hw=>Ma ah y9 t.init I (hw.now a2) (hw.now dC)) ?_);rintro v ck bY rfl eZ;refine cA _ ek (af ?_);simp only[hd];refine af ?_;refine x3 rfl rfl rfl ?_;refine aq (bp (λI hw=>Mb aG vB _ I (hw.now a5) (hw.now ec)) ?_);rintro v hj fW rfl nG;refine cA _ ek (af ?_);refine x3 rfl rfl rfl ?_;refine aq (bp (λI hw=>Mb aR vL _ I (hw.now l4) (hw.now cY)) ?_);rintro v ia ig rfl xD;refine cA _ ek (af ?_);refine x3 rfl rfl rfl ?_;refine aq (bp (λI hw=>Mb ad r7 _ I (hw.now mT) (hw.now ey)) ?_);rintro v qk qu rfl Js;refine cA _ ek (af ?_);simp only[hd];refine af ?_;refine cM rfl (λh=>by cases h) λ_=>?_;refine af ?_;refine bX (λk:Nat=>k<=t.J.length) (λk=>[(5,true,.int .i64 k),(3,true,av wW),(2,true,av rU)]) (λ_=>Mem [(w,al)] [.box wW [ji,y9,xk,ki,vB,vL,r7,jJ,xT] 41,.box rU [ak,ah,aI,bv,aG,aR,ad,aT,bj] 41]) (λk=>t.J.length-k) 0 (aoD _) ?_;intro k hk;refine dp (λh2=>?_) λ_=>?_
 ·have ix:k<t.J.length:=by rw[an]at h2;omega
  refine af ?_;refine cz [0,1,2,3,4,5,6,7,8,9,10] mixed ?_;refine bQ ?_;refine af ?_;refine cM rfl (λh3=>by rw[aoq,au]at h3;exact absurd rfl h3) λ_=>?_;refine af ?_;exact bm (k+1) ix (by omega)
 refine af ?_;refine bX (λk:Nat=>k<=t.bars.length) (λk=>[(6,true,.int .i64 k),(3,true,av wW),(2,true,av rU)]) (λ_=>Mem [(w,al)] [.box wW [ji,y9,xk,ki,vB,vL,r7,jJ,xT] 41,.box rU [ak,ah,aI,bv,aG,aR,ad,aT,bj] 41]) (λk=>t.bars.length-k) 0 (aoD _) ?_;intro k hk;refine dp (λh2=>?_) λ_=>?_
 ·have ix:k<t.bars.length:=by rw[an]at h2;omega
  refine af ?_;refine cz [0,1,2,3,4,5,6,7,8,9,10] mixed ?_;refine bQ ?_;refine af ?_;refine cM rfl (λh3=>by rw[aoq,au]at h3;exact absurd rfl h3) λ_=>?_;refine af ?_;exact bm (k+1) ix (by omega)
 refine af ?_;refine bX (λk:Nat=>k<=t.cf.length) (λk=>[(7,true,.int .i64 k),(3,true,av wW),(2,true,av rU)]) (λ_=>Mem [(w,al)] [.box wW [ji,y9,xk,ki,vB,vL,r7,jJ,xT] 41,.box rU [ak,ah,aI,bv,aG,aR,ad,aT,bj] 41]) (λk=>t.cf.length-k) 0 (aoD _) ?_;intro k hk;refine dp (λh2=>?_) λ_=>?_
 ·have ix:k<t.cf.length:=by rw[an]at h2;omega
  refine af ?_;refine cz [0,1,2,3,4,5,6,7,8,9,10] mixed ?_;refine bQ ?_;refine af ?_;refine cM rfl (λh3=>by rw[aoq,au]at h3;exact absurd rfl h3) λ_=>?_;refine af ?_;exact bm (k+1) ix (by omega)
 refine af ?_;refine bX (λk:Nat=>k<=t.ends.length) (λk=>[(8,true,.int .i64 k),(3,true,av wW),(2,true,av rU)]) (λ_=>Mem [(w,al)] [.box wW [ji,y9,xk,ki,vB,vL,r7,jJ,xT] 41,.box rU [ak,ah,aI,bv,aG,aR,ad,aT,bj] 41]) (λk=>t.ends.length-k) 0 (aoD _) ?_;intro k hk;refine dp (λh2=>?_) λ_=>?_
 ·have ix:k<t.ends.length:=by rw[an]at h2;omega
  refine af ?_;refine cz [0,1,2,3,4,5,6,7,8,9,10] mixed ?_;refine bQ ?_;refine af ?_;refine cM rfl (λh3=>by rw[aoq,au]at h3;exact absurd rfl h3) λ_=>?_;refine af ?_;exact bm (k+1) ix (by omega)
 refine af ?_;exact bT rfl (.t1 rfl) λI hw=>rfl
end Go.Proofs.bA
namespace Go.bM
theorem Xd{n:Nat}(h:0<n):0<cap n:=by unfold cap;omega
theorem Xc{a b:Nat}(ay:0<a):cap (a* cap b)=cap (a* b):=by
 by_cases h:b<=65537
 ·rw[show cap b=b by unfold cap;omega]
 have h1:cap b=65537:=by unfold cap;omega
 have h2:65537<=a* 65537:=aqI _ ay;have h3:a* 65537<=a* b:=Nat.mul_le_mul_left _ (by omega);rw[h1];unfold cap;omega
theorem N7(t:aW):(65536<cap (iT t))=(65536<iT t):=by unfold cap;exact propext ⟨λh=>by omega,λh=>by omega⟩
theorem BN{t:aW}(hb:t.J.length<=64)(k:Int):(wr t k).length<=64:=ao5 (zF t k _) hb
theorem agl{t:aW}(hb:t.J.length<=64)(i:Nat):(jj t i).length<=65:=by
 have:=BN hb (t.J.getD i default).loc;unfold jj;split
 ·rw[aoN];omega
 simp
end Go.bM
namespace Go.Proofs.bA
theorem Xf(aE gB:Value)(t:aW)(w:World)(aM:o0 al w aE (qp t))(ba:o0 al w gB (lZ t))(hb:t.J.length<=64)(ma:t.aO.length<=64): bl prog 121 [.agg #[aE,gB]] w λ_ v _=>v=.int .i64 (cap (iT t):Int):=by
 obtain⟨wP,eo,ep,tG⟩:=aM;obtain⟨w1,lP,jU,uP⟩:=ba;have iz:=eo.aK;have FJ:=lP.aK;have QG:=eo.le;have Q0:=lP.le;rw[LB]at ep tG;rw[MY]at jU uP;refine bZ func121 ntmps121 ?_;refine b7 λfy=>?_;refine bX (λs:Nat×Nat=>s.1<=t.J.length/\s.2=cap (mA t s.1)) (λs=>[(11,true,.int .i64 s.1),(10,true,.int .i64 wP.length),(9,true,aE),(3,true,.int .i64 s.2),(1,true,av fy)]) (λs=>Mem [(w,al)] [.box fy [aE,gB] 142]) (λs=>t.J.length-s.1) (0,1) ⟨aoD _,rfl⟩ ?_ ⟨rfl,rfl,rfl,rfl,rfl,trivial⟩ cv
 rintro⟨i,all⟩ ⟨hi,bG⟩;dsimp only at hi bG⊢;subst bG;refine a8 (λh1=>?_) λh1=>?_
 ·have bU:i<t.J.length:=by rw[an]at h1;omega
  have akN:i<wP.length:=by omega
  have hx:=tG i bU;have hxs:=hx.aK;have jV:((qp t).getD i default).length=xl t i:=by rw[GG t bU,Tr]
  refine U ?_;refine aq (bp (λI hw=>KF (cap (mA t i)) ((qp t).getD i default).length I) ?_);rintro v bx bc rfl cu;rw[jV,HP (EF t i) (EG t i)];refine U ?_;refine bm ((i+1),cap (mA t (i+1))) ⟨by dsimp only;omega,rfl⟩ (by dsimp only;omega) (hA:=cv)
 obtain rfl:i=t.J.length:=by rw[au]at h1;omega
 refine U ?_;refine bX (λs:Nat×Nat=>s.1<=t.aO.length/\s.2=cap (mA t t.J.length* oO t s.1)) (λs=>[(23,true,.int .i64 s.1),(22,true,.int .i64 w1.length),(21,true,gB),(3,true,.int .i64 s.2)]) (λs=>Mem [(w,al)] [.box fy [aE,gB] 142]) (λs=>t.aO.length-s.1) (0,cap (mA t t.J.length)) ⟨aoD _,by rw[oO,ara]⟩ ?_ ⟨rfl,rfl,rfl,rfl,trivial⟩ cv
 rintro⟨k,all⟩ ⟨hk,bG⟩;dsimp only at hk bG⊢;subst bG;refine a8 (λh2=>?_) λh2=>?_
 ·have bq:k<t.aO.length:=by rw[an]at h2;omega
  have akP:k<w1.length:=by omega
  have hx:=uP k bq;have hxs:=hx.aK;have jV:((lZ t).getD k default).length=(wr t (k:Int)).length:=by rw[Hn t bq]
  have hle:=BN hb (k:Int);refine U ?_;refine aq (hq (bb:=λI hw=>HZ ((lZ t).getD k default).length I (by omega)) (ab:=?_));rintro v ck bY rfl eZ;rw[jV];refine U ?_;refine aq (bp (λI hw=>KF (cap (mA t t.J.length* oO t k)) (cap (fact (wr t (k:Int)).length)) I) ?_);rintro v hj fW rfl nG;have hp:0<mA t t.J.length* oO t k:=Nat.mul_pos (EF t _) (F6 t k);rw[HP hp (Xd (rr _)),Xc hp];refine U ?_;refine bm ((k+1),cap (mA t t.J.length* oO t k* fact (wr t (k:Int)).length)) ⟨by dsimp only;omega,by rw[oO,Nat.mul_assoc]⟩ (by dsimp only;omega) (hA:=cv)
 obtain rfl:k=t.aO.length:=by rw[au]at h2;omega
 refine bf λI hw=>?_;rfl
theorem XN{ak ah aI bv aG aR ad aT bj:Value}{t:aW}(w:World)(h:fB al w ak ah aI bv aG aR ad aT bj t): bl prog 54 [.agg #[ak,ah,aI,bv,aG,aR,ad,aT,bj]] w λm v I=>∃aE gB,aD aE/\aD gB/\v=.tuple #[.agg #[aE,gB],.int .i64 (nW t:Int),.int .i64 (ln t)]/\(ln t=0->o0 (Fr m) I aE (qp t)/\o0 (Fr m) I gB (lZ t)):=by
 refine bZ func54 ntmps54 ?_;refine b7 λaQ=>?_;refine cH λEs=>?_;refine aq (bp (λI hw=>Mp I (h.now hw)) ?_);rintro v bx bc rfl cu;refine a8 (λh1=>?_) λh1=>?_
 ·rw[ve]at h1;have hok:e0 t=false:=by simpa using h1
  have bu:nt t=1:=by unfold nt;rw[hok];rfl
  have b2:nW t=0:=by unfold nW;rw[hok];rfl
  have gg:ln t=1:=by unfold ln;rw[hok];rfl
  rw[bu];refine U ?_;refine bN 0 ?_;refine bT rfl (.dv rfl aP rfl (.tmp rfl (.t1 rfl))) λI hw=>?_;refine⟨_,_,cU,cU,by rw[b2,gg];rfl,λh=>by rw[gg]at h;cases h⟩
 have hok:e0 t=true:=by rw[ve]at h1;simpa using h1
 obtain⟨hb,ma⟩:=kI hok;refine U ?_;refine aq (bp (λI hw=>(Ot I (h.now hw) hok).size (hw.sz dg)) ?_);rintro v ck bY ⟨⟨aE,gB,rfl,aM,ba⟩,so⟩ eZ;obtain⟨wP,eo,ep,tG⟩:=aM;obtain⟨w1,lP,jU,uP⟩:=ba;have iz:=eo.aK;have FJ:=lP.aK;refine U ?_;refine cH λfy=>?_;refine bN 0 ?_;refine aq (bp (λI hw=>Xf aE gB t I (hw.zi ⟨⟨wP,eo,ep,tG⟩⟩ aP) (hw.zi ⟨⟨w1,lP,jU,uP⟩⟩ aP) hb ma) ?_);rintro v hj fW rfl nG;refine a8 (λh2=>?_) λh2=>?_
 ·have bq:¬iT t<=65536:=by
   rw[an]at h2;have:65536<cap (iT t):=by omega
   rw[N7]at this;omega
  have b2:nW t=0:=by unfold nW;rw[aou hok,aot bq]
  have gg:ln t=3:=by unfold ln;rw[aou hok,aot bq]
  refine U ?_;refine bN 1 ?_;refine bT rfl (.dv rfl dg rfl (.tmp rfl (.t1 rfl))) λI hw=>?_;refine⟨_,_,cU,cU,by rw[b2,gg];rfl,λh=>by rw[gg]at h;cases h⟩
 have bq:iT t<=65536:=by
  rw[au]at h2;have:¬65536<cap (iT t):=by omega
  rw[N7]at this;omega
 have b2:nW t=iT t:=by unfold nW;rw[aou hok,aou bq]
 have gg:ln t=0:=by unfold ln;rw[aou hok,aou bq]
 rw[show cap (iT t)=iT t by unfold cap;omega];refine U ?_;refine bN 1 ?_;refine bT rfl (.dv rfl dg rfl (.tmp rfl (.t1 rfl))) λI hw=>?_;refine⟨aE,gB,iz,FJ,by rw[b2,gg];rfl,λ_=>⟨hw.SK ⟨⟨wP,eo,ep,tG⟩⟩ dg so,hw.SK ⟨⟨w1,lP,jU,uP⟩⟩ dg so⟩⟩
theorem aen(ak:Value)(l:List Int)(n:Nat)(w:World)(aL:aZ al w a7 1 ak l)(bd:n<fact l.length)(ai:fact l.length<=65536)(hb:l.length<=64): en prog 123 [ak,.int .i64 n] w λ_ r es _=>aD r/\es=[.own r 3 1 a7 (u3 l n)]:=by
 have Jo:=aL.aK;refine hL func123 ntmps123 ?_;refine aq (gI (bb:=λI hw=>ahx ak l I (hw.now aL) (by omega)) (ab:=?_));rintro v bx es bc ⟨ax,rfl⟩;refine U ?_;refine ea 3 1 a7 ?_;refine bX (λs:(List Int×List Int)×Nat×Value×Value=>(aD s.2.2.1/\aD s.2.2.2)/\s.2.1<fact s.1.1.length/\s.1.1.length<=l.length/\s.1.2.length+s.1.1.length=l.length/\s.1.2++rI s.1.1.length s.1.1 s.2.1=u3 l n) (λs=>[(6,true,s.2.2.2),(5,true,s.2.2.1),(1,true,.int .i64 s.2.1)]) (λs=>Mem [(w,al)] [.own s.2.2.2 3 1 a7 s.1.2,.own s.2.2.1 3 1 a7 s.1.1]) (λs=>s.1.1.length) ((l,[]),n,v,aa) ⟨⟨ax,cU⟩,bd,aoL _,by simp,rfl⟩ ?_ ⟨rfl,rfl,rfl,trivial⟩ cv
 rintro⟨⟨iX,K2⟩,q,lw,aer⟩ ⟨⟨Jq,CM⟩,ba,hle,CS,hinv⟩;dsimp only at Jq CM ba hle CS hinv⊢;refine a8 (λh1=>?_) λh1=>?_
 ·obtain⟨m,hm⟩:∃m,iX.length=m+1:=⟨iX.length-1,by rw[an]at h1;omega⟩;have bu:((iX.length:Nat):Int)-1=((m:Nat):Int):=by omega
  have tA:fact m<=65536:=ao5 (Ak l.length (by omega)) ai;have xw:cap (fact m)=fact m:=by unfold cap;omega
  have mE:=rr m;have JC:q<(m+1)* fact m:=by rw[<-Ik,<-hm];exact ba
  have aaf:q / fact m<m+1:=by rw[Nat.div_lt_iff_lt_mul mE];exact JC
  have pI:q / fact m<iX.length:=by omega
  have aaH:q<=65536:=by have:=Ak (i:=iX.length) l.length hle;omega
  refine U ?_;rw[bu];refine aq (hq (bb:=λI hw=>HZ m I (by omega)) (ab:=?_));rintro v ck bY rfl eZ;rw[xw];refine U ?_;have cS:rI (m+1) iX q=iX.getD (q / fact m) default::rI m (iX.eraseIdx (q / fact m)) (q % fact m):=rfl;generalize q / fact m=k at *;refine aq (eI (ab:=λHe JV=>U ?_));refine aq (e6 1 (hk:=rfl) (hm:=.head _) (bH:=by simp only[aoJ,aoN,ao1];omega) (ab:=λv30 wk=>U ?_));refine aq (uB 2 rfl (bb:=λI hw=>ahM lw iX k I pI (hw.only hy)) (ab:=?_));rintro v35 hj e' fW ⟨tI,rfl⟩;refine U ?_;have CE:(iX.eraseIdx k).length=m:=by rw[List.length_eraseIdx,aou pI];omega
  refine bm ((iX.eraseIdx k,K2++[iX.getD k default]),q % fact m,v35,v30) ⟨⟨tI,wk⟩,?_,?_,?_,?_⟩ ?_ (hA:=bD [1,2])
  ·dsimp only;rw[CE];exact are _ mE
  ·dsimp only;omega
  ·dsimp only;rw[aoy,aps];omega
  ·dsimp only;rw[CE,aoP,List.singleton_append,<-cS,<-hm];exact hinv
  dsimp only;omega
 have h0:iX.length=0:=by rw[au]at h1;omega
 rw[h0,rI,aoH]at hinv;refine U ?_;exact et rfl (.t1 rfl) [.own aer 3 1 a7 K2] [0] λI hw=>⟨CM,by rw[hinv];rfl⟩
end Go.Proofs.bA
namespace Go.bM
structure Small(c:cw):Prop where
 bE:c.bE.length<=64
 co:c.co.length<=64
 cs:∀i,i<c.co.length->(c.co.getD i default).length<=64
theorem Small.En{c:cw}(h:Small c):∀i,i<c.co.length->(c.co.getD i default).length* 8<=140737488351232:=λi hi=>by have:=h.cs i hi;omega
theorem Wx{t:aW}{n:Int}(h:mx t n=0):e0 t=true/\iT t<=65536/\ln t=0/\0<=n/\n<iT t:=by
 unfold mx at h;by_cases h1:ln t=0
 ·rw[aou h1]at h;have h2:e0 t=true/\iT t<=65536:=by
   unfold ln at h1;by_cases a:e0 t=true
   ·rw[aou a]at h1;by_cases b:iT t<=65536
    ·exact⟨a,b⟩
    rw[aot b]at h1;cases h1
   rw[aot a]at h1;cases h1
  have h3:nW t=iT t:=by unfold nW;rw[aou h2.1,aou h2.2]
  by_cases aA:0<=n/\n<nW t
  ·rw[h3]at aA;exact⟨h2.1,h2.2,h1,aA⟩
  rw[aot aA]at h;cases h
 rw[aot h1]at h;exact absurd h h1
theorem W9{t:aW}(aJ:e0 t=true)(n:Nat):Small (la t n):=by
 obtain⟨hb,ma⟩:=kI aJ;have bu:(la t n).bE.length=t.J.length:=by rw[<-GK,GL]
 have b2:(la t n).co.length=t.aO.length:=by rw[<-z8,aro]
 refine⟨by omega,by omega,λi hi=>?_⟩;have gg:(la t n).co.getD i default=tg t n i:=by show((List.range t.aO.length).map (tg t n)).getD i default=_;rw[aor,ao4,apk (by omega)];rfl
 rw[gg,tg,aej];exact BN hb _
theorem Ww(t:aW)(n:Int):Small (oB t n):=by
 unfold oB;by_cases h:mx t n=0
 ·rw[aou h];exact W9 (Wx h).1 _
 rw[aot h];exact⟨by simp[tR],by simp[tR],λi hi=>by simp[tR]at hi⟩
theorem aez{l:List Int}{k:Nat}(h:k<l.length):(l.getD k default::l.eraseIdx k).Perm l:=by
 rw[aor,aov h,aqq];have e:l=l.take k++l[k]::l.drop (k+1):=by rw[<-aqQ h,aqM]
 exact aq4.symm.trans (List.Perm.of_eq e.symm)
theorem Sx:∀(m:Nat) (l:List Int) (n:Nat),l.length=m->n<fact m->(rI m l n).Perm l
 | 0,l,n,h,_=>by have:l=[]:=List.length_eq_zero_iff.1 h;subst this;exact .nil
 | m+1,l,n,h,bd=>by
  have hk:n / fact m<l.length:=by rw[h];exact ael bd
  have aL:(l.eraseIdx (n / fact m)).length=m:=by rw[List.length_eraseIdx,aou hk];omega
  exact(List.Perm.cons _ (Sx m _ _ aL (are _ (rr m)))).trans (aez hk)
section
variable {t:aW} {n:Nat}
theorem agB{i:Nat}(hi:i<t.J.length):(la t n).bE.getD i default=sL t n i:=by show((List.range t.J.length).map (sL t n)).getD i default=_;rw[aor,ao4,apk hi];rfl
theorem Xp{k:Nat}(hk:k<t.aO.length):(la t n).co.getD k default=tg t n k:=by show((List.range t.aO.length).map (tg t n)).getD k default=_;rw[aor,ao4,apk hk];rfl
theorem Xq(k:Nat):(tg t n k).Perm (wr t (k:Int)):=Sx _ _ _ rfl (are _ (rr _))
theorem W8(aJ:e0 t=true):fj t (la t n)=0:=by
 unfold fj;rw[aou aJ,aou];refine(r6 t _).2 ⟨by rw[<-GK,GL],by rw[<-z8,aro],λi hi=>?_,λk hk=>?_⟩
 ·rw[Lw,aop,agB hi,sL];have hm:=are (oo t n (t.J.length-1-i)) (Ts t i);rw[aor,aov hm];exact apC hm
 rw[D0,aop,Xp hk];exact Uw (Xq k) (MV t _ _)
end
end Go.bM
namespace Go.Proofs.bA
theorem Cb{bs:List dm}{H:List aB}{w:World}{dN ib:Value}{vs:List Value}{c:cw}(hw:Mem bs H w)(h1:aB.own dN 3 1 a7 c.bE∈H)(h2:tS 3 33 ib vs c.co∈H)(aL:vs.length=c.co.length)(aj:Small c):ke al w dN ib c:=⟨hw.dX h1,hw.acU h2 aL,aj.En⟩
end Go.Proofs.bA
