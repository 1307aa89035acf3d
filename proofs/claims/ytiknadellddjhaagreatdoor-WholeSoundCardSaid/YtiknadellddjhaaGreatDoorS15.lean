/- Lemmas for the law WholeSound. -/
import Derived.Test.YtiknadellddjhaaGreatDoorS10
import Derived.Test.YtiknadellddjhaaGreatDoorS14
set_option linter.all false
open Go.Proofs.Tryz
set_option maxHeartbeats 16000000
open Go Go.cc Go.bU Go.gH Go.eV
attribute [local irreducible] Go.wpList Go.Code.wp Go.bodyPost Go.Exit.then Go.Exit.inBlock Go.Calls
namespace Go.eV
theorem Ky{l:List Int}(h:l.length<=64):∀i,(sl l i).length<=i* 64
 | 0=>by simp[sl]
 | i+1=>by
  rw[RX,ams];have:=Ky h i;have:(CS l i).length<=64:=by unfold CS;rw[amD,anD];omega
  omega
theorem Ho{c:cv}:∀k,(∀j,j<k->(c.co.getD j default).length<=64)->(ps c k).length<=k* 4096
 | 0,_=>by simp[ps]
 | k+1,h=>by rw[No,ams];have:=Ho k λj ad=>h j (by omega);have h1:=h k (by omega);have:=Ky h1 (c.co.getD k default).length;omega
theorem SK(t:a1)(c:cv):∀n,(sq t c n).length<=n
 | 0=>by simp[sq]
 | n+1=>by
  rw[Ge,ams];have:=SK t c n;have:(xm t c n).length<=1:=by unfold xm;split<;>simp
  omega
theorem Oy{t:a1}{c:cv}:∀n,(∀j,j<n->(iH t c j).length<=64)->(rT t c n).length<=n* 64
 | 0,_=>by simp[rT]
 | n+1,h=>by
  rw[HS,ams];have:=Oy n λj ad=>h j (by omega);have:(xT t c n).length<=64:=by
   unfold xT;split
   ·unfold p0;rw[amD,anD];have:=h n (by omega);omega
   simp
  omega
theorem take_one{α:Type}[Inhabited α]{l:List α}{i:Nat}(h:i<l.length):l.take (i+1)=l.take i++[l.getD i default]:=by rw[ang,aml,amp h];rfl
structure eV where
 n:Int
 po:List W
 pl:List W
 br:List W
 Gg:List W
 co:List W
 coe:List W
 fr:List W
 Ee:List W
 DP:List W
def GK(t:a1)(c:cv):eV:=
 if fc t c=0 then
  {n:=t.J.length,po:=bT t.J.length (dK t),pl:=bT t.J.length (sj t),br:=bT t.J.length (iR t c),Gg:=bT t.J.length (ke t (iR t c)),co:=bT t.J.length (hX t c),
   coe:=bT t.J.length (ke t (hX t c)),fr:=bT t.J.length (jD t c),Ee:=bT t.J.length (ke t (jD t c)),DP:=bT t.J.length (qq t c)}
 else{n:=0,po:=[],pl:=[],br:=[],Gg:=[],co:=[],coe:=[],fr:=[],Ee:=[],DP:=[]}
theorem l5{t:a1}{c:cv}(h:fc t c=0):gL t=true/\oc t c=true:=by
 unfold fc at h;by_cases h1:gL t=true
 ·rw[amo h1]at h;by_cases h2:oc t c=true
  ·exact⟨h1,h2⟩
  rw[amn h2]at h;omega
 rw[amn h1]at h;omega
theorem AI{m:Nat}(hm:m<=64)(p q:Nat->Nat->Bool):GH m (bT m p) (bT m q)=bT m λi j=>p i j||q i j:=by unfold GH;exact qM λi j hi ad=>by rw[uE m _ hm i j hi ad,uE m _ hm i j hi ad]
theorem KV{m:Nat}(hm:m<=64)(p q:Nat->Nat->Bool):(bT m λi j=>aT (bT m p) i j&&q i j)=bT m λi j=>p i j&&q i j:=qM λi j hi ad=>by rw[uE m _ hm i j hi ad]
end Go.eV
namespace Go.Proofs.bK
def Vk(V:eV)(e:Int):Nat->Value->List aA->World->Prop:=λ_ v es _=>∃s1 s2 cy dq dd ep dP ff fy,(aD s1/\aD s2/\aD cy/\aD dq/\aD dd/\aD ep/\aD dP/\aD ff/\aD fy)/\ v=.tuple #[.agg #[.int .i64 V.n,s1,.int .i64 V.n,s2,.int .i64 V.n,cy,.int .i64 V.n,dq,.int .i64 V.n,dd,.int .i64 V.n,ep,.int .i64 V.n,dP,.int .i64 V.n,ff,.int .i64 V.n,fy],.int .i64 e]/\ es=[et s1 V.po,et s2 V.pl,et cy V.br,et dq V.Gg,et dd V.co,et ep V.coe,et dP V.fr,et ff V.Ee,et fy V.DP]
theorem LX{lv aj aN bv aK aX ae aU bE:Value}{t:a1}(cz b1:Value)(c:cv)(w:World)(h:ha an w lv aj aN bv aK aX ae aU bE t)(ai:jW an w cz b1 c)(bp:lg w): eH prog 97 [.agg #[lv,aj,aN,bv,aK,aX,ae,aU,bE],.agg #[cz,b1]] w (Vk (GK t c) (fc t c)):=by
 have k2:=ai.br.aG;obtain⟨rn,kB,th,ET⟩:=ai.co;have mE:=kB.aG;have hF:=ai.br;have X0:=hF.le;have ajQ:=kB.le;have cP:=h.J;have Eo:=cP.le;refine iY func97 ntmps97 ?_;refine ck λjA=>?_;refine ck λkZ=>?_;refine cU λcO=>?_;refine ao (bw (λI hw=>xG cz b1 c I (h.now hw) (ai.now hw)) ?_);rintro v bx a6 rfl cA;refine bg (λh1=>?_) λh1=>?_
 ·rw[amk,ar]at h1;refine aa ?_;refine bQ 0 ?_;refine dZ 81 1 fA ?_;refine dZ 81 1 fA ?_;refine dZ 81 1 fA ?_;refine dZ 81 1 fA ?_;refine dZ 81 1 fA ?_;refine dZ 81 1 fA ?_;refine dZ 81 1 fA ?_;refine dZ 81 1 fA ?_;refine dZ 81 1 fA ?_;refine eR rfl (.dz rfl QJ rfl (.t1 rfl)) [_,_,_,_,_,_,_,_,_] [0,1,2,3,4,5,6,7,8] λI hw=>?_;unfold GK;rw[amn h1];exact⟨_,_,_,_,_,_,_,_,_,⟨kL,kL,kL,kL,kL,kL,kL,kL,kL⟩,rfl,rfl⟩
 rw[amm,aq]at h1;obtain⟨aE,kg⟩:=l5 h1;obtain⟨hb,w0⟩:=lD aE;obtain⟨eP,eE,_,_⟩:=(q2 t c).1 kg;have ZP:su t=t.J.length:=amo aE;have hP:qP t (dK t)=bT t.J.length (dK t):=amo aE;have qA:=lz t.J.length (dK t) hb;have rX:∀k,k<c.co.length->(c.co.getD k default).length<=64:=λk hk=>ani (Wt kg (by omega)) hb;have H2:As t.J.length (bT t.J.length (dK t))=nt t.J.length (bT t.J.length (dK t)):=by unfold As;rw[amo qA];rfl
 have X6:(nt t.J.length (bT t.J.length (dK t))).length<=4096:=ani (Ko _ _) (anh 64 hb);refine aa ?_;refine cU λdv=>?_;refine ao (gr (λI hw=>T2 I (h.now hw)) ?_);rintro v cp es bX ⟨s1,fk,rfl,rfl⟩;rw[ZP,hP];refine aa ?_;refine bQ 1 ?_;refine ao (gr (λI hw=>RO t.J.length s1 (bT t.J.length (dK t)) I (hw.ed) (bp.now hw)) ?_);rintro v hD es gb ⟨iQ,yi,rfl,rfl⟩;rw[H2];generalize aB:nt t.J.length (bT t.J.length (dK t))=l at *;refine aa ?_;refine dZ 178 2 bz ?_;refine b9 (λs:Nat×Value×List b5=>s.1<=l.length/\aD s.2.1/\s.2.2=(l.take s.1).filter (Av t λa b=>decide (a.loc=b.loc))) (λs=>[(52,true,.int .i64 s.1),(51,true,.int .i64 l.length),(50,true,iQ),(12,true,U),(11,true,U),(10,true,U),(9,true,s.2.1),(8,true,ax dv),(7,true,.int .i64 t.J.length),(4,true,ax cO),(3,true,ax kZ),(2,true,ax jA)]) (λs=>Mem [(w,an)] [js s.2.1 s.2.2,js iQ l,.box dv [.int .i64 t.J.length,s1,.int .i64 0,U,.int .i64 0,U,.int .i64 0,U,.int .i64 0,U,.int .i64 0,U,.int .i64 0,U,.int .i64 0,U,.int .i64 0,U] 115,et s1 (bT t.J.length (dK t)),.box cO [.int .i64 0,U,.int .i64 0,U,.int .i64 0,U,.int .i64 0,U,.int .i64 0,U,.int .i64 0,U,.int .i64 0,U,.int .i64 0,U,.int .i64 0,U] 115,.box kZ [cz,b1] 53,.box jA [lv,aj,aN,bv,aK,aX,ae,aU,bE] 41]) (λs=>l.length-s.1) (0,U,[]) ⟨amz _,kL,by simp⟩ ?_ ⟨rfl,rfl,rfl,rfl,rfl,rfl,rfl,rfl,rfl,rfl,rfl,rfl,trivial⟩ (bM [0,1,3,2,4,5,6])
 rintro⟨i,v1,xs⟩ ⟨hi,j6,hxs⟩;dsimp only at hi j6 hxs⊢;have nm:xs.length<=4096:=by rw[hxs];exact ani (anj _ _) (by simp;omega)
 refine bg (λh2=>?_) λh2=>?_
 ·have bF:i<l.length:=by rw[aq]at h2;omega
  have hx:l.getD i default∈nt t.J.length (bT t.J.length (dK t)):=by rw[aB,aml,amp bF];exact anx bF
  obtain⟨g1,g2,g3,g4⟩:=Kp qA _ hx;have gu:l.take (i+1)=l.take i++[l.getD i default]:=take_one (by omega);have Ca:(bO ((bf t (l.getD i default).A.toNat).loc=(bf t (l.getD i default).B.toNat).loc))=Av t (λa b=>decide (a.loc=b.loc)) (l.getD i default):=by rw[ch];rfl
  refine aa ?_;refine cU λBu=>?_;refine bQ 0 ?_;refine cV [0,1,2,3,4,5,6,7,8,9,10,11,12,13,14] mixed ?_;refine aP ?_;refine bg (λh3=>?_) λh3=>?_
  ·rw[Ca]at h3;refine aa ?_;refine ao (eA _ _ (ab:=λv5 om=>aa ?_));refine ao (e6 2 (hk:=rfl) (bG:=by simp;omega) (ab:=λv6 mH=>aa ?_));exact bt (i+1,v6,xs++[l.getD i default]) ⟨by dsimp only;omega,mH,by dsimp only;rw[hxs,gu,anc,anX h3];rfl⟩ (by dsimp only;omega) (hA:=bM [2,3,4,5,6,7,8])
  rw[Ca]at h3;refine aa ?_;exact bt (i+1,v1,xs) ⟨by dsimp only;omega,j6,by dsimp only;rw[hxs,gu,anc,anI (by rw[h3];simp)];simp⟩ (by dsimp only;omega) (hA:=bM [1,2,3,4,5,6,7])
 have hy:i=l.length:=by rw[ar]at h2;omega
 have Cn:xs=yW t (λa b=>decide (a.loc=b.loc)) t.J.length (bT t.J.length (dK t)):=by rw[hxs,hy,amU];unfold yW;rw[aB]
 refine aa ?_;refine dZ 178 2 bz ?_;refine b9 (λs:Nat×Value×List b5=>s.1<=c.co.length/\aD s.2.1/\s.2.2=ps c s.1) (λs=>[(79,true,.int .i64 s.1),(78,true,.int .i64 rn.length),(77,true,b1),(12,true,U),(11,true,s.2.1),(10,true,U),(9,true,v1),(8,true,ax dv),(7,true,.int .i64 t.J.length),(4,true,ax cO),(3,true,ax kZ),(2,true,ax jA)]) (λs=>Mem [(w,an)] [js s.2.1 s.2.2,js v1 xs,.box dv [.int .i64 t.J.length,s1,.int .i64 0,U,.int .i64 0,U,.int .i64 0,U,.int .i64 0,U,.int .i64 0,U,.int .i64 0,U,.int .i64 0,U,.int .i64 0,U] 115,et s1 (bT t.J.length (dK t)),.box cO [.int .i64 0,U,.int .i64 0,U,.int .i64 0,U,.int .i64 0,U,.int .i64 0,U,.int .i64 0,U,.int .i64 0,U,.int .i64 0,U,.int .i64 0,U] 115,.box kZ [cz,b1] 53,.box jA [lv,aj,aN,bv,aK,aX,ae,aU,bE] 41]) (λs=>c.co.length-s.1) (0,U,[]) ⟨amz _,kL,rfl⟩ ?_ ⟨rfl,rfl,rfl,rfl,rfl,rfl,rfl,rfl,rfl,rfl,rfl,rfl,trivial⟩ (bM [0,1,3,4,5,6,7])
 rintro⟨k,v2,ys⟩ ⟨hk,iM,iz⟩;dsimp only at hk iM iz⊢;have ako:=Ho k λj ad=>rX j (by omega);refine bg (λh3=>?_) λh3=>?_
 ·have dw:k<c.co.length:=by rw[aq]at h3;omega
  have c6:=ET k dw;have zx:=rX k dw;refine aa ?_;refine b9 (λs:Nat×Value×List b5=>s.1<=(c.co.getD k default).length/\aD s.2.1/\s.2.2=ps c k++sl (c.co.getD k default) s.1) (λs=>[(85,true,.int .i64 s.1),(84,true,.int .i64 (c.co.getD k default).length),(83,true,rn.getD k default),(79,true,.int .i64 k),(78,true,.int .i64 rn.length),(77,true,b1),(18,true,rn.getD k default),(12,true,U),(11,true,s.2.1),(10,true,U),(9,true,v1),(8,true,ax dv),(7,true,.int .i64 t.J.length),(4,true,ax cO),(3,true,ax kZ),(2,true,ax jA)]) (λs=>Mem [(w,an)] [js s.2.1 s.2.2,js v1 xs,.box dv [.int .i64 t.J.length,s1,.int .i64 0,U,.int .i64 0,U,.int .i64 0,U,.int .i64 0,U,.int .i64 0,U,.int .i64 0,U,.int .i64 0,U,.int .i64 0,U] 115,et s1 (bT t.J.length (dK t)),.box cO [.int .i64 0,U,.int .i64 0,U,.int .i64 0,U,.int .i64 0,U,.int .i64 0,U,.int .i64 0,U,.int .i64 0,U,.int .i64 0,U,.int .i64 0,U] 115,.box kZ [cz,b1] 53,.box jA [lv,aj,aN,bv,aK,aX,ae,aU,bE] 41]) (λs=>(c.co.getD k default).length-s.1) (0,v2,ys) ⟨amz _,iM,by dsimp only;rw[iz];simp[sl]⟩ ?_
  rintro⟨a,v3,zs⟩ ⟨au,pC,pD⟩;dsimp only at au pC pD⊢;have kC:=Ky zx a;refine bg (λaC=>?_) λaC=>?_
  ·have c5:a<(c.co.getD k default).length:=by rw[aq]at aC;omega
   have kE:aV an w bd 1 (gU 1 (a+1) (c.co.getD k default).length (rn.getD k default)) ((c.co.getD k default).drop (a+1)):=by have:=c6.sub (a+1) (c.co.getD k default).length (by omega) (amK _);rwa[amU]at this
   have ZJ:=kE.le;refine aa ?_;refine dg (Sn (h:=c6) (h0:=by omega) (hb:=by omega)) (ab:=?_);rw[show((a:Int)+1).toNat=a+1 by omega];refine aa ?_;refine b9 (λs:Nat×Value×List b5=>s.1<=((c.co.getD k default).drop (a+1)).length/\aD s.2.1/\s.2.2=ps c k++sl (c.co.getD k default) a++(((c.co.getD k default).drop (a+1)).take s.1).map λb=>⟨(c.co.getD k default).getD a default,b⟩) (λs=>[(95,true,.int .i64 s.1),(94,true,.int .i64 ((c.co.getD k default).drop (a+1)).length),(93,true,gU 1 (a+1) (c.co.getD k default).length (rn.getD k default)),(85,true,.int .i64 a),(84,true,.int .i64 (c.co.getD k default).length),(83,true,rn.getD k default),(79,true,.int .i64 k),(78,true,.int .i64 rn.length),(77,true,b1),(20,true,.int .i64 ((c.co.getD k default).getD a default)),(18,true,rn.getD k default),(12,true,U),(11,true,s.2.1),(10,true,U),(9,true,v1),(8,true,ax dv),(7,true,.int .i64 t.J.length),(4,true,ax cO),(3,true,ax kZ),(2,true,ax jA)]) (λs=>Mem [(w,an)] [js s.2.1 s.2.2,js v1 xs,.box dv [.int .i64 t.J.length,s1,.int .i64 0,U,.int .i64 0,U,.int .i64 0,U,.int .i64 0,U,.int .i64 0,U,.int .i64 0,U,.int .i64 0,U,.int .i64 0,U] 115,et s1 (bT t.J.length (dK t)),.box cO [.int .i64 0,U,.int .i64 0,U,.int .i64 0,U,.int .i64 0,U,.int .i64 0,U,.int .i64 0,U,.int .i64 0,U,.int .i64 0,U,.int .i64 0,U] 115,.box kZ [cz,b1] 53,.box jA [lv,aj,aN,bv,aK,aX,ae,aU,bE] 41]) (λs=>((c.co.getD k default).drop (a+1)).length-s.1) (0,v3,zs) ⟨amz _,pC,by dsimp only;rw[pD];simp⟩ ?_
   rintro⟨q,v4,us⟩ ⟨aZ,vE,vC⟩;dsimp only at aZ vE vC⊢;have Jf:us.length<=300000:=by rw[vC,ams,ams,amD,amX,anD];omega
   refine bg (λaW=>?_) λaW=>?_
   ·have oT:q<((c.co.getD k default).drop (a+1)).length:=by rw[aq]at aW;omega
    have gu:((c.co.getD k default).drop (a+1)).take (q+1)=((c.co.getD k default).drop (a+1)).take q++[((c.co.getD k default).drop (a+1)).getD q default]:=take_one (by omega);refine aa ?_;refine ao (eA _ _ (ab:=λv5 om=>aa ?_));refine ao (e6 1 (hk:=rfl) (bG:=by simp only[List.map,amI,amW];omega) (ab:=λv6 mH=>aa ?_));exact bt (q+1,v6,us++[(⟨(c.co.getD k default).getD a default,((c.co.getD k default).drop (a+1)).getD q default⟩:b5)]) ⟨by dsimp only;omega,mH,by dsimp only;rw[vC,gu,ane,amJ];rfl⟩ (by dsimp only;omega) (hA:=λ_ h=>(h.last rfl).tail)
   have IZ:q=((c.co.getD k default).drop (a+1)).length:=by rw[ar]at aW;omega
   refine aa ?_;exact bt (a+1,v4,us) ⟨by dsimp only;omega,vE,by dsimp only;rw[vC,IZ,amU,RX,amJ];rfl⟩ (by dsimp only;omega) (hA:=c7)
  have Ye:a=(c.co.getD k default).length:=by rw[ar]at aC;omega
  refine aa ?_;exact bt (k+1,v3,zs) ⟨by dsimp only;omega,pC,by dsimp only;rw[pD,Ye,No]⟩ (by dsimp only;omega) (hA:=c7)
 have gY:k=c.co.length:=by rw[ar]at h3;omega
 have P6:ys=ps c c.co.length:=by rw[iz,gY]
 refine aa ?_;refine dZ 178 2 bz ?_;refine dZ 178 2 bz ?_;refine b9 (λs:Nat×(Value×List b5)×(Value×List b5)=>s.1<=t.J.length/\(aD s.2.1.1/\s.2.1.2=rT t c s.1)/\aD s.2.2.1/\s.2.2.2=sq t c s.1) (λs=>[(111,true,.int .i64 s.1),(110,true,.int .i64 t.J.length),(109,true,aN),(12,true,s.2.1.1),(11,true,v2),(10,true,s.2.2.1),(9,true,v1),(8,true,ax dv),(7,true,.int .i64 t.J.length),(4,true,ax cO),(3,true,ax kZ),(2,true,ax jA)]) (λs=>Mem [(w,an)] [js s.2.1.1 s.2.1.2,js s.2.2.1 s.2.2.2,js v2 ys,js v1 xs,.box dv [.int .i64 t.J.length,s1,.int .i64 0,U,.int .i64 0,U,.int .i64 0,U,.int .i64 0,U,.int .i64 0,U,.int .i64 0,U,.int .i64 0,U,.int .i64 0,U] 115,et s1 (bT t.J.length (dK t)),.box cO [.int .i64 0,U,.int .i64 0,U,.int .i64 0,U,.int .i64 0,U,.int .i64 0,U,.int .i64 0,U,.int .i64 0,U,.int .i64 0,U,.int .i64 0,U] 115,.box kZ [cz,b1] 53,.box jA [lv,aj,aN,bv,aK,aX,ae,aU,bE] 41]) (λs=>t.J.length-s.1) (0,(U,[]),(U,[])) ⟨amz _,⟨kL,rfl⟩,kL,rfl⟩ ?_
 rintro⟨r,⟨v3,fG⟩,⟨v4,rs⟩⟩ ⟨aH,⟨pC,k2⟩,vE,ig⟩;dsimp only at aH pC k2 vE ig⊢;refine bg (λaC=>?_) λaC=>?_
 ·have c5:r<t.J.length:=by rw[aq]at aC;omega
  have ai7:r<c.br.length:=by omega
  obtain⟨p,hp,kC⟩:=tw aE c5;have Ik:=tR (c:=c) hp;have H0:=ET p (by omega);have ajG:=rX p (by omega);have x6:=Oy (t:=t) (c:=c) r (λj ad=>by obtain⟨mO,uh,ajS⟩:=tw aE (show j<t.J.length by omega);rw[tR (c:=c) uh];exact rX mO (by omega));have Zw:=SK t c r;have aj2:rs.length<=64:=by rw[ig];omega
  have ajy:fG.length<=4096:=by rw[k2];omega
  have ti:(t.J.getD r default).loc=(p:Int):=hp;have ajR:p<rn.length:=by omega
  refine aa ?_;refine cU λbe=>?_;refine bQ 0 ?_;refine bA (λaW=>?_) λaW=>?_
  ·rw[amk,ar]at aW;refine aa ?_;exact bt (r+1,(v3,fG),(v4,rs)) ⟨by dsimp only;omega,⟨pC,by dsimp only;rw[k2,HS];unfold xT;rw[amn aW,amB]⟩,vE,by dsimp only;rw[ig,Ge];unfold xm;rw[amn λeO=>aW eO.1,amB]⟩ (by dsimp only;omega) (hA:=iG)
  rw[amm,aq]at aW;refine aa ?_;refine h7 (λs:Value×List b5=>aD s.1/\s.2=sq t c (r+1)) (λs=>[(111,true,.int .i64 r),(110,true,.int .i64 t.J.length),(109,true,aN),(24,true,ax be),(23,true,.int .i64 r),(12,true,v3),(11,true,v2),(10,true,s.1),(9,true,v1),(8,true,ax dv),(7,true,.int .i64 t.J.length),(4,true,ax cO),(3,true,ax kZ),(2,true,ax jA)]) (λs=>Mem [(w,an)] [.box be (ec (bf t r)) 138,js v3 fG,js s.1 s.2,js v2 ys,js v1 xs,.box dv [.int .i64 t.J.length,s1,.int .i64 0,U,.int .i64 0,U,.int .i64 0,U,.int .i64 0,U,.int .i64 0,U,.int .i64 0,U,.int .i64 0,U,.int .i64 0,U] 115,et s1 (bT t.J.length (dK t)),.box cO [.int .i64 0,U,.int .i64 0,U,.int .i64 0,U,.int .i64 0,U,.int .i64 0,U,.int .i64 0,U,.int .i64 0,U,.int .i64 0,U,.int .i64 0,U] 115,.box kZ [cz,b1] 53,.box jA [lv,aj,aN,bv,aK,aX,ae,aU,bE] 41]) ?_ ?_
  ·refine bA (λcM=>?_) λcM=>?_
   ·rw[aq]at cM;refine aa ?_;refine ao (eA _ _ (ab:=λv5 om=>aa ?_));refine ao (e6 3 (hk:=rfl) (bG:=by simp only[List.map,amI,amW];omega) (ab:=λv6 mH=>aa ?_));exact bZ (v6,rs++[(⟨c.br.getD r default,(r:Int)⟩:b5)]) ⟨mH,by dsimp only;rw[ig,Ge];unfold xm;rw[amo ⟨aW,cM⟩]⟩ (hA:=iG)
   rw[ar]at cM;refine aa ?_;exact bZ (v4,rs) ⟨vE,by dsimp only;rw[ig,Ge];unfold xm;rw[amn λeO=>cM eO.2,amB]⟩
  rintro⟨v5,SR⟩ ⟨om,I2⟩;dsimp only at om I2⊢;have EH:=Cw (c.co.getD p default) (c.br.getD r default);have ajC:eF (c.co.getD p default) (c.br.getD r default)+1<=(c.co.getD p default).length:=by
   by_cases hm:c.br.getD r default∈c.co.getD p default
   ·have:=Cx hm;omega
   unfold eF;rw[amn hm];omega
  refine aa ?_;have Zn:(t.J.getD r default).loc.toNat=p:=by omega
  have O8:p0 t c r=(c.co.getD p default).drop (eF (c.co.getD p default) (c.br.getD r default)+1).toNat:=by unfold p0;rw[Ik]
  have kE:aV an w bd 1 (gU 1 (eF (c.co.getD p default) (c.br.getD r default)+1).toNat (c.co.getD p default).length (rn.getD p default)) (p0 t c r):=by have:=H0.sub (eF (c.co.getD p default) (c.br.getD r default)+1).toNat (c.co.getD p default).length (by omega) (amK _);rw[amU]at this;rw[O8];exact this
  have ZJ:(p0 t c r).length<=64:=by rw[O8,anD];omega
  rw[Zn];refine ao (bw (λI hw=>Tu (rn.getD p default) (c.br.getD r default) I (c.co.getD p default) (hw.now H0)) ?_);rintro v jI jJ rfl zQ;refine aa ?_;refine dg (Sn (h:=H0) (h0:=by omega) (hb:=by omega)) (ab:=?_);generalize gZ:gU 1 (eF (c.co.getD p default) (c.br.getD r default)+1).toNat (c.co.getD p default).length (rn.getD p default)=fl at *;refine aa ?_;refine b9 (λs:Nat×Value×List b5=>s.1<=(p0 t c r).length/\aD s.2.1/\s.2.2=rT t c r++((p0 t c r).take s.1).map λw=>⟨(r:Int),w⟩) (λs=>[(152,true,.int .i64 s.1),(151,true,.int .i64 (p0 t c r).length),(150,true,fl),(111,true,.int .i64 r),(110,true,.int .i64 t.J.length),(109,true,aN),(23,true,.int .i64 r),(12,true,s.2.1),(11,true,v2),(10,true,v5),(9,true,v1),(8,true,ax dv),(7,true,.int .i64 t.J.length),(4,true,ax cO),(3,true,ax kZ),(2,true,ax jA)]) (λs=>Mem [(w,an)] [.box be (ec (bf t r)) 138,js s.2.1 s.2.2,js v5 SR,js v2 ys,js v1 xs,.box dv [.int .i64 t.J.length,s1,.int .i64 0,U,.int .i64 0,U,.int .i64 0,U,.int .i64 0,U,.int .i64 0,U,.int .i64 0,U,.int .i64 0,U,.int .i64 0,U] 115,et s1 (bT t.J.length (dK t)),.box cO [.int .i64 0,U,.int .i64 0,U,.int .i64 0,U,.int .i64 0,U,.int .i64 0,U,.int .i64 0,U,.int .i64 0,U,.int .i64 0,U,.int .i64 0,U] 115,.box kZ [cz,b1] 53,.box jA [lv,aj,aN,bv,aK,aX,ae,aU,bE] 41]) (λs=>(p0 t c r).length-s.1) (0,v3,fG) ⟨amz _,pC,by dsimp only;rw[k2];simp⟩ ?_ ⟨rfl,rfl,rfl,rfl,rfl,rfl,rfl,rfl,rfl,rfl,rfl,rfl,rfl,rfl,rfl,rfl,trivial⟩ c7
  rintro⟨q,v6,us⟩ ⟨aZ,mH,vC⟩;dsimp only at aZ mH vC⊢;have Jf:us.length<=5000:=by rw[vC,ams,amD,amX];omega
  refine bg (λef=>?_) λef=>?_
  ·have jl:q<(p0 t c r).length:=by rw[aq]at ef;omega
   refine aa ?_;refine ao (eA _ _ (ab:=λuQ sb=>aa ?_));refine ao (e6 2 (hk:=rfl) (bG:=by simp only[List.map,amI,amW];omega) (ab:=λtF Ck=>aa ?_));exact bt (q+1,tF,us++[(⟨(r:Int),(p0 t c r).getD q default⟩:b5)]) ⟨by dsimp only;omega,Ck,by dsimp only;rw[vC,take_one jl,ane,amJ];rfl⟩ (by dsimp only;omega) (hA:=iG)
  have IZ:q=(p0 t c r).length:=by rw[ar]at ef;omega
  refine aa ?_;exact bt (r+1,(v6,us),(v5,SR)) ⟨by dsimp only;omega,⟨mH,by dsimp only;rw[vC,IZ,amU,HS];unfold xT;rw[amo aW]⟩,om,by dsimp only;rw[I2]⟩ (by dsimp only;omega) (hA:=iG)
 have I1:r=t.J.length:=by rw[ar]at aC;omega
 have O9:fG=rT t c t.J.length:=by rw[k2,I1]
 have Cd:rs=sq t c t.J.length:=by rw[ig,I1]
 clear k2 ig iz hxs;refine aa ?_;refine ao (gS (a7:=λI hw=>Am hb v1 xs I (hw.ed) (by rw[Cn];exact Tt qA)) (ab:=?_));rintro v pG es pO ⟨s2,jQ,rfl,rfl⟩;refine aa ?_;refine bQ 5 ?_;refine ao (gS (a7:=λI hw=>Am hb v4 rs I (hw.ed) (by rw[Cd];exact aff aE kg)) (ab:=?_));rintro v n6 es tG ⟨cy,j4,rfl,rfl⟩;refine aa ?_;refine bQ 6 ?_;refine ao (gS (a7:=λI hw=>Am hb v2 ys I (hw.ed) (by rw[P6];exact Ws aE kg)) (ab:=?_));rintro v n7 es A6 ⟨dd,k4,rfl,rfl⟩;refine aa ?_;refine bQ 7 ?_;refine ao (gS (a7:=λI hw=>Am hb v3 fG I (hw.ed) (by rw[O9];exact XA aE kg)) (ab:=?_));rintro v n8 es ah5 ⟨dP,lN,rfl,rfl⟩;refine aa ?_;refine ao (bD 8 (ab:=?_));have cd:bT t.J.length (kp xs)=bT t.J.length (sj t):=qM λi j hi ad=>by rw[Cn,Rb hi,uE _ _ hb i j hi ad];rfl
 have hY:bT t.J.length (kp rs)=bT t.J.length (iR t c):=qM λi j hi ad=>by rw[Cd,acg aE kg ad]
 have rN:bT t.J.length (kp ys)=bT t.J.length (hX t c):=qM λi j hi ad=>by rw[P6,acd aE kg hi]
 have WV:bT t.J.length (kp fG)=bT t.J.length (jD t c):=qM λi j hi ad=>by rw[O9,ace aE kg hi]
 rw[cd,hY,rN,WV];refine aa ?_;refine cJ (Mem [(w,an)] [.box dv [.int .i64 t.J.length,s1,.int .i64 t.J.length,s2,.int .i64 t.J.length,cy,.int .i64 0,U,.int .i64 t.J.length,dd,.int .i64 0,U,.int .i64 t.J.length,dP,.int .i64 0,U,.int .i64 0,U] 115,et s1 (bT t.J.length (dK t)),et s2 (bT t.J.length (sj t)),et cy (bT t.J.length (iR t c)),et dd (bT t.J.length (hX t c)),et dP (bT t.J.length (jD t c)),.box cO [.int .i64 0,U,.int .i64 0,U,.int .i64 0,U,.int .i64 0,U,.int .i64 0,U,.int .i64 0,U,.int .i64 0,U,.int .i64 0,U,.int .i64 0,U] 115,.box kZ [cz,b1] 53,.box jA [lv,aj,aN,bv,aK,aX,ae,aU,bE] 41]) (bM [8,9,3,2,1,0,10,11,12]) ?_;refine fs (λI=>∃x:Value×Value×Value×Value×Value×Value,Mem [(w,an)] [.box dv [.int .i64 t.J.length,s1,.int .i64 t.J.length,s2,.int .i64 t.J.length,cy,x.1,x.2.1,.int .i64 t.J.length,dd,x.2.2.1,x.2.2.2.1,.int .i64 t.J.length,dP,x.2.2.2.2.1,x.2.2.2.2.2,.int .i64 0,U] 115,.box jA [lv,aj,aN,bv,aK,aX,ae,aU,bE] 41] I) [0,1,2,4,5,6,8,9,10,3,12,7,11,13,14,15,16,17] mixed (λ_ h=>⟨(.int .i64 0,U,.int .i64 0,U,.int .i64 0,U),h.cm [0,8]⟩) ?_;refine jb (v:=.agg #[lv,aj,aN,bv,aK,aX,ae,aU,bE]) (h:=?_) (ab:=?_)
 ·exact Ay λ_=>nX (yO (hm:=.tail _ aL)) rfl
 refine aP ?_;refine jb (v:=.agg #[.int .i64 t.J.length,cy]) (h:=?_) (ab:=?_)
 ·exact Ay λ_=>nX (yO (hm:=.head _)) rfl
 refine jb (v:=.agg #[lv,aj,aN,bv,aK,aX,ae,aU,bE]) (h:=?_) (ab:=?_)
 ·exact Ay λ_=>nX (yO (hm:=.tail _ aL)) rfl
 refine aP ?_;refine jb (v:=.agg #[.int .i64 t.J.length,dd]) (h:=?_) (ab:=?_)
 ·exact Ay λ_=>nX (yO (hm:=.head _)) rfl
 refine jb (v:=.agg #[lv,aj,aN,bv,aK,aX,ae,aU,bE]) (h:=?_) (ab:=?_)
 ·exact Ay λ_=>nX (yO (hm:=.tail _ aL)) rfl
 refine aP ?_;refine jb (v:=.agg #[.int .i64 t.J.length,dP]) (h:=?_) (ab:=?_)
 ·exact Ay λ_=>nX (yO (hm:=.head _)) rfl
 refine aP ?_;refine bL _ (h:=gr (λI hw=>apart_spec cy (bT t.J.length (iR t c)) I (h.now hw) (hw.ed) (lz _ _ hb) (bp.now hw)) ?_);rintro v akM es amf ⟨dq,j5,rfl,rfl⟩;refine aF (aP ?_) λ_ h=>⟨(.int .i64 0,U,.int .i64 0,U,.int .i64 0,U),(h.last rfl).cm [1,9]⟩;refine bL _ (h:=gr (λI hw=>apart_spec dd (bT t.J.length (hX t c)) I (h.now hw) (hw.ed) (lz _ _ hb) (bp.now hw)) ?_);rintro v n10 es alN ⟨ep,mc,rfl,rfl⟩;refine aF (aP ?_) λ_ h=>⟨(.int .i64 0,U,.int .i64 0,U,.int .i64 0,U),(h.last rfl).cm [2,10]⟩;refine bL _ (h:=gr (λI hw=>apart_spec dP (bT t.J.length (jD t c)) I (h.now hw) (hw.ed) (lz _ _ hb) (bp.now hw)) ?_);rintro v n11 es alP ⟨ff,me,rfl,rfl⟩;refine aF (aP ?_) λ_ h=>⟨(.int .i64 0,U,.int .i64 0,U,.int .i64 0,U),(h.last rfl).cm [3,11]⟩;refine bL _ (h:=bD 3 (ab:=?_));refine aF (aP ?_) λ_ h=>⟨(.int .i64 t.J.length,dq,.int .i64 0,U,.int .i64 0,U),(h.last rfl).cm [3,11]⟩;refine bL _ (h:=bD 3 (ab:=?_));refine aF (aP ?_) λ_ h=>⟨(.int .i64 t.J.length,dq,.int .i64 t.J.length,ep,.int .i64 0,U),(h.last rfl).cm [3,11]⟩;refine hz (h:=bD 3 (ab:=?_));rw[KV hb,KV hb,KV hb];refine cJ (Mem [(w,an)] [.box dv [.int .i64 t.J.length,s1,.int .i64 t.J.length,s2,.int .i64 t.J.length,cy,.int .i64 t.J.length,dq,.int .i64 t.J.length,dd,.int .i64 t.J.length,ep,.int .i64 t.J.length,dP,.int .i64 t.J.length,ff,.int .i64 0,U] 115,et dq (bT t.J.length (ke t (iR t c))),et ep (bT t.J.length (ke t (hX t c))),et ff (bT t.J.length (ke t (jD t c))),et s1 (bT t.J.length (dK t)),et s2 (bT t.J.length (sj t)),et cy (bT t.J.length (iR t c)),et dd (bT t.J.length (hX t c)),et dP (bT t.J.length (jD t c)),.box cO [.int .i64 0,U,.int .i64 0,U,.int .i64 0,U,.int .i64 0,U,.int .i64 0,U,.int .i64 0,U,.int .i64 0,U,.int .i64 0,U,.int .i64 0,U] 115,.box kZ [cz,b1] 53,.box jA [lv,aj,aN,bv,aK,aX,ae,aU,bE] 41]) (bM [3,2,1,0,4,5,6,7,8,9,10,11]) (aa ?_);refine ao (gr (λI hw=>A2 (lz _ (iR t c) hb) (lz _ (hX t c) hb) (hw.ed) (hw.ed)) ?_);rintro v n12 es alR ⟨fy,mG,rfl,rfl⟩;rw[AI hb];refine aa ?_;refine bQ 1 ?_;refine ao (gr (λI hw=>A2 (lz _ (λi j=>iR t c i j||hX t c i j) hb) (lz _ (jD t c) hb) (hw.ed) (hw.ed)) ?_);rintro v n13 es alS ⟨afP,ZC,rfl,rfl⟩;rw[AI hb];refine aa ?_;refine bQ 2 ?_;refine bQ 11 ?_;refine eR rfl (.dz rfl Fz rfl (.t1 rfl)) [_,_,_,_,_,_,_,_,_] [6,7,8,3,9,4,10,5,0] λI hw=>?_;unfold GK;rw[amo h1];refine⟨s1,s2,cy,dq,dd,ep,dP,ff,afP,⟨fk,jQ,j4,j5,k4,mc,lN,me,ZC⟩,?_,rfl⟩;rw[h1];rfl
end Go.Proofs.bK
namespace Go.gH
def agw(p:Nat->Nat->Bool)(m s n:Nat)(f:Nat->Nat)(i:Nat):Bool:=if n=0 then p i s else(List.range m).any λj=>decide (s<j)&&p i j&&decide (f j=n)
def dl(p:Nat->Nat->Bool)(m s:Nat):Nat->Nat->Nat
 | 0=>λ_=>0
 | n+1=>λi=>if dl p m s n i≠0 then dl p m s n i else if(decide (s<=i)&&decide (i<m)&&agw p m s n (dl p m s n) i)=true then n+1 else 0
section
variable {p:Nat->Nat->Bool} {m s:Nat}
def lv(p:Nat->Nat->Bool)(m s n q i:Nat):Nat:=if i<q then dl p m s (n+1) i else dl p m s n i
end
end Go.gH
namespace Go.Proofs.bK
def Dx(xs:List Int)(e:Int):Nat->Value->List aA->World->Prop:=λ_ v es _=>∃iQ,aD iQ/\v=.tuple #[iQ,.int .i64 e]/\es=[Aq iQ xs]
end Go.Proofs.bK
namespace Go.gH
def pH(m:Nat)(p:Nat->Nat->Bool)(l:List Nat):Option Nat:=(List.range m).find? λi=>decide (i∉l)&&(List.range m).all λq=>decide (q∈l)||!p q i
def jT(m:Nat)(p:Nat->Nat->Bool):Nat->List Nat
 | 0=>[]
 | n+1=>match pH m p (jT m p n)with
  | some i=>jT m p n++[i]
  | none=>jT m p n
section
variable {m:Nat} {p:Nat->Nat->Bool}
theorem Rj{l:List Nat}{i:Nat}(h:pH m p l=some i):i<m/\i∉l/\∀q,q<m->p q i=true->q∈l:=by
 unfold pH at h;have h1:=List.find?_some h;have h2:=List.mem_of_find?_eq_some h;simp only[ami,amj,ank,amr,amk,amH]at h1 h2;refine⟨h2,h1.1,λq aZ hp=>?_⟩;rcases h1.2 q aZ with h3 | h3
 ·exact h3
 rw[hp]at h3;cases h3
theorem acI{l:List Nat}(h:pH m p l=none)(i:Nat)(hi:i<m)(aB:i∉l):∃q,q<m/\q∉l/\p q i=true:=by unfold pH at h;rw[List.find?_eq_none]at h;have h1:=h i (amH.2 hi);simp only[ami,amj,not_and,anK,List.all_eq_false,amH]at h1;obtain⟨q,aZ,h2⟩:=h1 aB;simp only[anK,amt,amu,amm]at h2;exact⟨q,aZ,h2.1,h2.2⟩
structure rM(m:Nat)(p:Nat->Nat->Bool)(l:List Nat):Prop where
 nodup:l.Nodup
 lt:∀x,x∈l->x<m
 prec:∀(a x:Nat),l[a]?=some x->∀q,q<m->p q x=true->∃b,b<a/\l[b]?=some q
theorem rM.nil:rM m p []:=⟨List.nodup_nil,λ_ h=>(by cases h),λ_ _ h=>by simp at h⟩
theorem rM.snoc{l:List Nat}{i:Nat}(h:rM m p l)(bh:pH m p l=some i):rM m p (l++[i]):=by
 obtain⟨h1,h2,h3⟩:=Rj bh;refine⟨?_,λx hx=>?_,λa x hx q aZ hp=>?_⟩
 ·rw[aoW];exact⟨h.nodup,by simp,λa au b hb=>by rw[amv]at hb;subst hb;exact λe=>h2 (e▸au)⟩
 ·rw[amA,amv]at hx;rcases hx with hx | rfl
  ·exact h.lt x hx
  exact h1
 by_cases au:a<l.length
 ·rw[amM au]at hx;obtain⟨b,hb,Ym⟩:=h.prec a x hx q aZ hp;exact⟨b,hb,by rw[amM (by omega)];exact Ym⟩
 rw[amL (by omega)]at hx;by_cases h0:a-l.length=0
 ·rw[h0]at hx;obtain rfl:i=x:=by simpa using hx
  obtain⟨b,hb⟩:=anv (h3 q aZ hp);have lj:b<l.length:=(amV.1 hb).1;exact⟨b,by omega,by rw[amM lj];exact hb⟩
 rw[amR (by simp;omega)]at hx;cases hx
theorem abl(n:Nat):rM m p (jT m p n):=by
 induction n with
 | zero=>exact .nil
 | succ n bH=>
  show rM m p (match pH m p (jT m p n)with | some i=>jT m p n++[i] | none=>jT m p n);cases h:pH m p (jT m p n)with
  | none=>exact bH
  | some i=>exact bH.snoc h
theorem cover:∀(m:Nat) (l:List Nat),l.length<m->∃x,x<m/\x∉l
 | 0,l,h=>by omega
 | m+1,l,h=>by
  by_cases hm:m∈l
  ·have h1:=List.length_erase_of_mem hm;have h2:0<l.length:=List.length_pos_of_mem hm;obtain⟨x,hx,nm⟩:=cover m (l.erase m) (by omega);exact⟨x,by omega,λai=>nm ((List.mem_erase_of_ne (by omega)).2 ai)⟩
  exact⟨m,by omega,hm⟩
theorem bound:∀(m:Nat) (l:List Nat),l.Nodup->(∀x,x∈l->x<m)->l.length<=m
 | 0,l,_,h=>by
  cases l with
  | nil=>simp
  | cons x l=>have:=h x aL;omega
 | m+1,l,bh,h=>by
  by_cases hm:m∈l
  ·have h1:=List.length_erase_of_mem hm;have:=bound m (l.erase m) (bh.erase m) (λx hx=>by
    have h2:=h x (List.mem_of_mem_erase hx);have h3:x≠m:=λe=>by subst e;exact(List.Nodup.not_mem_erase bh) hx
    omega)
   omega
  have:=bound m l bh (λx hx=>by have h2:=h x hx;have h3:x≠m:=λe=>hm (e▸hx);omega)
  omega
theorem rM.all{l:List Nat}(h:rM m p l)(aB:l.length=m)(i:Nat)(hi:i<m):i∈l:=by
 apply amT;intro bh;have:=bound m (i::l) (List.nodup_cons.2 ⟨bh,h.nodup⟩) (λx hx=>by
  rcases amG.1 hx with rfl | hx
  ·exact hi
  exact h.lt x hx)
 simp at this;omega
theorem NA{f g:Nat->Bool}:∀{L:List Nat},(∀x,x∈L->f x=true->g x=true)->(∃y,y∈L/\g y=true/\f y=false)->L.countP f<L.countP g
 | [],_,⟨y,aR,_⟩=>by cases aR
 | x::L,h1,⟨y,aR,ay,hf⟩=>by
  rw[List.countP_cons,List.countP_cons];have hle:L.countP f<=L.countP g:=List.countP_mono_left λz aY YK=>h1 z (.tail _ aY) YK;rcases amG.1 aR with rfl | aR
  ·rw[ay,hf];simp;omega
  have:=NA (λz aY=>h1 z (.tail _ aY)) ⟨y,aR,ay,hf⟩;have h2:=h1 x aL;cases YJ:f x
  ·simp;split<;>omega
  rw[h2 YJ];simp;omega
end
theorem stuck{m:Nat}{rows:List W}(ok:fx m rows=true){l:List Nat}(aB:l.length<m)(bh:pH m (aT rows) l=none):∃i,i<m/\l1 (aT rows) i i:=by
 obtain⟨x,hx,nm⟩:=cover m l aB
 let c:Nat->Nat:=λj=>(List.range m).countP λq=>decide (q∉l)&&aT (tQ m rows) q j
 have key:∀k j,c j=k->j<m->j∉l->∃i,i<m/\l1 (aT rows) i i:=by
  intro k
  induction k using Nat.strongRecOn with
  | ind k bH=>
   intro j ai ad fZ;obtain⟨q,aZ,r9,hp⟩:=acI bh j ad fZ;by_cases PA:l1 (aT rows) q q
   ·exact⟨q,aZ,PA⟩
   refine bH (c q) ?_ q rfl aZ r9;rw[<-ai];refine NA (λz _ aY=>?_) ⟨q,amH.2 aZ,?_,?_⟩
   ·simp only[ami,amj]at aY⊢;refine⟨aY.1,?_⟩;rw[Bz ok]at aY⊢;exact .more aY.2 hp
   ·simp only[ami,amj];exact⟨r9,by rw[Bz ok];exact .one hp⟩
   have:aT (tQ m rows) q q=false:=by rw[amP];intro h;rw[Bz ok]at h;exact PA h
   rw[this,anM]
 exact key _ x rfl hx nm
theorem LM{m:Nat}{rows:List W}(ok:fx m rows=true):rB m rows=true↔∃i,i<m/\l1 (aT rows) i i:=by
 unfold rB;rw[anl];constructor
 ·rintro⟨i,hi,h⟩;exact⟨i,amH.1 hi,(Bz ok i i).1 h⟩
 rintro⟨i,hi,h⟩;exact⟨i,amH.2 hi,(Bz ok i i).2 h⟩
theorem abk{m:Nat}{rows:List W}(ok:fx m rows=true)(aE:rB m rows=false)(n:Nat)(bh:n<=m):(jT m (aT rows) n).length=n:=by
 induction n with
 | zero=>rfl
 | succ n bH=>
  have bH:=bH (by omega);show(match pH m (aT rows) (jT m (aT rows) n)with | some i=>jT m (aT rows) n++[i] | none=>jT m (aT rows) n).length=n+1;cases h:pH m (aT rows) (jT m (aT rows) n)with
  | some i=>simp[bH]
  | none=>have:=(LM ok).2 (stuck ok (by omega) h);rw[aE]at this;cases this
theorem VJ(rows:List W)(dA:W)(n i:Nat):(u9 rows dA n).getLsbD i=(List.range n).any λq=>!dA.getLsbD q&&aT rows q i:=by
 induction n with
 | zero=>simp[u9]
 | succ n bH=>
  rw[MT,am6,List.any_append];by_cases h:dA.getLsbD n=true
  ·rw[amo h,bH];simp[h]
  rw[amn h,anW,bH];have cr:dA.getLsbD n=false:=by simpa using h
  simp[cr,aT]
theorem abF{m:Nat}{rows:List W}(fH:m<=64)(n:Nat):(rj m rows n).2=(jT m (aT rows) n).map (λ(i:Nat)=>(i:Int))/\∀j,(rj m rows n).1.getLsbD j=decide (j∈jT m (aT rows) n):=by
 induction n with
 | zero=>simp[rj,jT]
 | succ n bH=>
  obtain⟨P7,Fb⟩:=bH;have EB:xU m ((rj m rows n).1||| u9 rows (rj m rows n).1 m)=pH m (aT rows) (jT m (aT rows) n):=by
   unfold xU pH;congr 1;funext i;rw[anW,Fb,VJ,Bool.not_or];congr 1
   ·simp
   rw[List.not_any_eq_all_not];congr 1;funext q;rw[Fb,Bool.not_and,Bool.not_not]
  rw[JN];unfold yD;rw[EB];show _=(match pH m (aT rows) (jT m (aT rows) n)with | some i=>jT m (aT rows) n++[i] | none=>jT m (aT rows) n).map _/\∀j,_=decide (j∈(match pH m (aT rows) (jT m (aT rows) n)with | some i=>jT m (aT rows) n++[i] | none=>jT m (aT rows) n));cases ai:pH m (aT rows) (jT m (aT rows) n)with
  | none=>exact⟨P7,Fb⟩
  | some i=>
   have hi:=(Rj ai).1;refine⟨by simp[P7],λj=>?_⟩;simp only[anW,Fb,amA,amv];have e:(1#64<<<i).getLsbD j=decide (j=i):=by
    rw[anQ,an4];by_cases h:j=i
    ·subst h;simp;omega
    simp[h];omega
   rw[e];by_cases h1:j∈jT m (aT rows) n<;>by_cases h2:j=i<;>simp[h1,h2]
theorem abH{m:Nat}{rows:List W}(fH:m<=64):JO m rows=(jT m (aT rows) m).map (λ(i:Nat)=>(i:Int)):=(abF fH m).1
end Go.gH
namespace Go.Proofs.bK
def vL(n:Int)(rows:List W):List Int:=if fx n rows=true then(if rB n.toNat rows=true then []else ints (jT n.toNat (aT rows) n.toNat))else []
def Ae(n:Int)(rows:List W):Int:=if fx n rows=true then(if rB n.toNat rows=true then 12 else 0)else 10
theorem Qx(n:Int)(aG:Value)(rows:List W)(w:World)(h:aV an w fA 1 aG rows): eH prog 101 [.agg #[.int .i64 n,aG]] w (Dx (vL n rows) (Ae n rows)):=
 (abI n aG rows w h).Kc 3 1 bd λ_ v es _ ew=>by
  unfold Dx vL Ae;by_cases hok:fx n rows=true
  ·simp only[amo hok]at ew⊢;obtain⟨m,rfl,fH,_⟩:=uF hok;by_cases aE:rB (m:Int).toNat rows=true
   ·simp only[amo aE]at ew⊢;obtain⟨rfl,rfl⟩:=ew;exact .inr ⟨rfl,_,kL,rfl,rfl⟩
   simp only[amn aE]at ew⊢;rw[amw,abH fH]at ew;exact .inl ew
  simp only[amn hok]at ew⊢;obtain⟨rfl,rfl⟩:=ew;exact .inr ⟨rfl,_,kL,rfl,rfl⟩
def Ct(m:Nat)(l:List Nat):List Bool:=(List.range m).map λi=>decide (i∈l)
def wD(n:Int)(rows:List W):Bool:=if fx n rows=true then !rB n.toNat rows else false
theorem G6(n:Int)(aG:Value)(rows:List W)(w:World)(h:aV an w fA 1 aG rows): bj prog 38 [.agg #[.int .i64 n,aG]] w λ_ v _=>v=.tuple #[.bool (wD n rows),.int .i64 (vf (fx n rows))]:=by
 unfold wD vf;refine ca func38 ntmps38 ?_;refine ck λdS=>?_;refine ao (bw (λI hw=>zi n aG rows I (hw.now h)) ?_);rintro v bx a6 rfl cA;by_cases hok:fx n rows=true
 ·simp only[amo hok];obtain⟨m,rfl,r6,bG⟩:=uF hok;refine aa ?_;refine cK rfl (λh1=>by simp[ch]at h1) λ_=>?_;refine aa ?_;refine ao (bw (λI hw=>Ua m aG rows I (hw.now h) r6 bG) ?_);rintro v cp bX rfl fq;refine aa ?_;exact bP rfl (.tmp rfl (.t1 rfl)) λI hw=>rfl
 simp only[amn hok];refine aa ?_;refine cK rfl (λ_=>?_) (λh1=>by simp[ch]at h1);refine aa ?_;exact bP rfl (.tmp rfl (.t1 rfl)) λI hw=>rfl
end Go.Proofs.bK
namespace Go.bU
theorem Kq{α:Type}{le:α->α->Bool}(ML:∀a b,le a b=true->le b a=true->a=b):∀(l m:List α),l.Perm m->l.Pairwise (λa b=>le a b=true)->m.Pairwise (λa b=>le a b=true)->l=m
 | [],m,hp,_,_=>(List.nil_perm.1 hp).symm
 | a::l,[],hp,_,_=>absurd hp.length_eq (by simp)
 | a::l,b::m,hp,aB,hm=>by
  rw[am2]at aB hm;have oe:a=b:=by
   rcases amG.1 (hp.mem_iff.1 aL)with q | q
   ·exact q
   rcases amG.1 (hp.mem_iff.2 aL)with bn | bn
   ·exact bn.symm
   exact ML a b (aB.1 b bn) (hm.1 a q)
  subst oe;rw[Kq ML l m (List.Perm.cons_inv hp) aB.2 hm.2]
theorem Qs(a b:b5)(h1:kI a b=true)(h2:kI b a=true):a=b:=by obtain⟨dG,a2⟩:=a;obtain⟨hJ,dy⟩:=b;unfold kI at h1 h2;simp only[amr,ami,amj]at h1 h2;simp only[b5.mk.injEq];omega
theorem acq{l:List b5}{n:Nat}{ys:List b5}(hp:ys.Perm (l.map (nw n)))(ag:ys.Pairwise λa b=>kI a b=true):ys=h4 l n:=by
 refine Kq Qs _ _ (hp.trans (aoe _ _).symm) ag (aol (λa b c h1 h2=>?_) (λa b=>?_) _)
 ·unfold kI at *;simp only[amr,ami,amj]at *;omega
 unfold kI;simp only[amr,ami,amj];omega
def rS(cw:List cE)(ends:List gG)(c:Int)(f:cE->gG)(i:Nat):List gG:=(List.range cw.length).map λj=>if j<i/\(cw.getD j default).aI=c then f (cw.getD j default)else ends.getD j default
theorem wQ(cw:List cE)(ends:List gG)(c:Int)(f:cE->gG)(i:Nat):(rS cw ends c f i).length=cw.length:=by unfold rS;simp
theorem D9{cw:List cE}{ends:List gG}{c:Int}{f:cE->gG}{i j:Nat}(ad:j<cw.length):(rS cw ends c f i)[j]?=some (if j<i/\(cw.getD j default).aI=c then f (cw.getD j default)else ends.getD j default):=by unfold rS;rw[amZ,ann ad];rfl
theorem HJ{cw:List cE}{ends:List gG}{c:Int}{f:cE->gG}(h:ends.length=cw.length):rS cw ends c f 0=ends:=by
 apply aof;intro j;by_cases ad:j<cw.length
 ·rw[D9 ad,amn (λq=>by omega),getD_some (by omega)]
 rw[amR (by rw[wQ];omega),amR (by omega)]
theorem HI{cw:List cE}{ends:List gG}{c:Int}{f:cE->gG}{i:Nat}(hi:i<cw.length):rS cw ends c f (i+1)=if(cw.getD i default).aI=c then(rS cw ends c f i).set i (f (cw.getD i default))else rS cw ends c f i:=by
 apply aof;intro j;by_cases ad:j<cw.length
 ·rw[D9 ad];by_cases h:(cw.getD i default).aI=c
  ·rw[amo h,aoC];by_cases e:i=j
   ·subst e;rw[amo ⟨by omega,h⟩,amo rfl,amo (by rw[wQ];exact hi)]
   rw[amn e,D9 ad];by_cases q:j<i
   ·simp[q,show j<i+1 by omega]
   simp[q,show ¬j<i+1 by omega]
  rw[amn h,D9 ad];by_cases e:i=j
  ·subst e;rw[amn λq=>h q.2,amn λq=>h q.2]
  by_cases q:j<i
  ·simp[q,show j<i+1 by omega]
  simp[q,show ¬j<i+1 by omega]
 rw[amR (by rw[wQ];omega)];split
 ·rw[amR (by rw[amQ,wQ];omega)]
 rw[amR (by rw[wQ];omega)]
theorem Og(cw:List cE)(ends:List gG)(c:Int)(f:cE->gG):rS cw ends c f cw.length=(List.range cw.length).map λj=>if(cw.getD j default).aI=c then f (cw.getD j default)else ends.getD j default:=by
 unfold rS;refine an0 λj ad=>?_;rw[amH]at ad;by_cases h:(cw.getD j default).aI=c
 ·rw[amo ⟨ad,h⟩,amo h]
 rw[amn λq=>h q.2,amn h]
def tU(cw:List cE)(ends:List gG)(k:Nat)(first:Nat)(ah:List eD)(i:Nat):List gG:=rS cw ends k (λx=>(nc first ah x).getD ⟨0,0⟩) i
theorem NW(cw:List cE)(ends:List gG)(k first:Nat)(ah:List eD)(i:Nat):(tU cw ends k first ah i).length=cw.length:=wQ _ _ _ _ _
theorem NY{cw:List cE}{ends:List gG}{k first:Nat}{ah:List eD}(h:ends.length=cw.length):tU cw ends k first ah 0=ends:=HJ h
theorem NV(cw:List cE)(ends:List gG)(k first:Nat)(ah:List eD):tU cw ends k first ah cw.length=rO cw ends k first ah:=Og _ _ _ _
theorem NX{cw:List cE}{ends:List gG}{k first:Nat}{ah:List eD}{i:Nat}(hi:i<cw.length):tU cw ends k first ah (i+1)=if(cw.getD i default).aI=(k:Int)then(tU cw ends k first ah i).set i ((nc first ah (cw.getD i default)).getD ⟨0,0⟩)else tU cw ends k first ah i:=HI hi
def ve(t:aM)(cw:List cE)(ends:List gG)(i:Nat):List gG:=rS cw ends (-1) (λx=>⟨3,((dp (b2 t) x.loc:Nat):Int)⟩) i
theorem NS(t:aM)(cw:List cE)(ends:List gG):ve t cw ends cw.length=xO t cw ends:=Og _ _ _ _
end Go.bU
