/- Lemmas for the law WholeComplete. -/
import Derived.Test.YtiknadellddjhaaGreatDoorC13
set_option linter.all false
open Go.Proofs.Tryz
set_option maxHeartbeats 16000000
open Go Go.b9 Go.bM Go.gG Go.fo
attribute [local irreducible] Go.wpList Go.Code.wp Go.bodyPost Go.Exit.then Go.Exit.inBlock Go.Calls
namespace Go.fo
theorem Lf{l:List Int}(h:l.length<=64):∀i,(sI l i).length<=i* 64
 | 0=>by simp[sI]
 | i+1=>by
  rw[SV,aoy];have:=Lf h i;have:(Dy l i).length<=64:=by unfold Dy;rw[aoJ,apG];omega
  omega
theorem yg{c:cw}:∀k,(∀j,j<k->(c.co.getD j default).length<=64)->(kj c k).length<=k* 4096
 | 0,_=>by simp[kj]
 | k+1,h=>by rw[Oi,aoy];have:=yg k λj ae=>h j (by omega);have h1:=h k (by omega);have:=Lf h1 (c.co.getD k default).length;omega
theorem TJ(t:aW)(c:cw):∀n,(sN t c n).length<=n
 | 0=>by simp[sN]
 | n+1=>by
  rw[GM,aoy];have:=TJ t c n;have:(xY t c n).length<=1:=by unfold xY;split<;>simp
  omega
theorem Pw{t:aW}{c:cw}:∀n,(∀j,j<n->(jt t c j).length<=64)->(se t c n).length<=n* 64
 | 0,_=>by simp[se]
 | n+1,h=>by
  rw[Iu,aoy];have:=Pw n λj ae=>h j (by omega);have:(yr t c n).length<=64:=by
   unfold yr;split
   ·unfold p5;rw[aoJ,apG];have:=h n (by omega);omega
   simp
  omega
theorem take_one{α:Type}[Inhabited α]{l:List α}{i:Nat}(h:i<l.length):l.take (i+1)=l.take i++[l.getD i default]:=by rw[apn,aor,aov h];rfl
structure fo where
 n:Int
 po:List W
 pl:List W
 bE:List W
 GO:List W
 co:List W
 coe:List W
 fr:List W
 ET:List W
 Ev:List W
def Hf(t:aW)(c:cw):fo:=
 if fj t c=0 then
  {n:=t.J.length,po:=b1 t.J.length (eT t),pl:=b1 t.J.length (sG t),bE:=b1 t.J.length (jG t c),GO:=b1 t.J.length (lq t (jG t c)),co:=b1 t.J.length (jf t c),
   coe:=b1 t.J.length (lq t (jf t c)),fr:=b1 t.J.length (kx t c),ET:=b1 t.J.length (lq t (kx t c)),Ev:=b1 t.J.length (rp t c)}
 else{n:=0,po:=[],pl:=[],bE:=[],GO:=[],co:=[],coe:=[],fr:=[],ET:=[],Ev:=[]}
theorem nU{t:aW}{c:cw}(h:fj t c=0):e0 t=true/\oD t c=true:=by
 unfold fj at h;by_cases h1:e0 t=true
 ·rw[aou h1]at h;by_cases h2:oD t c=true
  ·exact⟨h1,h2⟩
  rw[aot h2]at h;omega
 rw[aot h1]at h;omega
theorem Bn{m:Nat}(hm:m<=64)(p q:Nat->Nat->Bool):Hc m (b1 m p) (b1 m q)=b1 m λi j=>p i j||q i j:=by unfold Hc;exact q3 λi j hi ae=>by rw[u5 m _ hm i j hi ae,u5 m _ hm i j hi ae]
theorem LG{m:Nat}(hm:m<=64)(p q:Nat->Nat->Bool):(b1 m λi j=>aQ (b1 m p) i j&&q i j)=b1 m λi j=>p i j&&q i j:=q3 λi j hi ae=>by rw[u5 m _ hm i j hi ae]
end Go.fo
namespace Go.Proofs.bA
def We(V:fo)(e:Int):Nat->Value->List aB->World->Prop:=λ_ v es _=>∃s1 s2 cJ dw dk eM eb fl fH,(aD s1/\aD s2/\aD cJ/\aD dw/\aD dk/\aD eM/\aD eb/\aD fl/\aD fH)/\ v=.tuple #[.agg #[.int .i64 V.n,s1,.int .i64 V.n,s2,.int .i64 V.n,cJ,.int .i64 V.n,dw,.int .i64 V.n,dk,.int .i64 V.n,eM,.int .i64 V.n,eb,.int .i64 V.n,fl,.int .i64 V.n,fH],.int .i64 e]/\ es=[eG s1 V.po,eG s2 V.pl,eG cJ V.bE,eG dw V.GO,eG dk V.co,eG eM V.coe,eG eb V.fr,eG fl V.ET,eG fH V.Ev]
theorem MQ{ak ah aI bv aG aR ad aT bj:Value}{t:aW}(cI b8:Value)(c:cw)(w:World)(h:fB al w ak ah aI bv aG aR ad aT bj t)(ai:ke al w cI b8 c)(bL:lK w): en prog 97 [.agg #[ak,ah,aI,bv,aG,aR,ad,aT,bj],.agg #[cI,b8]] w (We (Hf t c) (fj t c)):=by
 have lv:=ai.bE.aK;obtain⟨rJ,mb,tC,Ft⟩:=ai.co;have nb:=mb.aK;have hF:=ai.bE;have Ze:=hF.le;have alE:=mb.le;have cF:=h.J;have Cp:=cF.le;refine hL func97 ntmps97 ?_;refine b7 λjN=>?_;refine b7 λll=>?_;refine cH λcO=>?_;refine aq (bp (λI hw=>yf cI b8 c I (h.now hw) (ai.now hw)) ?_);rintro v bx bc rfl cu;refine a8 (λh1=>?_) λh1=>?_
 ·rw[aoq,au]at h1;refine U ?_;refine bN 0 ?_;refine ea 81 1 fJ ?_;refine ea 81 1 fJ ?_;refine ea 81 1 fJ ?_;refine ea 81 1 fJ ?_;refine ea 81 1 fJ ?_;refine ea 81 1 fJ ?_;refine ea 81 1 fJ ?_;refine ea 81 1 fJ ?_;refine ea 81 1 fJ ?_;refine et rfl (.dv rfl RF rfl (.t1 rfl)) [_,_,_,_,_,_,_,_,_] [0,1,2,3,4,5,6,7,8] λI hw=>?_;unfold Hf;rw[aot h1];exact⟨_,_,_,_,_,_,_,_,_,⟨k2,k2,k2,k2,k2,k2,k2,k2,k2⟩,rfl,rfl⟩
 rw[aos,an]at h1;obtain⟨aJ,ky⟩:=nU h1;obtain⟨hb,ma⟩:=kI aJ;obtain⟨ep,eA,_,_⟩:=(r6 t c).1 ky;have aa5:sQ t=t.J.length:=aou aJ;have j8:q8 t (eT t)=b1 t.J.length (eT t):=aou aJ;have qP:=lV t.J.length (eT t) hb;have xy:∀k,k<c.co.length->(c.co.getD k default).length<=64:=λk hk=>ao5 (XF ky (by omega)) hb;have ID:Bb t.J.length (b1 t.J.length (eT t))=nM t.J.length (b1 t.J.length (eT t)):=by unfold Bb;rw[aou qP];rfl
 have Zk:(nM t.J.length (b1 t.J.length (eT t))).length<=4096:=ao5 (K6 _ _) (apo 64 hb);refine U ?_;refine cH λdx=>?_;refine aq (gi (λI hw=>U0 I (h.now hw)) ?_);rintro v ck es bY ⟨s1,fA,rfl,rfl⟩;rw[aa5,j8];refine U ?_;refine bN 1 ?_;refine aq (gi (λI hw=>SI t.J.length s1 (b1 t.J.length (eT t)) I (hw.dX) (bL.now hw)) ?_);rintro v hj es fW ⟨hW,yT,rfl,rfl⟩;rw[ID];generalize aL:nM t.J.length (b1 t.J.length (eT t))=l at *;refine U ?_;refine ea 178 2 bB ?_;refine bX (λs:Nat×Value×List ca=>s.1<=l.length/\aD s.2.1/\s.2.2=(l.take s.1).filter (Bd t λa b=>decide (a.loc=b.loc))) (λs=>[(52,true,.int .i64 s.1),(51,true,.int .i64 l.length),(50,true,hW),(12,true,aa),(11,true,aa),(10,true,aa),(9,true,s.2.1),(8,true,av dx),(7,true,.int .i64 t.J.length),(4,true,av cO),(3,true,av ll),(2,true,av jN)]) (λs=>Mem [(w,al)] [jE s.2.1 s.2.2,jE hW l,.box dx [.int .i64 t.J.length,s1,.int .i64 0,aa,.int .i64 0,aa,.int .i64 0,aa,.int .i64 0,aa,.int .i64 0,aa,.int .i64 0,aa,.int .i64 0,aa,.int .i64 0,aa] 115,eG s1 (b1 t.J.length (eT t)),.box cO [.int .i64 0,aa,.int .i64 0,aa,.int .i64 0,aa,.int .i64 0,aa,.int .i64 0,aa,.int .i64 0,aa,.int .i64 0,aa,.int .i64 0,aa,.int .i64 0,aa] 115,.box ll [cI,b8] 53,.box jN [ak,ah,aI,bv,aG,aR,ad,aT,bj] 41]) (λs=>l.length-s.1) (0,aa,[]) ⟨aoD _,k2,by simp⟩ ?_ ⟨rfl,rfl,rfl,rfl,rfl,rfl,rfl,rfl,rfl,rfl,rfl,rfl,trivial⟩ (bD [0,1,3,2,4,5,6])
 rintro⟨i,v1,xs⟩ ⟨hi,jy,hxs⟩;dsimp only at hi jy hxs⊢;have jV:xs.length<=4096:=by rw[hxs];exact ao5 (apr _ _) (by simp;omega)
 refine a8 (λh2=>?_) λh2=>?_
 ·have bq:i<l.length:=by rw[an]at h2;omega
  have hx:l.getD i default∈nM t.J.length (b1 t.J.length (eT t)):=by rw[aL,aor,aov bq];exact apC bq
  obtain⟨g1,g2,g3,g4⟩:=K7 qP _ hx;have gj:l.take (i+1)=l.take i++[l.getD i default]:=take_one (by omega);have yU:(bw ((bF t (l.getD i default).A.toNat).loc=(bF t (l.getD i default).B.toNat).loc))=Bd t (λa b=>decide (a.loc=b.loc)) (l.getD i default):=by rw[cd];rfl
  refine U ?_;refine cH λzY=>?_;refine bN 0 ?_;refine cz [0,1,2,3,4,5,6,7,8,9,10,11,12,13,14] mixed ?_;refine aN ?_;refine a8 (λh3=>?_) λh3=>?_
  ·rw[yU]at h3;refine U ?_;refine aq (eI (ab:=λv5 nI=>U ?_));refine aq (e6 2 (hk:=rfl) (bH:=by simp;omega) (ab:=λv6 nd=>U ?_));exact bm (i+1,v6,xs++[l.getD i default]) ⟨by dsimp only;omega,nd,by dsimp only;rw[hxs,gj,apl,ap3 h3];rfl⟩ (by dsimp only;omega) (hA:=bD [2,3,4,5,6,7,8])
  rw[yU]at h3;refine U ?_;exact bm (i+1,v1,xs) ⟨by dsimp only;omega,jy,by dsimp only;rw[hxs,gj,apl,apQ (by rw[h3];simp)];simp⟩ (by dsimp only;omega) (hA:=bD [1,2,3,4,5,6,7])
 have gY:i=l.length:=by rw[au]at h2;omega
 have C1:xs=zA t (λa b=>decide (a.loc=b.loc)) t.J.length (b1 t.J.length (eT t)):=by rw[hxs,gY,aoZ];unfold zA;rw[aL]
 refine U ?_;refine ea 178 2 bB ?_;refine bX (λs:Nat×Value×List ca=>s.1<=c.co.length/\aD s.2.1/\s.2.2=kj c s.1) (λs=>[(79,true,.int .i64 s.1),(78,true,.int .i64 rJ.length),(77,true,b8),(12,true,aa),(11,true,s.2.1),(10,true,aa),(9,true,v1),(8,true,av dx),(7,true,.int .i64 t.J.length),(4,true,av cO),(3,true,av ll),(2,true,av jN)]) (λs=>Mem [(w,al)] [jE s.2.1 s.2.2,jE v1 xs,.box dx [.int .i64 t.J.length,s1,.int .i64 0,aa,.int .i64 0,aa,.int .i64 0,aa,.int .i64 0,aa,.int .i64 0,aa,.int .i64 0,aa,.int .i64 0,aa,.int .i64 0,aa] 115,eG s1 (b1 t.J.length (eT t)),.box cO [.int .i64 0,aa,.int .i64 0,aa,.int .i64 0,aa,.int .i64 0,aa,.int .i64 0,aa,.int .i64 0,aa,.int .i64 0,aa,.int .i64 0,aa,.int .i64 0,aa] 115,.box ll [cI,b8] 53,.box jN [ak,ah,aI,bv,aG,aR,ad,aT,bj] 41]) (λs=>c.co.length-s.1) (0,aa,[]) ⟨aoD _,k2,rfl⟩ ?_ ⟨rfl,rfl,rfl,rfl,rfl,rfl,rfl,rfl,rfl,rfl,rfl,rfl,trivial⟩ (bD [0,1,3,4,5,6,7])
 rintro⟨k,v2,ys⟩ ⟨hk,hS,iL⟩;dsimp only at hk hS iL⊢;have amc:=yg k λj ae=>xy j (by omega);refine a8 (λh3=>?_) λh3=>?_
 ·have dE:k<c.co.length:=by rw[an]at h3;omega
  have c0:=Ft k dE;have yw:=xy k dE;refine U ?_;refine bX (λs:Nat×Value×List ca=>s.1<=(c.co.getD k default).length/\aD s.2.1/\s.2.2=kj c k++sI (c.co.getD k default) s.1) (λs=>[(85,true,.int .i64 s.1),(84,true,.int .i64 (c.co.getD k default).length),(83,true,rJ.getD k default),(79,true,.int .i64 k),(78,true,.int .i64 rJ.length),(77,true,b8),(18,true,rJ.getD k default),(12,true,aa),(11,true,s.2.1),(10,true,aa),(9,true,v1),(8,true,av dx),(7,true,.int .i64 t.J.length),(4,true,av cO),(3,true,av ll),(2,true,av jN)]) (λs=>Mem [(w,al)] [jE s.2.1 s.2.2,jE v1 xs,.box dx [.int .i64 t.J.length,s1,.int .i64 0,aa,.int .i64 0,aa,.int .i64 0,aa,.int .i64 0,aa,.int .i64 0,aa,.int .i64 0,aa,.int .i64 0,aa,.int .i64 0,aa] 115,eG s1 (b1 t.J.length (eT t)),.box cO [.int .i64 0,aa,.int .i64 0,aa,.int .i64 0,aa,.int .i64 0,aa,.int .i64 0,aa,.int .i64 0,aa,.int .i64 0,aa,.int .i64 0,aa,.int .i64 0,aa] 115,.box ll [cI,b8] 53,.box jN [ak,ah,aI,bv,aG,aR,ad,aT,bj] 41]) (λs=>(c.co.getD k default).length-s.1) (0,v2,ys) ⟨aoD _,hS,by dsimp only;rw[iL];simp[sI]⟩ ?_
  rintro⟨a,v3,zs⟩ ⟨ay,pL,pM⟩;dsimp only at ay pL pM⊢;have mc:=Lf yw a;refine a8 (λaA=>?_) λaA=>?_
  ·have da:a<(c.co.getD k default).length:=by rw[an]at aA;omega
   have kU:aZ al w a7 1 (gU 1 (a+1) (c.co.getD k default).length (rJ.getD k default)) ((c.co.getD k default).drop (a+1)):=by have:=c0.sub (a+1) (c.co.getD k default).length (by omega) (aoL _);rwa[aoZ]at this
   have aa0:=kU.le;refine U ?_;refine dh (Tm (h:=c0) (h0:=by omega) (hb:=by omega)) (ab:=?_);rw[show((a:Int)+1).toNat=a+1 by omega];refine U ?_;refine bX (λs:Nat×Value×List ca=>s.1<=((c.co.getD k default).drop (a+1)).length/\aD s.2.1/\s.2.2=kj c k++sI (c.co.getD k default) a++(((c.co.getD k default).drop (a+1)).take s.1).map λb=>⟨(c.co.getD k default).getD a default,b⟩) (λs=>[(95,true,.int .i64 s.1),(94,true,.int .i64 ((c.co.getD k default).drop (a+1)).length),(93,true,gU 1 (a+1) (c.co.getD k default).length (rJ.getD k default)),(85,true,.int .i64 a),(84,true,.int .i64 (c.co.getD k default).length),(83,true,rJ.getD k default),(79,true,.int .i64 k),(78,true,.int .i64 rJ.length),(77,true,b8),(20,true,.int .i64 ((c.co.getD k default).getD a default)),(18,true,rJ.getD k default),(12,true,aa),(11,true,s.2.1),(10,true,aa),(9,true,v1),(8,true,av dx),(7,true,.int .i64 t.J.length),(4,true,av cO),(3,true,av ll),(2,true,av jN)]) (λs=>Mem [(w,al)] [jE s.2.1 s.2.2,jE v1 xs,.box dx [.int .i64 t.J.length,s1,.int .i64 0,aa,.int .i64 0,aa,.int .i64 0,aa,.int .i64 0,aa,.int .i64 0,aa,.int .i64 0,aa,.int .i64 0,aa,.int .i64 0,aa] 115,eG s1 (b1 t.J.length (eT t)),.box cO [.int .i64 0,aa,.int .i64 0,aa,.int .i64 0,aa,.int .i64 0,aa,.int .i64 0,aa,.int .i64 0,aa,.int .i64 0,aa,.int .i64 0,aa,.int .i64 0,aa] 115,.box ll [cI,b8] 53,.box jN [ak,ah,aI,bv,aG,aR,ad,aT,bj] 41]) (λs=>((c.co.getD k default).drop (a+1)).length-s.1) (0,v3,zs) ⟨aoD _,pL,by dsimp only;rw[pM];simp⟩ ?_
   rintro⟨q,v4,us⟩ ⟨ba,uO,wj⟩;dsimp only at ba uO wj⊢;have JS:us.length<=300000:=by rw[wj,aoy,aoy,aoJ,ao3,apG];omega
   refine a8 (λa6=>?_) λa6=>?_
   ·have mB:q<((c.co.getD k default).drop (a+1)).length:=by rw[an]at a6;omega
    have gj:((c.co.getD k default).drop (a+1)).take (q+1)=((c.co.getD k default).drop (a+1)).take q++[((c.co.getD k default).drop (a+1)).getD q default]:=take_one (by omega);refine U ?_;refine aq (eI (ab:=λv5 nI=>U ?_));refine aq (e6 1 (hk:=rfl) (bH:=by simp only[List.map,aoN,ao1];omega) (ab:=λv6 nd=>U ?_));exact bm (q+1,v6,us++[(⟨(c.co.getD k default).getD a default,((c.co.getD k default).drop (a+1)).getD q default⟩:ca)]) ⟨by dsimp only;omega,nd,by dsimp only;rw[wj,gj,apm,aoP];rfl⟩ (by dsimp only;omega) (hA:=λ_ h=>(h.last rfl).tail)
   have JE:q=((c.co.getD k default).drop (a+1)).length:=by rw[au]at a6;omega
   refine U ?_;exact bm (a+1,v4,us) ⟨by dsimp only;omega,uO,by dsimp only;rw[wj,JE,aoZ,SV,aoP];rfl⟩ (by dsimp only;omega) (hA:=cv)
  have Zr:a=(c.co.getD k default).length:=by rw[au]at aA;omega
  refine U ?_;exact bm (k+1,v3,zs) ⟨by dsimp only;omega,pL,by dsimp only;rw[pM,Zr,Oi]⟩ (by dsimp only;omega) (hA:=cv)
 have hg:k=c.co.length:=by rw[au]at h3;omega
 have Q2:ys=kj c c.co.length:=by rw[iL,hg]
 refine U ?_;refine ea 178 2 bB ?_;refine ea 178 2 bB ?_;refine bX (λs:Nat×(Value×List ca)×(Value×List ca)=>s.1<=t.J.length/\(aD s.2.1.1/\s.2.1.2=se t c s.1)/\aD s.2.2.1/\s.2.2.2=sN t c s.1) (λs=>[(111,true,.int .i64 s.1),(110,true,.int .i64 t.J.length),(109,true,aI),(12,true,s.2.1.1),(11,true,v2),(10,true,s.2.2.1),(9,true,v1),(8,true,av dx),(7,true,.int .i64 t.J.length),(4,true,av cO),(3,true,av ll),(2,true,av jN)]) (λs=>Mem [(w,al)] [jE s.2.1.1 s.2.1.2,jE s.2.2.1 s.2.2.2,jE v2 ys,jE v1 xs,.box dx [.int .i64 t.J.length,s1,.int .i64 0,aa,.int .i64 0,aa,.int .i64 0,aa,.int .i64 0,aa,.int .i64 0,aa,.int .i64 0,aa,.int .i64 0,aa,.int .i64 0,aa] 115,eG s1 (b1 t.J.length (eT t)),.box cO [.int .i64 0,aa,.int .i64 0,aa,.int .i64 0,aa,.int .i64 0,aa,.int .i64 0,aa,.int .i64 0,aa,.int .i64 0,aa,.int .i64 0,aa,.int .i64 0,aa] 115,.box ll [cI,b8] 53,.box jN [ak,ah,aI,bv,aG,aR,ad,aT,bj] 41]) (λs=>t.J.length-s.1) (0,(aa,[]),(aa,[])) ⟨aoD _,⟨k2,rfl⟩,k2,rfl⟩ ?_
 rintro⟨r,⟨v3,fO⟩,⟨v4,rs⟩⟩ ⟨aM,⟨pL,lv⟩,uO,iz⟩;dsimp only at aM pL lv uO iz⊢;refine a8 (λaA=>?_) λaA=>?_
 ·have da:r<t.J.length:=by rw[an]at aA;omega
  have akR:r<c.bE.length:=by omega
  obtain⟨p,hp,mc⟩:=uU aJ da;have IW:=vH (c:=c) hp;have IC:=Ft p (by omega);have alv:=xy p (by omega);have yG:=Pw (t:=t) (c:=c) r (λj ae=>by obtain⟨nk,uK,alG⟩:=uU aJ (show j<t.J.length by omega);rw[vH (c:=c) uK];exact xy nk (by omega));have aaN:=TJ t c r;have alT:rs.length<=64:=by rw[iz];omega
  have alk:fO.length<=4096:=by rw[lv];omega
  have tD:(t.J.getD r default).loc=(p:Int):=hp;have alF:p<rJ.length:=by omega
  refine U ?_;refine cH λbe=>?_;refine bN 0 ?_;refine bC (λa6=>?_) λa6=>?_
  ·rw[aoq,au]at a6;refine U ?_;exact bm (r+1,(v3,fO),(v4,rs)) ⟨by dsimp only;omega,⟨pL,by dsimp only;rw[lv,Iu];unfold yr;rw[aot a6,aoH]⟩,uO,by dsimp only;rw[iz,GM];unfold xY;rw[aot λeC=>a6 eC.1,aoH]⟩ (by dsimp only;omega) (hA:=iR)
  rw[aos,an]at a6;refine U ?_;refine ih (λs:Value×List ca=>aD s.1/\s.2=sN t c (r+1)) (λs=>[(111,true,.int .i64 r),(110,true,.int .i64 t.J.length),(109,true,aI),(24,true,av be),(23,true,.int .i64 r),(12,true,v3),(11,true,v2),(10,true,s.1),(9,true,v1),(8,true,av dx),(7,true,.int .i64 t.J.length),(4,true,av cO),(3,true,av ll),(2,true,av jN)]) (λs=>Mem [(w,al)] [.box be (ef (bF t r)) 138,jE v3 fO,jE s.1 s.2,jE v2 ys,jE v1 xs,.box dx [.int .i64 t.J.length,s1,.int .i64 0,aa,.int .i64 0,aa,.int .i64 0,aa,.int .i64 0,aa,.int .i64 0,aa,.int .i64 0,aa,.int .i64 0,aa,.int .i64 0,aa] 115,eG s1 (b1 t.J.length (eT t)),.box cO [.int .i64 0,aa,.int .i64 0,aa,.int .i64 0,aa,.int .i64 0,aa,.int .i64 0,aa,.int .i64 0,aa,.int .i64 0,aa,.int .i64 0,aa,.int .i64 0,aa] 115,.box ll [cI,b8] 53,.box jN [ak,ah,aI,bv,aG,aR,ad,aT,bj] 41]) ?_ ?_
  ·refine bC (λcE=>?_) λcE=>?_
   ·rw[an]at cE;refine U ?_;refine aq (eI (ab:=λv5 nI=>U ?_));refine aq (e6 3 (hk:=rfl) (bH:=by simp only[List.map,aoN,ao1];omega) (ab:=λv6 nd=>U ?_));exact b6 (v6,rs++[(⟨c.bE.getD r default,(r:Int)⟩:ca)]) ⟨nd,by dsimp only;rw[iz,GM];unfold xY;rw[aou ⟨a6,cE⟩]⟩ (hA:=iR)
   rw[au]at cE;refine U ?_;exact b6 (v4,rs) ⟨uO,by dsimp only;rw[iz,GM];unfold xY;rw[aot λeC=>cE eC.2,aoH]⟩
  rintro⟨v5,TR⟩ ⟨nI,JI⟩;dsimp only at nI JI⊢;have Fk:=Dc (c.co.getD p default) (c.bE.getD r default);have alo:fv (c.co.getD p default) (c.bE.getD r default)+1<=(c.co.getD p default).length:=by
   by_cases hm:c.bE.getD r default∈c.co.getD p default
   ·have:=Ki hm;omega
   unfold fv;rw[aot hm];omega
  refine U ?_;have aaC:(t.J.getD r default).loc.toNat=p:=by omega
  have P2:p5 t c r=(c.co.getD p default).drop (fv (c.co.getD p default) (c.bE.getD r default)+1).toNat:=by unfold p5;rw[IW]
  have kU:aZ al w a7 1 (gU 1 (fv (c.co.getD p default) (c.bE.getD r default)+1).toNat (c.co.getD p default).length (rJ.getD p default)) (p5 t c r):=by have:=IC.sub (fv (c.co.getD p default) (c.bE.getD r default)+1).toNat (c.co.getD p default).length (by omega) (aoL _);rw[aoZ]at this;rw[P2];exact this
  have aa0:(p5 t c r).length<=64:=by rw[P2,apG];omega
  rw[aaC];refine aq (bp (λI hw=>Up (rJ.getD p default) (c.bE.getD r default) I (c.co.getD p default) (hw.now IC)) ?_);rintro v ia ig rfl xD;refine U ?_;refine dh (Tm (h:=IC) (h0:=by omega) (hb:=by omega)) (ab:=?_);generalize hr:gU 1 (fv (c.co.getD p default) (c.bE.getD r default)+1).toNat (c.co.getD p default).length (rJ.getD p default)=eX at *;refine U ?_;refine bX (λs:Nat×Value×List ca=>s.1<=(p5 t c r).length/\aD s.2.1/\s.2.2=se t c r++((p5 t c r).take s.1).map λw=>⟨(r:Int),w⟩) (λs=>[(152,true,.int .i64 s.1),(151,true,.int .i64 (p5 t c r).length),(150,true,eX),(111,true,.int .i64 r),(110,true,.int .i64 t.J.length),(109,true,aI),(23,true,.int .i64 r),(12,true,s.2.1),(11,true,v2),(10,true,v5),(9,true,v1),(8,true,av dx),(7,true,.int .i64 t.J.length),(4,true,av cO),(3,true,av ll),(2,true,av jN)]) (λs=>Mem [(w,al)] [.box be (ef (bF t r)) 138,jE s.2.1 s.2.2,jE v5 TR,jE v2 ys,jE v1 xs,.box dx [.int .i64 t.J.length,s1,.int .i64 0,aa,.int .i64 0,aa,.int .i64 0,aa,.int .i64 0,aa,.int .i64 0,aa,.int .i64 0,aa,.int .i64 0,aa,.int .i64 0,aa] 115,eG s1 (b1 t.J.length (eT t)),.box cO [.int .i64 0,aa,.int .i64 0,aa,.int .i64 0,aa,.int .i64 0,aa,.int .i64 0,aa,.int .i64 0,aa,.int .i64 0,aa,.int .i64 0,aa,.int .i64 0,aa] 115,.box ll [cI,b8] 53,.box jN [ak,ah,aI,bv,aG,aR,ad,aT,bj] 41]) (λs=>(p5 t c r).length-s.1) (0,v3,fO) ⟨aoD _,pL,by dsimp only;rw[lv];simp⟩ ?_ ⟨rfl,rfl,rfl,rfl,rfl,rfl,rfl,rfl,rfl,rfl,rfl,rfl,rfl,rfl,rfl,rfl,trivial⟩ cv
  rintro⟨q,v6,us⟩ ⟨ba,nd,wj⟩;dsimp only at ba nd wj⊢;have JS:us.length<=5000:=by rw[wj,aoy,aoJ,ao3];omega
  refine a8 (λdL=>?_) λdL=>?_
  ·have jw:q<(p5 t c r).length:=by rw[an]at dL;omega
   refine U ?_;refine aq (eI (ab:=λvj sv=>U ?_));refine aq (e6 2 (hk:=rfl) (bH:=by simp only[List.map,aoN,ao1];omega) (ab:=λua CZ=>U ?_));exact bm (q+1,ua,us++[(⟨(r:Int),(p5 t c r).getD q default⟩:ca)]) ⟨by dsimp only;omega,CZ,by dsimp only;rw[wj,take_one jw,apm,aoP];rfl⟩ (by dsimp only;omega) (hA:=iR)
  have JE:q=(p5 t c r).length:=by rw[au]at dL;omega
  refine U ?_;exact bm (r+1,(v6,us),(v5,TR)) ⟨by dsimp only;omega,⟨nd,by dsimp only;rw[wj,JE,aoZ,Iu];unfold yr;rw[aou a6]⟩,nI,by dsimp only;rw[JI]⟩ (by dsimp only;omega) (hA:=iR)
 have JH:r=t.J.length:=by rw[au]at aA;omega
 have P3:fO=se t c t.J.length:=by rw[lv,JH]
 have CQ:rs=sN t c t.J.length:=by rw[iz,JH]
 clear lv iz iL hxs;refine U ?_;refine aq (gI (bb:=λI hw=>A4 hb v1 xs I (hw.dX) (by rw[C1];exact Uo qP)) (ab:=?_));rintro v qk es qu ⟨s2,j7,rfl,rfl⟩;refine U ?_;refine bN 5 ?_;refine aq (gI (bb:=λI hw=>A4 hb v4 rs I (hw.dX) (by rw[CQ];exact agK aJ ky)) (ab:=?_));rintro v n6 es wY ⟨cJ,kl,rfl,rfl⟩;refine U ?_;refine bN 6 ?_;refine aq (gI (bb:=λI hw=>A4 hb v2 ys I (hw.dX) (by rw[Q2];exact XD aJ ky)) (ab:=?_));rintro v n7 es BJ ⟨dk,lA,rfl,rfl⟩;refine U ?_;refine bN 7 ?_;refine aq (gI (bb:=λI hw=>A4 hb v3 fO I (hw.dX) (by rw[P3];exact YN aJ ky)) (ab:=?_));rintro v n8 es Hg ⟨eb,me,rfl,rfl⟩;refine U ?_;refine aq (bK 8 (ab:=?_));have b2:b1 t.J.length (kH xs)=b1 t.J.length (sG t):=q3 λi j hi ae=>by rw[C1,R8 hi,u5 _ _ hb i j hi ae];rfl
 have gg:b1 t.J.length (kH rs)=b1 t.J.length (jG t c):=q3 λi j hi ae=>by rw[CQ,adA aJ ky ae]
 have r8:b1 t.J.length (kH ys)=b1 t.J.length (jf t c):=q3 λi j hi ae=>by rw[Q2,adx aJ ky hi]
 have X7:b1 t.J.length (kH fO)=b1 t.J.length (kx t c):=q3 λi j hi ae=>by rw[P3,ady aJ ky hi]
 rw[b2,gg,r8,X7];refine U ?_;refine cA (Mem [(w,al)] [.box dx [.int .i64 t.J.length,s1,.int .i64 t.J.length,s2,.int .i64 t.J.length,cJ,.int .i64 0,aa,.int .i64 t.J.length,dk,.int .i64 0,aa,.int .i64 t.J.length,eb,.int .i64 0,aa,.int .i64 0,aa] 115,eG s1 (b1 t.J.length (eT t)),eG s2 (b1 t.J.length (sG t)),eG cJ (b1 t.J.length (jG t c)),eG dk (b1 t.J.length (jf t c)),eG eb (b1 t.J.length (kx t c)),.box cO [.int .i64 0,aa,.int .i64 0,aa,.int .i64 0,aa,.int .i64 0,aa,.int .i64 0,aa,.int .i64 0,aa,.int .i64 0,aa,.int .i64 0,aa,.int .i64 0,aa] 115,.box ll [cI,b8] 53,.box jN [ak,ah,aI,bv,aG,aR,ad,aT,bj] 41]) (bD [8,9,3,2,1,0,10,11,12]) ?_;refine fw (λI=>∃x:Value×Value×Value×Value×Value×Value,Mem [(w,al)] [.box dx [.int .i64 t.J.length,s1,.int .i64 t.J.length,s2,.int .i64 t.J.length,cJ,x.1,x.2.1,.int .i64 t.J.length,dk,x.2.2.1,x.2.2.2.1,.int .i64 t.J.length,eb,x.2.2.2.2.1,x.2.2.2.2.2,.int .i64 0,aa] 115,.box jN [ak,ah,aI,bv,aG,aR,ad,aT,bj] 41] I) [0,1,2,4,5,6,8,9,10,3,12,7,11,13,14,15,16,17] mixed (λ_ h=>⟨(.int .i64 0,aa,.int .i64 0,aa,.int .i64 0,aa),h.cC [0,8]⟩) ?_;refine jA (v:=.agg #[ak,ah,aI,bv,aG,aR,ad,aT,bj]) (h:=?_) (ab:=?_)
 ·exact Bg λ_=>om (zo (hm:=.tail _ aP)) rfl
 refine aN ?_;refine jA (v:=.agg #[.int .i64 t.J.length,cJ]) (h:=?_) (ab:=?_)
 ·exact Bg λ_=>om (zo (hm:=.head _)) rfl
 refine jA (v:=.agg #[ak,ah,aI,bv,aG,aR,ad,aT,bj]) (h:=?_) (ab:=?_)
 ·exact Bg λ_=>om (zo (hm:=.tail _ aP)) rfl
 refine aN ?_;refine jA (v:=.agg #[.int .i64 t.J.length,dk]) (h:=?_) (ab:=?_)
 ·exact Bg λ_=>om (zo (hm:=.head _)) rfl
 refine jA (v:=.agg #[ak,ah,aI,bv,aG,aR,ad,aT,bj]) (h:=?_) (ab:=?_)
 ·exact Bg λ_=>om (zo (hm:=.tail _ aP)) rfl
 refine aN ?_;refine jA (v:=.agg #[.int .i64 t.J.length,eb]) (h:=?_) (ab:=?_)
 ·exact Bg λ_=>om (zo (hm:=.head _)) rfl
 refine aN ?_;refine bO _ (h:=gi (λI hw=>apart_spec cJ (b1 t.J.length (jG t c)) I (h.now hw) (hw.dX) (lV _ _ hb) (bL.now hw)) ?_);rintro v Sf es Vt ⟨dw,km,rfl,rfl⟩;refine aF (aN ?_) λ_ h=>⟨(.int .i64 0,aa,.int .i64 0,aa,.int .i64 0,aa),(h.last rfl).cC [1,9]⟩;refine bO _ (h:=gi (λI hw=>apart_spec dk (b1 t.J.length (jf t c)) I (h.now hw) (hw.dX) (lV _ _ hb) (bL.now hw)) ?_);rintro v n10 es Vr ⟨eM,mI,rfl,rfl⟩;refine aF (aN ?_) λ_ h=>⟨(.int .i64 0,aa,.int .i64 0,aa,.int .i64 0,aa),(h.last rfl).cC [2,10]⟩;refine bO _ (h:=gi (λI hw=>apart_spec eb (b1 t.J.length (kx t c)) I (h.now hw) (hw.dX) (lV _ _ hb) (bL.now hw)) ?_);rintro v n11 es anX ⟨fl,mJ,rfl,rfl⟩;refine aF (aN ?_) λ_ h=>⟨(.int .i64 0,aa,.int .i64 0,aa,.int .i64 0,aa),(h.last rfl).cC [3,11]⟩;refine bO _ (h:=bK 3 (ab:=?_));refine aF (aN ?_) λ_ h=>⟨(.int .i64 t.J.length,dw,.int .i64 0,aa,.int .i64 0,aa),(h.last rfl).cC [3,11]⟩;refine bO _ (h:=bK 3 (ab:=?_));refine aF (aN ?_) λ_ h=>⟨(.int .i64 t.J.length,dw,.int .i64 t.J.length,eM,.int .i64 0,aa),(h.last rfl).cC [3,11]⟩;refine gw (h:=bK 3 (ab:=?_));rw[LG hb,LG hb,LG hb];refine cA (Mem [(w,al)] [.box dx [.int .i64 t.J.length,s1,.int .i64 t.J.length,s2,.int .i64 t.J.length,cJ,.int .i64 t.J.length,dw,.int .i64 t.J.length,dk,.int .i64 t.J.length,eM,.int .i64 t.J.length,eb,.int .i64 t.J.length,fl,.int .i64 0,aa] 115,eG dw (b1 t.J.length (lq t (jG t c))),eG eM (b1 t.J.length (lq t (jf t c))),eG fl (b1 t.J.length (lq t (kx t c))),eG s1 (b1 t.J.length (eT t)),eG s2 (b1 t.J.length (sG t)),eG cJ (b1 t.J.length (jG t c)),eG dk (b1 t.J.length (jf t c)),eG eb (b1 t.J.length (kx t c)),.box cO [.int .i64 0,aa,.int .i64 0,aa,.int .i64 0,aa,.int .i64 0,aa,.int .i64 0,aa,.int .i64 0,aa,.int .i64 0,aa,.int .i64 0,aa,.int .i64 0,aa] 115,.box ll [cI,b8] 53,.box jN [ak,ah,aI,bv,aG,aR,ad,aT,bj] 41]) (bD [3,2,1,0,4,5,6,7,8,9,10,11]) (U ?_);refine aq (gi (λI hw=>BG (lV _ (jG t c) hb) (lV _ (jf t c) hb) (hw.dX) (hw.dX)) ?_);rintro v n12 es anZ ⟨fH,nc,rfl,rfl⟩;rw[Bn hb];refine U ?_;refine bN 1 ?_;refine aq (gi (λI hw=>BG (lV _ (λi j=>jG t c i j||jf t c i j) hb) (lV _ (kx t c) hb) (hw.dX) (hw.dX)) ?_);rintro v n13 es an0 ⟨ahp,aaT,rfl,rfl⟩;rw[Bn hb];refine U ?_;refine bN 2 ?_;refine bN 11 ?_;refine et rfl (.dv rfl KC rfl (.t1 rfl)) [_,_,_,_,_,_,_,_,_] [6,7,8,3,9,4,10,5,0] λI hw=>?_;unfold Hf;rw[aou h1];refine⟨s1,s2,cJ,dw,dk,eM,eb,fl,ahp,⟨fA,j7,kl,km,lA,mI,me,mJ,aaT⟩,?_,rfl⟩;rw[h1];rfl
end Go.Proofs.bA
