/- Lemmas for the law WholeComplete. -/
import Derived.Test.YtiknadellddjhaaGreatDoorC12
set_option linter.all false
open Go.Proofs.Tryz
set_option maxHeartbeats 3200000
open Go Go.b9 Go.bM Go.gG Go.fo
attribute [local irreducible] Go.wpList Go.Code.wp Go.bodyPost Go.Exit.then Go.Exit.inBlock Go.Calls
namespace Go.fo
def kH(l:List ca)(i j:Nat):Bool:=decide ((⟨(i:Int),(j:Int)⟩:ca)∈l)
def vp(m:Nat)(l:List ca):Prop:=∀x,x∈l->0<=x.A/\x.A<m/\0<=x.B/\x.B<m
theorem Sk{m:Nat}(hm:m<=64):∀(l:List ca) (p:Nat->Nat->Bool),vp m l->wI m (b1 m p) l=some (b1 m λi j=>p i j||kH l i j)
 | [],p,_=>by unfold wI;rw[show b1 m p=b1 m λi j=>p i j||kH [] i j from q3 λa b _ _=>by simp[kH]]
 | x::l,p,h=>by
  obtain⟨h1,h2,h3,aA⟩:=h x aP;unfold wI;rw[aou ⟨h1,h2,h3,aA⟩,aeT m p hm _ _ (by omega) (by omega),Sk hm l _ λy aY=>h y (.tail _ aY)];refine aoI some (q3 λa b _ _=>?_);rw[Bool.or_assoc];refine aoI (p a b||·) ?_;rw[aoR];simp only[kH,aox,aoo,aop,aoO];obtain⟨M3,mr⟩:=x;simp only[ca.mk.injEq]at *;constructor
  ·rintro(⟨bu,b2⟩ | e)
   ·exact .inl ⟨by omega,by omega⟩
   exact .inr e
  rintro(⟨bu,b2⟩ | e)
  ·exact .inl ⟨by omega,by omega⟩
  exact .inr e
theorem ad4{n:Nat}(bd:n<=64)(l:List ca)(h:vp n l):rH (n:Int) l=some (b1 n (kH l)):=by unfold rH;rw[aou (by omega),aoF,<-agx,Sk bd l _ h];exact aoI some (q3 λa b _ _=>ap6 _)
def tU(q:Nat->Nat->Bool)(i n:Nat):List ca:=(List.range n).flatMap λ(j:Nat)=>if q i j=true then [(⟨(i:Int),(j:Int)⟩:ca)]else []
def tO(q:Nat->Nat->Bool)(n i:Nat):List ca:=(List.range i).flatMap λi=>tU q i n
theorem LV(q:Nat->Nat->Bool)(i n:Nat):tU q i (n+1)=tU q i n++if q i n=true then [(⟨(i:Int),(n:Int)⟩:ca)]else []:=by unfold tU;rw[ape,apc];simp
theorem RA(q:Nat->Nat->Bool)(n i:Nat):tO q n (i+1)=tO q n i++tU q i n:=by unfold tO;rw[ape,apc];simp
theorem LU(q:Nat->Nat->Bool)(i:Nat):∀n,(tU q i n).length<=n
 | 0=>by simp[tU]
 | n+1=>by rw[LV,aoy];have:=LU q i n;split<;>simp<;>omega
theorem Rz(q:Nat->Nat->Bool)(n:Nat):∀i,(tO q n i).length<=i* n
 | 0=>by simp[tO]
 | i+1=>by rw[RA,aoy,aqi];have:=Rz q n i;have:=LU q i n;omega
theorem adw{q:Nat->Nat->Bool}{i n:Nat}{x:ca}:x∈tU q i n↔∃j,j<n/\q i j=true/\x=⟨(i:Int),(j:Int)⟩:=by
 unfold tU;simp only[api,aoQ];constructor
 ·rintro⟨j,ae,hx⟩;split at hx
  ·rename_i ba;exact⟨j,ae,ba,by simpa using hx⟩
  cases hx
 rintro⟨j,ae,ba,rfl⟩;exact⟨j,ae,by rw[aou ba];exact .head _⟩
theorem R2{q:Nat->Nat->Bool}{n i:Nat}{x:ca}:x∈tO q n i↔∃a j,a<i/\j<n/\q a j=true/\x=⟨(a:Int),(j:Int)⟩:=by
 unfold tO;simp only[api,aoQ,adw];constructor
 ·rintro⟨a,ay,j,ae,ba,rfl⟩;exact⟨a,j,ay,ae,ba,rfl⟩
 rintro⟨a,j,ay,ae,ba,rfl⟩;exact⟨a,ay,j,ae,ba,rfl⟩
theorem ac9(q:Nat->Nat->Bool)(n:Nat):vp n (tO q n n):=λx hx=>by obtain⟨a,j,ay,ae,_,rfl⟩:=R2.1 hx;dsimp only;exact⟨by omega,by omega,by omega,by omega⟩
theorem adz(q:Nat->Nat->Bool)(n i j:Nat)(hi:i<n)(ae:j<n):kH (tO q n n) i j=q i j:=by
 rw[aoR];simp only[kH,aop,R2,ca.mk.injEq];constructor
 ·rintro⟨a,b,_,_,ba,bu,b2⟩;rw[show i=a by omega,show j=b by omega];exact ba
 intro ba;exact⟨i,j,hi,ae,ba,rfl,rfl⟩
abbrev bF(t:aW)(i:Nat):eV:=t.J.getD i default
def jn(t:aW)(i j:Nat):Bool:=decide ((bF t i).aH=(bF t j).aH)
def sy(t:aW)(i j:Nat):Bool:=decide ((bF t i).loc=(bF t j).loc)
def eT(t:aW)(i j:Nat):Bool:=jn t i j&&decide ((bF t i).place<(bF t j).place)
def sQ(t:aW):Int:=if e0 t=true then(t.J.length:Int)else 0
def q8(t:aW)(p:Nat->Nat->Bool):List W:=if e0 t=true then b1 t.J.length p else []
theorem Wn{a p b q c r:Int}(h1:iI a p b q=true)(h2:iI b q c r=true):iI a p c r=true:=by simp only[iI,aox,aoo,aop]at *;omega
theorem U4{t:aW}(h:e0 t=true){i:Nat}(hi:i<t.J.length):lL t i=true:=by simp only[e0,aoo,jP,fT]at h;exact h.1.1.1.1.1.2.2 i hi
theorem EH{t:aW}(h:e0 t=true){i:Nat}:∀{j:Nat},i<j->j<t.J.length->iI (bF t i).aH (bF t i).place (bF t j).aH (bF t j).place=true
 | j+1,iw,ae=>by
  have h1:=U4 h ae;simp only[lL,aoo,aox,aop]at h1;have h2:=h1.2.resolve_left (by omega);rw[Nat.add_sub_cancel]at h2;by_cases kz:i=j
  ·subst kz;exact h2
  exact Wn (EH h (show i<j by omega) (by omega)) h2
theorem rL{t:aW}(h:e0 t=true){i j:Nat}(hi:i<t.J.length)(ae:j<t.J.length):eT t i j=(decide (i<j)&&jn t i j):=by
 rw[aoR];simp only[eT,jn,aoo,aop];constructor
 ·rintro⟨h1,h2⟩;refine⟨?_,h1⟩;rcases arc i j with h3 | h3 | h3
  ·exact h3
  ·subst h3;omega
  have:=EH h h3 hi;simp only[iI,aox,aoo,aop]at this;omega
 rintro⟨h1,h2⟩;have:=EH h h1 ae;simp only[iI,aox,aoo,aop]at this;exact⟨h2,by omega⟩
theorem pt{t:aW}(h:e0 t=true){i:Nat}(hi:i<t.J.length):(bF t i).dir=1\/(bF t i).dir=2:=by have h1:=U4 h hi;simp only[lL,qH,Ac,aoo,aox,aop]at h1;have:=h1.1.2;unfold bF;omega
end Go.fo
namespace Go.Proofs.bA
theorem A4{n:Nat}(bd:n<=64)(ak:Value)(l:List ca)(w:World)(h:aZ al w bB 2 ak l)(aM:vp n l):en prog 190 [.int .i64 n,ak] w (uh n (b1 n (kH l)) 0):=
 (ad5 n ak l w h).mono λ_ v es _ eJ=>by obtain⟨aK,hr,rfl,rfl⟩:=eJ;unfold KX KY vP;rw[ad4 bd l aM];exact⟨aK,hr,rfl,rfl⟩
theorem NQ{ak ah aI bv aG aR ad aT bj:Value}{t:aW}(c5:Nat)[aS prog c5](cap:List Value)(f:eV->eV->Bool)(w:World)(h:fB al w ak ah aI bv aG aR ad aT bj t) (hk:∀a b I,Mem [(w,al)] [] I->bl prog c5 ([.agg (ef a).toArray,.agg (ef b).toArray]++cap) I λ_ v _=>v=.bool (f a b)): en prog 271 [.agg #[ak,ah,aI,bv,aG,aR,ad,aT,bj],.func (.func c5) #[] cap.toArray] w (uh (sQ t) (q8 t λi j=>eT t i j&&f (bF t i) (bF t j)) (nt t)):=by
 have cF:=h.J;have Cp:=cF.le;generalize ba:(λi j=>eT t i j&&f (bF t i) (bF t j))=q;refine hL func271 ntmps271 ?_;refine b7 λaQ=>?_;refine cH λaU=>?_;refine aq (bp (λI hw=>Mp I (h.now hw)) ?_);rintro v bx bc rfl cu;refine a8 (λh1=>?_) λh1=>?_
 ·rw[ve,aoq]at h1;refine U ?_;refine bN 0 ?_;refine ea 81 1 fJ ?_;refine et rfl (.dv rfl dg rfl (.t1 rfl)) [_] [0] λI hw=>?_;unfold sQ q8;rw[h1];exact⟨_,k2,rfl,rfl⟩
 rw[ve,aos]at h1;obtain⟨hb,ma⟩:=kI h1;refine U ?_;refine ea 178 2 bB ?_;refine bX (λs:Nat×Value×List ca=>s.1<=t.J.length/\aD s.2.1/\s.2.2=tO q t.J.length s.1) (λs=>[(21,true,.int .i64 s.1),(20,true,.int .i64 t.J.length),(19,true,aI),(7,true,s.2.1),(4,true,av aU),(2,true,av aQ),(1,true,.func (.func c5) #[] cap.toArray)]) (λs=>Mem [(w,al)] [.own s.2.1 178 2 bB s.2.2,.box aU [.int .i64 0,aa] 113,.box aQ [ak,ah,aI,bv,aG,aR,ad,aT,bj] 41]) (λs=>t.J.length-s.1) (0,aa,[]) ⟨aoD _,k2,rfl⟩ ?_ ⟨rfl,rfl,rfl,rfl,rfl,rfl,rfl,trivial⟩ cv
 rintro⟨i,v1,xs⟩ ⟨hi,jy,hxs⟩;dsimp only at hi jy hxs⊢;refine a8 (λh2=>?_) λh2=>?_
 ·have bq:i<t.J.length:=by rw[an]at h2;omega
  refine U ?_;refine cH λdT=>?_;refine bN 0 ?_;refine bX (λs:Nat×Value×List ca=>s.1<=t.J.length/\aD s.2.1/\s.2.2=tO q t.J.length i++tU q i s.1) (λs=>[(29,true,.int .i64 s.1),(28,true,.int .i64 t.J.length),(27,true,aI),(21,true,.int .i64 i),(20,true,.int .i64 t.J.length),(19,true,aI),(9,true,av dT),(8,true,.int .i64 i),(7,true,s.2.1),(4,true,av aU),(2,true,av aQ),(1,true,.func (.func c5) #[] cap.toArray)]) (λs=>Mem [(w,al)] [.box dT (ef (bF t i)) 138,.own s.2.1 178 2 bB s.2.2,.box aU [.int .i64 0,aa] 113,.box aQ [ak,ah,aI,bv,aG,aR,ad,aT,bj] 41]) (λs=>t.J.length-s.1) (0,v1,xs) ⟨aoD _,jy,by dsimp only;rw[hxs];simp[tU]⟩ ?_
  rintro⟨j,v2,ys⟩ ⟨ae,hS,iL⟩;dsimp only at ae hS iL⊢;have pf:ys.length<=8192:=by rw[iL,aoy];have g1:=Rz q t.J.length i;have g2:=LU q i j;have g3:i* t.J.length<=64* 64:=Nat.mul_le_mul (by omega) hb;omega
  refine a8 (λh3=>?_) λh3=>?_
  ·have dE:j<t.J.length:=by rw[an]at h3;omega
   have Qt:((bw ((bF t i).aH=(bF t j).aH)&&bw ((bF t i).place<(bF t j).place))&&f (bF t i) (bF t j))=q i j:=by rw[<-ba,cd,cd];rfl
   refine U ?_;refine cH λdf=>?_;refine bN 0 ?_;refine e1 (h:=ev (bb:=λ_ I hw=>hk (bF t i) (bF t j) I (hw.cC []))) (ab:=U ?_);refine bC (λaA=>?_) λaA=>?_
   ·rw[Qt]at aA;refine U ?_;refine aq (eI (ab:=λv5 nI=>U ?_));refine aq (e6 3 (hk:=rfl) (bH:=by simp;omega) (ab:=λv6 nd=>U ?_));exact bm (j+1,v6,ys++[⟨(i:Int),(j:Int)⟩]) ⟨by dsimp only;omega,nd,by dsimp only;rw[iL,LV,aou aA,aoP]⟩ (by dsimp only;omega) (hA:=b4 [2,3,4,5])
   rw[Qt]at aA;refine U ?_;exact bm (j+1,v2,ys) ⟨by dsimp only;omega,hS,by dsimp only;rw[iL,LV,aot (by rw[aA];simp),aoH]⟩ (by dsimp only;omega) (hA:=b4 [1,2,3,4])
  have aaa:j=t.J.length:=by rw[au]at h3;omega
  refine U ?_;exact bm (i+1,v2,ys) ⟨by dsimp only;omega,hS,by dsimp only;rw[iL,RA,aaa]⟩ (by dsimp only;omega) (hA:=b4 [1,2,3])
 have gY:i=t.J.length:=by rw[au]at h2;omega
 refine U ?_;refine aq (gI (bb:=λI hw=>A4 hb v1 xs I (hw.dX) (by rw[hxs,gY];exact ac9 q _)) (ab:=?_));rintro v hj es fW ⟨aK,hr,rfl,rfl⟩;refine U ?_;refine bN 2 ?_;refine et rfl (.dv rfl hy rfl (.t1 rfl)) [_] [0] λI hw=>?_;refine⟨aK,hr,?_,?_⟩
 ·unfold sQ nt;rw[h1];rfl
 unfold q8;rw[h1,aou rfl,q3 (q:=q) λa b ay hb=>by rw[hxs,gY];exact adz q _ a b ay hb]
theorem aeC(a b:eV)(w:World):bl prog 272 [.agg (ef a).toArray,.agg (ef b).toArray] w λ_ v _=>v=.bool true:=by refine bZ func272 ntmps272 ?_;refine b7 λdT=>?_;refine b7 λdf=>?_;refine bT rfl (.t1 rfl) λI hw=>?_;rfl
theorem U0{ak ah aI bv aG aR ad aT bj:Value}{t:aW}(w:World)(h:fB al w ak ah aI bv aG aR ad aT bj t): en prog 187 [.agg #[ak,ah,aI,bv,aG,aR,ad,aT,bj]] w (uh (sQ t) (q8 t (eT t)) (nt t)):=by refine hL func187 ntmps187 ?_;refine b7 λaQ=>?_;refine cH λaU=>?_;refine aq (gi (λI hw=>NQ (t:=t) 272 [] (λ_ _=>true) I (h.now hw) λa b bY ht=>aeC a b bY) ?_);rintro v bx es bc ⟨aK,hr,rfl,rfl⟩;refine U ?_;refine bN 1 ?_;refine et rfl (.dv rfl dg rfl (.t1 rfl)) [_] [0] λI hw=>?_;rw[show(λi j=>eT t i j&&true)=eT t from funext λi=>funext λj=>aqx _];exact⟨aK,hr,rfl,rfl⟩
end Go.Proofs.bA
namespace Go.fo
theorem R4{m:Nat}{rows:List W}{x:ca}:x∈nM m rows↔∃i j:Nat,i<m/\aQ rows i j=true/\x=⟨(i:Int),(j:Int)⟩:=by
 unfold nM;simp only[api,aoQ,ao9,RX];constructor
 ·rintro⟨i,hi,j,ae,rfl⟩;exact⟨i,j,hi,ae,rfl⟩
 rintro⟨i,j,hi,ae,rfl⟩;exact⟨i,hi,j,ae,rfl⟩
def Bd(t:aW)(f:eV->eV->Bool)(x:ca):Bool:=f (bM.aI t x.A) (bM.aI t x.B)
def zA(t:aW)(f:eV->eV->Bool)(m:Nat)(rows:List W):List ca:=(nM m rows).filter (Bd t f)
theorem K7{m:Nat}{rows:List W}(h:fG m rows=true):vp m (nM m rows):=λx hx=>by
 obtain⟨i,j,hi,ae,rfl⟩:=R4.1 hx;have:j<m:=by
  rcases ao6 j m with cm | cm
  ·exact cm
  rw[LI h i j cm]at ae;cases ae
 dsimp only;exact⟨by omega,by omega,by omega,by omega⟩
theorem Uo{t:aW}{f:eV->eV->Bool}{m:Nat}{rows:List W}(h:fG m rows=true):vp m (zA t f m rows):=λx hx=>K7 h x (apd.1 hx).1
theorem R8{t:aW}{f:eV->eV->Bool}{m:Nat}{rows:List W}{i j:Nat}(hi:i<m):kH (zA t f m rows) i j=(aQ rows i j&&f (bF t i) (bF t j)):=by
 rw[aoR];unfold kH zA;rw[aop,apd,R4,aoo];simp only[ca.mk.injEq,Bd,bM.aI,aoF];constructor
 ·rintro⟨⟨a,b,_,hb,bu,b2⟩,h2⟩;obtain rfl:i=a:=by omega
  obtain rfl:j=b:=by omega
  exact⟨hb,h2⟩
 rintro⟨h1,h2⟩;exact⟨⟨i,j,hi,h1,rfl,rfl⟩,h2⟩
end Go.fo
namespace Go.Proofs.bA
def Hv(n:Int)(rows:List W):Nat->Value->List aB->World->Prop:=λ_ v es _=>∃aK,aD aK/\v=.agg #[.int .i64 n,aK]/\es=[eG aK rows]
theorem apart_spec{ak ah aI bv aG aR ad aT bj:Value}{t:aW}(aK:Value)(rows:List W)(w:World)(h:fB al w ak ah aI bv aG aR ad aT bj t)(aj:aZ al w fJ 1 aK rows)(bn:fG t.J.length rows=true)(bL:lK w): en prog 191 [.agg #[ak,ah,aI,bv,aG,aR,ad,aT,bj],.agg #[.int .i64 t.J.length,aK]] w (Hv t.J.length (b1 t.J.length λi j=>aQ rows i j&&!jn t i j)):=by
 have cF:=h.J;have Cp:=cF.le;have hr:=aj.aK;obtain⟨_,qF,hb,_⟩:=u6 bn;have hb:t.J.length<=64:=by omega
 have ID:Bb t.J.length rows=nM t.J.length rows:=by unfold Bb;rw[aou bn];rfl
 have Zk:(nM t.J.length rows).length<=4096:=ao5 (K6 _ _) (apo 64 hb);generalize aL:nM t.J.length rows=l at *;refine hL func191 ntmps191 ?_;refine b7 λjN=>?_;refine b7 λaU=>?_;refine cH λh7=>?_;refine aq (gi (λI hw=>SI t.J.length aK rows I (hw.now aj) (bL.now hw)) ?_);rintro v bx es bc ⟨hW,yT,rfl,rfl⟩;rw[ID];refine U ?_;refine ea 178 2 bB ?_;refine bX (λs:Nat×Value×List ca=>s.1<=l.length/\aD s.2.1/\s.2.2=(l.take s.1).filter (Bd t λa b=>!decide (a.aH=b.aH))) (λs=>[(19,true,.int .i64 s.1),(18,true,.int .i64 l.length),(17,true,hW),(7,true,s.2.1),(4,true,av h7),(3,true,av aU),(2,true,av jN)]) (λs=>Mem [(w,al)] [jE s.2.1 s.2.2,jE hW l,.box h7 [.int .i64 0,aa] 113,.box aU [.int .i64 t.J.length,aK] 113,.box jN [ak,ah,aI,bv,aG,aR,ad,aT,bj] 41]) (λs=>l.length-s.1) (0,aa,[]) ⟨aoD _,k2,by simp⟩ ?_ ⟨rfl,rfl,rfl,rfl,rfl,rfl,rfl,trivial⟩ cv
 rintro⟨i,v1,xs⟩ ⟨hi,jy,hxs⟩;dsimp only at hi jy hxs⊢;have jV:xs.length<=4096:=by rw[hxs];exact ao5 (apr _ _) (by simp;omega)
 refine a8 (λh1=>?_) λh1=>?_
 ·have bU:i<l.length:=by rw[an]at h1;omega
  have hx:l.getD i default∈nM t.J.length rows:=by rw[aL,aor,aov bU];exact apC bU
  obtain⟨g1,g2,g3,g4⟩:=K7 bn _ hx;have gj:l.take (i+1)=l.take i++[l.getD i default]:=by rw[apn,aor,aov bU];rfl
  have yU:(!bw ((bF t (l.getD i default).A.toNat).aH=(bF t (l.getD i default).B.toNat).aH))=Bd t (λa b=>!decide (a.aH=b.aH)) (l.getD i default):=by rw[cd];rfl
  refine U ?_;refine cH λzY=>?_;refine bN 0 ?_;refine cz [0,1,2,3,4,5,6,7,8,9,10,11,12,13,14] mixed ?_;refine aN ?_;refine a8 (λh2=>?_) λh2=>?_
  ·rw[yU]at h2;refine U ?_;refine aq (eI (ab:=λv5 nI=>U ?_));refine aq (e6 2 (hk:=rfl) (bH:=by simp;omega) (ab:=λv6 nd=>U ?_));exact bm (i+1,v6,xs++[l.getD i default]) ⟨by dsimp only;omega,nd,by dsimp only;rw[hxs,gj,apl,ap3 h2];rfl⟩ (by dsimp only;omega) (hA:=bD [2,3,4,5,6])
  rw[yU]at h2;refine U ?_;exact bm (i+1,v1,xs) ⟨by dsimp only;omega,jy,by dsimp only;rw[hxs,gj,apl,apQ (by rw[h2];simp)];simp⟩ (by dsimp only;omega) (hA:=bD [1,2,3,4,5])
 have gY:i=l.length:=by rw[au]at h1;omega
 have C1:xs=zA t (λa b=>!decide (a.aH=b.aH)) t.J.length rows:=by rw[hxs,gY,aoZ];unfold zA;rw[aL]
 refine U ?_;refine aq (gI (bb:=λI hw=>A4 hb v1 xs I (hw.dX) (by rw[C1];exact Uo bn)) (ab:=?_));rintro v hj es fW ⟨cJ,kl,rfl,rfl⟩;refine U ?_;refine cH λbs=>?_;refine bN 0 ?_;refine bN 4 ?_;refine et rfl (.c1 rfl qU rfl) [_] [1] λI hw=>?_;refine⟨cJ,kl,rfl,?_⟩;rw[C1,q3 λa b ay hb=>R8 ay];rfl
end Go.Proofs.bA
namespace Go.fo
def Dy(l:List Int)(i:Nat):List ca:=(l.drop (i+1)).map λb=>⟨l.getD i default,b⟩
def sI(l:List Int)(i:Nat):List ca:=(List.range i).flatMap (Dy l)
def kj(c:cw)(k:Nat):List ca:=(List.range k).flatMap λk=>sI (c.co.getD k default) (c.co.getD k default).length
def xY(t:aW)(c:cw)(r:Nat):List ca:=if(bF t r).dir=1/\0<=c.bE.getD r default then [⟨c.bE.getD r default,(r:Int)⟩]else []
def sN(t:aW)(c:cw)(n:Nat):List ca:=(List.range n).flatMap (xY t c)
def jt(t:aW)(c:cw)(r:Nat):List Int:=c.co.getD (bF t r).loc.toNat default
def p5(t:aW)(c:cw)(r:Nat):List Int:=(jt t c r).drop (fv (jt t c r) (c.bE.getD r default)+1).toNat
def yr(t:aW)(c:cw)(r:Nat):List ca:=if(bF t r).dir=1 then(p5 t c r).map λw=>⟨(r:Int),w⟩else []
def se(t:aW)(c:cw)(n:Nat):List ca:=(List.range n).flatMap (yr t c)
theorem SV(l:List Int)(i:Nat):sI l (i+1)=sI l i++Dy l i:=by unfold sI;rw[ape,apc];simp
theorem Oi(c:cw)(k:Nat):kj c (k+1)=kj c k++sI (c.co.getD k default) (c.co.getD k default).length:=by unfold kj;rw[ape,apc];simp
theorem GM(t:aW)(c:cw)(n:Nat):sN t c (n+1)=sN t c n++xY t c n:=by unfold sN;rw[ape,apc];simp
theorem Iu(t:aW)(c:cw)(n:Nat):se t c (n+1)=se t c n++yr t c n:=by unfold se;rw[ape,apc];simp
def uj(l:List Int)(a b:Int):Bool:=decide (0<=fv l a)&&decide (fv l a<fv l b)
def jf(t:aW)(c:cw)(i j:Nat):Bool:=uj (jt t c i) i j
def jG(Wf:aW)(c:cw)(i j:Nat):Bool:=decide ((bF Wf j).dir=1)&&decide (c.bE.getD j default=(i:Int))
def kx(t:aW)(c:cw)(i j:Nat):Bool:=decide ((bF t i).dir=1)&&decide (fv (jt t c i) (c.bE.getD i default)<fv (jt t c i) j)
def sG(t:aW)(i j:Nat):Bool:=eT t i j&&sy t i j
def lq(t:aW)(p:Nat->Nat->Bool)(i j:Nat):Bool:=p i j&&!jn t i j
def rp(t:aW)(c:cw)(i j:Nat):Bool:=(jG t c i j||jf t c i j)||kx t c i j
theorem Dc(l:List Int)(x:Int): -1<=fv l x:=by unfold fv;split<;>omega
theorem Ki{l:List Int}{x:Int}(h:x∈l):fv l x<l.length:=by unfold fv;rw[aou h];have:=apO h;omega
theorem FV{l:List Int}{x:Int}(h:0<=fv l x):l.getD (fv l x).toNat default=x:=by have hm:=(wv l x).1 h;unfold fv;rw[aou hm,aoF];have dq:=apO hm;rw[aor,aov dq];simp
theorem Db{l:List Int}(h:l.Nodup){p:Nat}(hp:p<l.length):fv l (l.getD p default)=p:=by
 have hm:l.getD p default∈l:=by rw[aor,aov hp];exact apC hp
 unfold fv;rw[aou hm,Kc hp rfl λj ae he=>?_];rw[aor,aor,aov hp,aov (show j<l.length by omega)]at he;exact aph.1 h j p (by omega) hp ae he
theorem KK{l:List Int}(h:l.Nodup)(m:Nat)(x:Int):x∈l.drop m↔(m:Int)<=fv l x:=by
 constructor
 ·intro hx;obtain⟨q,ba,rfl⟩:=uX.1 hx;rw[apG]at ba;have e:(l.drop m).getD q default=l.getD (m+q) default:=by rw[aor,aor,apW]
  rw[e,Db h (by omega)];omega
 intro hx;have h0:0<=fv l x:=by omega
 have dq:=Ki ((wv l x).1 h0);refine uX.2 ⟨(fv l x).toNat-m,by rw[apG];omega,?_⟩;rw[aor,apW,show m+((fv l x).toNat-m)=(fv l x).toNat by omega,<-aor];exact FV h0
theorem R5{l:List Int}(h:l.Nodup)(a b:Int):(⟨a,b⟩:ca)∈sI l l.length↔uj l a b=true:=by
 unfold sI Dy uj;simp only[api,aoQ,ao9,ca.mk.injEq,aoo,aop];constructor
 ·rintro⟨p,hp,x,hx,rfl,rfl⟩;rw[KK h]at hx;rw[Db h hp];omega
 rintro⟨h1,h2⟩;have dq:=Ki ((wv l a).1 h1);refine⟨(fv l a).toNat,by omega,b,(KK h _ _).2 (by omega),FV h1,rfl⟩
theorem KN{t:aW}{loc x:Int}:x∈wr t loc↔∃i:Nat,i<t.J.length/\x=i/\(bF t i).dir=2/\(bF t i).loc=loc:=by
 unfold wr rf;simp only[ao9,apd,aoQ,nQ,aoo,aop];constructor
 ·rintro⟨i,⟨h1,h2,h3⟩,rfl⟩;exact⟨i,h1,rfl,h2,h3⟩
 rintro⟨i,h1,rfl,h2,h3⟩;exact⟨i,⟨h1,h2,h3⟩,rfl⟩
theorem Ex{t:aW}{c:cw}(ai:oD t c=true){k:Nat}(hk:k<t.aO.length):(c.co.getD k default).Perm (wr t (k:Int)):=by have:=((r6 t c).1 ai).2.2.2 k hk;rw[D0,aop]at this;exact this▸(G0 _).symm
theorem Cf{t:aW}{c:cw}(ai:oD t c=true){k:Nat}(hk:k<t.aO.length):(c.co.getD k default).Nodup:=(Ex ai hk).nodup_iff.2 (MV t _ _).nodup
theorem vG{t:aW}{c:cw}(ai:oD t c=true){k:Nat}(hk:k<t.aO.length){x:Int}:x∈c.co.getD k default↔∃i:Nat,i<t.J.length/\x=i/\(bF t i).dir=2/\(bF t i).loc=k:=(Ex ai hk).mem_iff.trans KN
theorem XF{t:aW}{c:cw}(ai:oD t c=true){k:Nat}(hk:k<t.aO.length):(c.co.getD k default).length<=t.J.length:=by rw[(Ex ai hk).length_eq];exact zF _ _ _
theorem uU{t:aW}(aJ:e0 t=true){i:Nat}(hi:i<t.J.length):∃k:Nat,(bF t i).loc=k/\k<t.aO.length:=by have h:=Ha aJ hi;refine⟨(bF t i).loc.toNat,?_,?_⟩<;>unfold bF<;>omega
theorem vH{t:aW}{c:cw}{i k:Nat}(h:(bF t i).loc=k):jt t c i=c.co.getD k default:=by unfold jt;rw[h];rfl
theorem LP{t:aW}{c:cw}(ai:oD t c=true){i:Nat}(hi:i<t.J.length):c.bE.getD i default= -1\/((bF t i).dir=1/\c.bE.getD i default∈wr t (bF t i).loc):=by have:=((r6 t c).1 ai).2.2.1 i hi;simp only[DE,aox,aoo,aop]at this;exact this
section
variable {t:aW} {c:cw} (aJ:e0 t=true) (ai:oD t c=true)
include aJ ai
theorem RZ(a b:Int):(⟨a,b⟩:ca)∈kj c c.co.length↔∃k,k<t.aO.length/\uj (c.co.getD k default) a b=true:=by
 have aL:=((r6 t c).1 ai).2.1;unfold kj;simp only[api,aoQ];constructor
 ·rintro⟨k,hk,h⟩;exact⟨k,by omega,(R5 (Cf ai (by omega)) a b).1 h⟩
 rintro⟨k,hk,h⟩;exact⟨k,by omega,(R5 (Cf ai (by omega)) a b).2 h⟩
theorem NC{k:Nat}(hk:k<t.aO.length){a b:Int}(h:uj (c.co.getD k default) a b=true):a∈c.co.getD k default/\b∈c.co.getD k default:=by simp only[uj,aoo,aop]at h;exact⟨(wv _ _).1 h.1,(wv _ _).1 (by omega)⟩
theorem XD:vp t.J.length (kj c c.co.length):=λx hx=>by obtain⟨a,b⟩:=x;obtain⟨k,hk,h⟩:=(RZ aJ ai a b).1 hx;obtain⟨h1,h2⟩:=NC aJ ai hk h;obtain⟨i,hi,rfl,_⟩:=(vG ai hk).1 h1;obtain⟨j,ae,rfl,_⟩:=(vG ai hk).1 h2;dsimp only;omega
theorem adx{i j:Nat}(hi:i<t.J.length):kH (kj c c.co.length) i j=jf t c i j:=by
 rw[aoR];unfold kH;rw[aop,RZ aJ ai];unfold jf;obtain⟨q,ba,ss⟩:=uU aJ hi;rw[vH ba];constructor
 ·rintro⟨k,hk,h⟩;obtain⟨h1,_⟩:=NC aJ ai hk h;obtain⟨abE,_,e,_,aL⟩:=(vG ai hk).1 h1;obtain rfl:i=abE:=by omega
  obtain rfl:q=k:=by omega
  exact h
 intro h;exact⟨q,ss,h⟩
theorem R6(a b:Int):(⟨a,b⟩:ca)∈sN t c t.J.length↔∃r:Nat,r<t.J.length/\b=r/\(bF t r).dir=1/\0<=a/\c.bE.getD r default=a:=by
 unfold sN xY;simp only[api,aoQ];constructor
 ·rintro⟨r,aM,h⟩;split at h
  ·rename_i eC;simp only[aoB,ca.mk.injEq]at h;exact⟨r,aM,h.2,eC.1,h.1▸eC.2,h.1.symm⟩
  cases h
 rintro⟨r,aM,rfl,h1,h2,h3⟩;exact⟨r,aM,by rw[aou ⟨h1,by omega⟩,h3];exact .head _⟩
theorem agK:vp t.J.length (sN t c t.J.length):=λx hx=>by
 obtain⟨a,b⟩:=x;obtain⟨r,aM,rfl,h1,h2,h3⟩:=(R6 aJ ai a b).1 hx;rcases LP ai aM with h | ⟨_,h⟩
 ·omega
 obtain⟨i,hi,e,_⟩:=KN.1 h;dsimp only;omega
theorem adA{i j:Nat}(ae:j<t.J.length):kH (sN t c t.J.length) i j=jG t c i j:=by
 rw[aoR];unfold kH jG;rw[aop,R6 aJ ai,aoo,aop,aop];constructor
 ·rintro⟨r,aM,e,h1,h2,h3⟩;obtain rfl:j=r:=by omega
  exact⟨h1,h3⟩
 rintro⟨h1,h2⟩;exact⟨j,ae,rfl,h1,by omega,h2⟩
theorem R1{r:Nat}(aM:r<t.J.length)(x:Int):x∈p5 t c r↔fv (jt t c r) (c.bE.getD r default)<fv (jt t c r) x:=by obtain⟨q,ba,ss⟩:=uU aJ aM;unfold p5;rw[vH ba,KK (Cf ai ss)];have:=Dc (c.co.getD q default) (c.bE.getD r default);omega
theorem R0(a b:Int):(⟨a,b⟩:ca)∈se t c t.J.length↔∃r:Nat,r<t.J.length/\a=r/\(bF t r).dir=1/\fv (jt t c r) (c.bE.getD r default)<fv (jt t c r) b:=by
 unfold se yr;simp only[api,aoQ];constructor
 ·rintro⟨r,aM,h⟩;split at h
  ·rename_i eC;obtain⟨x,hx,e⟩:=ao9.1 h;injection e with bu b2;subst b2;exact⟨r,aM,bu.symm,eC,(R1 aJ ai aM _).1 hx⟩
  cases h
 rintro⟨r,aM,rfl,h1,h2⟩;exact⟨r,aM,by rw[aou h1];exact ao9.2 ⟨b,(R1 aJ ai aM _).2 h2,rfl⟩⟩
theorem YO{r:Nat}(aM:r<t.J.length){b:Int}(h:fv (jt t c r) (c.bE.getD r default)<fv (jt t c r) b):∃j:Nat,j<t.J.length/\b=j/\(bF t j).dir=2/\(bF t j).loc=(bF t r).loc:=by
 obtain⟨q,ba,ss⟩:=uU aJ aM;have h0:0<=fv (jt t c r) b:=by have:=Dc (jt t c r) (c.bE.getD r default);omega
 rw[vH ba]at h0;obtain⟨j,ae,e,h1,h2⟩:=(vG ai ss).1 ((wv _ _).1 h0);exact⟨j,ae,e,h1,by omega⟩
theorem YN:vp t.J.length (se t c t.J.length):=λx hx=>by obtain⟨a,b⟩:=x;obtain⟨r,aM,rfl,h1,h2⟩:=(R0 aJ ai a b).1 hx;obtain⟨j,ae,rfl,_⟩:=YO aJ ai aM h2;dsimp only;omega
theorem ady{i j:Nat}(hi:i<t.J.length):kH (se t c t.J.length) i j=kx t c i j:=by
 rw[aoR];unfold kH kx;rw[aop,R0 aJ ai,aoo,aop,aop];constructor
 ·rintro⟨r,aM,e,h1,h2⟩;obtain rfl:i=r:=by omega
  exact⟨h1,h2⟩
 rintro⟨h1,h2⟩;exact⟨i,hi,rfl,h1,h2⟩
end
end Go.fo
