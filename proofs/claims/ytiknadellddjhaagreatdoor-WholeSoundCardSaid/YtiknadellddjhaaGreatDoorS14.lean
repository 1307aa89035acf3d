/- Lemmas for the law WholeSound. -/
import Derived.Test.YtiknadellddjhaaGreatDoorS13
set_option linter.all false
open Go.Proofs.Tryz
set_option maxHeartbeats 3200000
open Go Go.cc Go.bU Go.gH Go.eV
attribute [local irreducible] Go.wpList Go.Code.wp Go.bodyPost Go.Exit.then Go.Exit.inBlock Go.Calls
namespace Go.eV
def kp(l:List b5)(i j:Nat):Bool:=decide ((⟨(i:Int),(j:Int)⟩:b5)∈l)
def uW(m:Nat)(l:List b5):Prop:=∀x,x∈l->0<=x.A/\x.A<m/\0<=x.B/\x.B<m
theorem Rn{m:Nat}(hm:m<=64):∀(l:List b5) (p:Nat->Nat->Bool),uW m l->vV m (bT m p) l=some (bT m λi j=>p i j||kp l i j)
 | [],p,_=>by unfold vV;rw[show bT m p=bT m λi j=>p i j||kp [] i j from qM λa b _ _=>by simp[kp]]
 | x::l,p,h=>by
  obtain⟨h1,h2,h3,aC⟩:=h x aL;unfold vV;rw[amo ⟨h1,h2,h3,aC⟩,adz m p hm _ _ (by omega) (by omega),Rn hm l _ λy aR=>h y (.tail _ aR)];refine amC some (qM λa b _ _=>?_);rw[Bool.or_assoc];refine amC (p a b||·) ?_;rw[amN];simp only[kp,amr,ami,amj,amG];obtain⟨Ma,lZ⟩:=x;simp only[b5.mk.injEq]at *;constructor
  ·rintro(⟨bC,cd⟩ | e)
   ·exact .inl ⟨by omega,by omega⟩
   exact .inr e
  rintro(⟨bC,cd⟩ | e)
  ·exact .inl ⟨by omega,by omega⟩
  exact .inr e
theorem acM{n:Nat}(bh:n<=64)(l:List b5)(h:uW n l):rl (n:Int) l=some (bT n (kp l)):=by unfold rl;rw[amo (by omega),amw,<-ae5,Rn bh l _ h];exact amC some (qM λa b _ _=>anU _)
def tB(q:Nat->Nat->Bool)(i n:Nat):List b5:=(List.range n).flatMap λ(j:Nat)=>if q i j=true then [(⟨(i:Int),(j:Int)⟩:b5)]else []
def tv(q:Nat->Nat->Bool)(n i:Nat):List b5:=(List.range i).flatMap λi=>tB q i n
theorem K8(q:Nat->Nat->Bool)(i n:Nat):tB q i (n+1)=tB q i n++if q i n=true then [(⟨(i:Int),(n:Int)⟩:b5)]else []:=by unfold tB;rw[am6,am4];simp
theorem QC(q:Nat->Nat->Bool)(n i:Nat):tv q n (i+1)=tv q n i++tB q i n:=by unfold tv;rw[am6,am4];simp
theorem K7(q:Nat->Nat->Bool)(i:Nat):∀n,(tB q i n).length<=n
 | 0=>by simp[tB]
 | n+1=>by rw[K8,ams];have:=K7 q i n;split<;>simp<;>omega
theorem QB(q:Nat->Nat->Bool)(n:Nat):∀i,(tv q n i).length<=i* n
 | 0=>by simp[tv]
 | i+1=>by rw[QC,ams,aob];have:=QB q n i;have:=K7 q i n;omega
theorem acb{q:Nat->Nat->Bool}{i n:Nat}{x:b5}:x∈tB q i n↔∃j,j<n/\q i j=true/\x=⟨(i:Int),(j:Int)⟩:=by
 unfold tB;simp only[ana,amH];constructor
 ·rintro⟨j,ad,hx⟩;split at hx
  ·rename_i aZ;exact⟨j,ad,aZ,by simpa using hx⟩
  cases hx
 rintro⟨j,ad,aZ,rfl⟩;exact⟨j,ad,by rw[amo aZ];exact .head _⟩
theorem Q5{q:Nat->Nat->Bool}{n i:Nat}{x:b5}:x∈tv q n i↔∃a j,a<i/\j<n/\q a j=true/\x=⟨(a:Int),(j:Int)⟩:=by
 unfold tv;simp only[ana,amH,acb];constructor
 ·rintro⟨a,au,j,ad,aZ,rfl⟩;exact⟨a,j,au,ad,aZ,rfl⟩
 rintro⟨a,j,au,ad,aZ,rfl⟩;exact⟨a,au,j,ad,aZ,rfl⟩
theorem abN(q:Nat->Nat->Bool)(n:Nat):uW n (tv q n n):=λx hx=>by obtain⟨a,j,au,ad,_,rfl⟩:=Q5.1 hx;dsimp only;exact⟨by omega,by omega,by omega,by omega⟩
theorem acf(q:Nat->Nat->Bool)(n i j:Nat)(hi:i<n)(ad:j<n):kp (tv q n n) i j=q i j:=by
 rw[amN];simp only[kp,amj,Q5,b5.mk.injEq];constructor
 ·rintro⟨a,b,_,_,aZ,bC,cd⟩;rw[show i=a by omega,show j=b by omega];exact aZ
 intro aZ;exact⟨i,j,hi,ad,aZ,rfl,rfl⟩
abbrev bf(t:a1)(i:Nat):eL:=t.J.getD i default
def ik(t:a1)(i j:Nat):Bool:=decide ((bf t i).aI=(bf t j).aI)
def ov(t:a1)(i j:Nat):Bool:=decide ((bf t i).loc=(bf t j).loc)
def dK(t:a1)(i j:Nat):Bool:=ik t i j&&decide ((bf t i).place<(bf t j).place)
def su(t:a1):Int:=if gL t=true then(t.J.length:Int)else 0
def qP(t:a1)(p:Nat->Nat->Bool):List W:=if gL t=true then bT t.J.length p else []
theorem Vt{a p b q c r:Int}(h1:jh a p b q=true)(h2:jh b q c r=true):jh a p c r=true:=by simp only[jh,amr,ami,amj]at *;omega
theorem T6{t:a1}(h:gL t=true){i:Nat}(hi:i<t.J.length):pY t i=true:=by simp only[gL,ami,oP,fX]at h;exact h.1.1.1.1.1.2.2 i hi
theorem D4{t:a1}(h:gL t=true){i:Nat}:∀{j:Nat},i<j->j<t.J.length->jh (bf t i).aI (bf t i).place (bf t j).aI (bf t j).place=true
 | j+1,hN,ad=>by
  have h1:=T6 h ad;simp only[pY,ami,amr,amj]at h1;have h2:=h1.2.resolve_left (by omega);rw[Nat.add_sub_cancel]at h2;by_cases kh:i=j
  ·subst kh;exact h2
  exact Vt (D4 h (show i<j by omega) (by omega)) h2
theorem qI{t:a1}(h:gL t=true){i j:Nat}(hi:i<t.J.length)(ad:j<t.J.length):dK t i j=(decide (i<j)&&ik t i j):=by
 rw[amN];simp only[dK,ik,ami,amj];constructor
 ·rintro⟨h1,h2⟩;refine⟨?_,h1⟩;rcases aoV i j with h3 | h3 | h3
  ·exact h3
  ·subst h3;omega
  have:=D4 h h3 hi;simp only[jh,amr,ami,amj]at this;omega
 rintro⟨h1,h2⟩;have:=D4 h h1 ad;simp only[jh,amr,ami,amj]at this;exact⟨h2,by omega⟩
theorem mU{t:a1}(h:gL t=true){i:Nat}(hi:i<t.J.length):(bf t i).dir=1\/(bf t i).dir=2:=by have h1:=T6 h hi;simp only[pY,vg,DX,ami,amr,amj]at h1;have:=h1.1.2;unfold bf;omega
end Go.eV
namespace Go.Proofs.bK
theorem Am{n:Nat}(bh:n<=64)(lv:Value)(l:List b5)(w:World)(h:aV an w bz 2 lv l)(aH:uW n l):eH prog 190 [.int .i64 n,lv] w (tM n (bT n (kp l)) 0):=
 (acN n lv l w h).mono λ_ v es _ ew=>by obtain⟨aG,gZ,rfl,rfl⟩:=ew;unfold Kf Kg vf;rw[acM bh l aH];exact⟨aG,gZ,rfl,rfl⟩
theorem MU{lv aj aN bv aK aX ae aU bE:Value}{t:a1}(c3:Nat)[aS prog c3](cap:List Value)(f:eL->eL->Bool)(w:World)(h:ha an w lv aj aN bv aK aX ae aU bE t) (hk:∀a b I,Mem [(w,an)] [] I->bj prog c3 ([.agg (ec a).toArray,.agg (ec b).toArray]++cap) I λ_ v _=>v=.bool (f a b)): eH prog 271 [.agg #[lv,aj,aN,bv,aK,aX,ae,aU,bE],.func (.func c3) #[] cap.toArray] w (tM (su t) (qP t λi j=>dK t i j&&f (bf t i) (bf t j)) (pN t)):=by
 have cP:=h.J;have Eo:=cP.le;generalize aZ:(λi j=>dK t i j&&f (bf t i) (bf t j))=q;refine iY func271 ntmps271 ?_;refine ck λaT=>?_;refine cU λaO=>?_;refine ao (bw (λI hw=>TR I (h.now hw)) ?_);rintro v bx a6 rfl cA;refine bg (λh1=>?_) λh1=>?_
 ·rw[A1,amk]at h1;refine aa ?_;refine bQ 0 ?_;refine dZ 81 1 fA ?_;refine eR rfl (.dz rfl ds rfl (.t1 rfl)) [_] [0] λI hw=>?_;unfold su qP;rw[h1];exact⟨_,kL,rfl,rfl⟩
 rw[A1,amm]at h1;obtain⟨hb,w0⟩:=lD h1;refine aa ?_;refine dZ 178 2 bz ?_;refine b9 (λs:Nat×Value×List b5=>s.1<=t.J.length/\aD s.2.1/\s.2.2=tv q t.J.length s.1) (λs=>[(21,true,.int .i64 s.1),(20,true,.int .i64 t.J.length),(19,true,aN),(7,true,s.2.1),(4,true,ax aO),(2,true,ax aT),(1,true,.func (.func c3) #[] cap.toArray)]) (λs=>Mem [(w,an)] [.own s.2.1 178 2 bz s.2.2,.box aO [.int .i64 0,U] 113,.box aT [lv,aj,aN,bv,aK,aX,ae,aU,bE] 41]) (λs=>t.J.length-s.1) (0,U,[]) ⟨amz _,kL,rfl⟩ ?_ ⟨rfl,rfl,rfl,rfl,rfl,rfl,rfl,trivial⟩ c7
 rintro⟨i,v1,xs⟩ ⟨hi,j6,hxs⟩;dsimp only at hi j6 hxs⊢;refine bg (λh2=>?_) λh2=>?_
 ·have bF:i<t.J.length:=by rw[aq]at h2;omega
  refine aa ?_;refine cU λdS=>?_;refine bQ 0 ?_;refine b9 (λs:Nat×Value×List b5=>s.1<=t.J.length/\aD s.2.1/\s.2.2=tv q t.J.length i++tB q i s.1) (λs=>[(29,true,.int .i64 s.1),(28,true,.int .i64 t.J.length),(27,true,aN),(21,true,.int .i64 i),(20,true,.int .i64 t.J.length),(19,true,aN),(9,true,ax dS),(8,true,.int .i64 i),(7,true,s.2.1),(4,true,ax aO),(2,true,ax aT),(1,true,.func (.func c3) #[] cap.toArray)]) (λs=>Mem [(w,an)] [.box dS (ec (bf t i)) 138,.own s.2.1 178 2 bz s.2.2,.box aO [.int .i64 0,U] 113,.box aT [lv,aj,aN,bv,aK,aX,ae,aU,bE] 41]) (λs=>t.J.length-s.1) (0,v1,xs) ⟨amz _,j6,by dsimp only;rw[hxs];simp[tB]⟩ ?_
  rintro⟨j,v2,ys⟩ ⟨ad,iM,iz⟩;dsimp only at ad iM iz⊢;have o2:ys.length<=8192:=by rw[iz,ams];have g1:=QB q t.J.length i;have g2:=K7 q i j;have g3:i* t.J.length<=64* 64:=Nat.mul_le_mul (by omega) hb;omega
  refine bg (λh3=>?_) λh3=>?_
  ·have dw:j<t.J.length:=by rw[aq]at h3;omega
   have Py:((bO ((bf t i).aI=(bf t j).aI)&&bO ((bf t i).place<(bf t j).place))&&f (bf t i) (bf t j))=q i j:=by rw[<-aZ,ch,ch];rfl
   refine aa ?_;refine cU λdc=>?_;refine bQ 0 ?_;refine fm (h:=eY (a7:=λ_ I hw=>hk (bf t i) (bf t j) I (hw.cm []))) (ab:=aa ?_);refine bA (λaC=>?_) λaC=>?_
   ·rw[Py]at aC;refine aa ?_;refine ao (eA _ _ (ab:=λv5 om=>aa ?_));refine ao (e6 3 (hk:=rfl) (bG:=by simp;omega) (ab:=λv6 mH=>aa ?_));exact bt (j+1,v6,ys++[⟨(i:Int),(j:Int)⟩]) ⟨by dsimp only;omega,mH,by dsimp only;rw[iz,K8,amo aC,amJ]⟩ (by dsimp only;omega) (hA:=bV [2,3,4,5])
   rw[Py]at aC;refine aa ?_;exact bt (j+1,v2,ys) ⟨by dsimp only;omega,iM,by dsimp only;rw[iz,K8,amn (by rw[aC];simp),amB]⟩ (by dsimp only;omega) (hA:=bV [1,2,3,4])
  have YW:j=t.J.length:=by rw[ar]at h3;omega
  refine aa ?_;exact bt (i+1,v2,ys) ⟨by dsimp only;omega,iM,by dsimp only;rw[iz,QC,YW]⟩ (by dsimp only;omega) (hA:=bV [1,2,3])
 have hy:i=t.J.length:=by rw[ar]at h2;omega
 refine aa ?_;refine ao (gS (a7:=λI hw=>Am hb v1 xs I (hw.ed) (by rw[hxs,hy];exact abN q _)) (ab:=?_));rintro v hD es gb ⟨aG,gZ,rfl,rfl⟩;refine aa ?_;refine bQ 2 ?_;refine eR rfl (.dz rfl gC rfl (.t1 rfl)) [_] [0] λI hw=>?_;refine⟨aG,gZ,?_,?_⟩
 ·unfold su pN;rw[h1];rfl
 unfold qP;rw[h1,amo rfl,qM (q:=q) λa b au hb=>by rw[hxs,hy];exact acf q _ a b au hb]
theorem adh(a b:eL)(w:World):bj prog 272 [.agg (ec a).toArray,.agg (ec b).toArray] w λ_ v _=>v=.bool true:=by refine ca func272 ntmps272 ?_;refine ck λdS=>?_;refine ck λdc=>?_;refine bP rfl (.t1 rfl) λI hw=>?_;rfl
theorem T2{lv aj aN bv aK aX ae aU bE:Value}{t:a1}(w:World)(h:ha an w lv aj aN bv aK aX ae aU bE t): eH prog 187 [.agg #[lv,aj,aN,bv,aK,aX,ae,aU,bE]] w (tM (su t) (qP t (dK t)) (pN t)):=by refine iY func187 ntmps187 ?_;refine ck λaT=>?_;refine cU λaO=>?_;refine ao (gr (λI hw=>MU (t:=t) 272 [] (λ_ _=>true) I (h.now hw) λa b bX hj=>adh a b bX) ?_);rintro v bx es a6 ⟨aG,gZ,rfl,rfl⟩;refine aa ?_;refine bQ 1 ?_;refine eR rfl (.dz rfl ds rfl (.t1 rfl)) [_] [0] λI hw=>?_;rw[show(λi j=>dK t i j&&true)=dK t from funext λi=>funext λj=>aoG _];exact⟨aG,gZ,rfl,rfl⟩
end Go.Proofs.bK
namespace Go.eV
theorem Q7{m:Nat}{rows:List W}{x:b5}:x∈nt m rows↔∃i j:Nat,i<m/\aT rows i j=true/\x=⟨(i:Int),(j:Int)⟩:=by
 unfold nt;simp only[ana,amH,am1,Q0];constructor
 ·rintro⟨i,hi,j,ad,rfl⟩;exact⟨i,j,hi,ad,rfl⟩
 rintro⟨i,j,hi,ad,rfl⟩;exact⟨i,hi,j,ad,rfl⟩
def Av(t:a1)(f:eL->eL->Bool)(x:b5):Bool:=f (bU.aN t x.A) (bU.aN t x.B)
def yW(t:a1)(f:eL->eL->Bool)(m:Nat)(rows:List W):List b5:=(nt m rows).filter (Av t f)
theorem Kp{m:Nat}{rows:List W}(h:fx m rows=true):uW m (nt m rows):=λx hx=>by
 obtain⟨i,j,hi,ad,rfl⟩:=Q7.1 hx;have:j<m:=by
  rcases amY j m with cr | cr
  ·exact cr
  rw[KW h i j cr]at ad;cases ad
 dsimp only;exact⟨by omega,by omega,by omega,by omega⟩
theorem Tt{t:a1}{f:eL->eL->Bool}{m:Nat}{rows:List W}(h:fx m rows=true):uW m (yW t f m rows):=λx hx=>Kp h x (am5.1 hx).1
theorem Rb{t:a1}{f:eL->eL->Bool}{m:Nat}{rows:List W}{i j:Nat}(hi:i<m):kp (yW t f m rows) i j=(aT rows i j&&f (bf t i) (bf t j)):=by
 rw[amN];unfold kp yW;rw[amj,am5,Q7,ami];simp only[b5.mk.injEq,Av,bU.aN,amw];constructor
 ·rintro⟨⟨a,b,_,hb,bC,cd⟩,h2⟩;obtain rfl:i=a:=by omega
  obtain rfl:j=b:=by omega
  exact⟨hb,h2⟩
 rintro⟨h1,h2⟩;exact⟨⟨i,j,hi,h1,rfl,rfl⟩,h2⟩
end Go.eV
namespace Go.Proofs.bK
def G1(n:Int)(rows:List W):Nat->Value->List aA->World->Prop:=λ_ v es _=>∃aG,aD aG/\v=.agg #[.int .i64 n,aG]/\es=[et aG rows]
theorem apart_spec{lv aj aN bv aK aX ae aU bE:Value}{t:a1}(aG:Value)(rows:List W)(w:World)(h:ha an w lv aj aN bv aK aX ae aU bE t)(ag:aV an w fA 1 aG rows)(bm:fx t.J.length rows=true)(bp:lg w): eH prog 191 [.agg #[lv,aj,aN,bv,aK,aX,ae,aU,bE],.agg #[.int .i64 t.J.length,aG]] w (G1 t.J.length (bT t.J.length λi j=>aT rows i j&&!ik t i j)):=by
 have cP:=h.J;have Eo:=cP.le;have gZ:=ag.aG;obtain⟨_,qu,hb,_⟩:=uF bm;have hb:t.J.length<=64:=by omega
 have H2:As t.J.length rows=nt t.J.length rows:=by unfold As;rw[amo bm];rfl
 have X6:(nt t.J.length rows).length<=4096:=ani (Ko _ _) (anh 64 hb);generalize aB:nt t.J.length rows=l at *;refine iY func191 ntmps191 ?_;refine ck λjA=>?_;refine ck λaO=>?_;refine cU λnB=>?_;refine ao (gr (λI hw=>RO t.J.length aG rows I (hw.now ag) (bp.now hw)) ?_);rintro v bx es a6 ⟨iQ,yi,rfl,rfl⟩;rw[H2];refine aa ?_;refine dZ 178 2 bz ?_;refine b9 (λs:Nat×Value×List b5=>s.1<=l.length/\aD s.2.1/\s.2.2=(l.take s.1).filter (Av t λa b=>!decide (a.aI=b.aI))) (λs=>[(19,true,.int .i64 s.1),(18,true,.int .i64 l.length),(17,true,iQ),(7,true,s.2.1),(4,true,ax nB),(3,true,ax aO),(2,true,ax jA)]) (λs=>Mem [(w,an)] [js s.2.1 s.2.2,js iQ l,.box nB [.int .i64 0,U] 113,.box aO [.int .i64 t.J.length,aG] 113,.box jA [lv,aj,aN,bv,aK,aX,ae,aU,bE] 41]) (λs=>l.length-s.1) (0,U,[]) ⟨amz _,kL,by simp⟩ ?_ ⟨rfl,rfl,rfl,rfl,rfl,rfl,rfl,trivial⟩ c7
 rintro⟨i,v1,xs⟩ ⟨hi,j6,hxs⟩;dsimp only at hi j6 hxs⊢;have nm:xs.length<=4096:=by rw[hxs];exact ani (anj _ _) (by simp;omega)
 refine bg (λh1=>?_) λh1=>?_
 ·have cb:i<l.length:=by rw[aq]at h1;omega
  have hx:l.getD i default∈nt t.J.length rows:=by rw[aB,aml,amp cb];exact anx cb
  obtain⟨g1,g2,g3,g4⟩:=Kp bm _ hx;have gu:l.take (i+1)=l.take i++[l.getD i default]:=by rw[ang,aml,amp cb];rfl
  have Ca:(!bO ((bf t (l.getD i default).A.toNat).aI=(bf t (l.getD i default).B.toNat).aI))=Av t (λa b=>!decide (a.aI=b.aI)) (l.getD i default):=by rw[ch];rfl
  refine aa ?_;refine cU λBu=>?_;refine bQ 0 ?_;refine cV [0,1,2,3,4,5,6,7,8,9,10,11,12,13,14] mixed ?_;refine aP ?_;refine bg (λh2=>?_) λh2=>?_
  ·rw[Ca]at h2;refine aa ?_;refine ao (eA _ _ (ab:=λv5 om=>aa ?_));refine ao (e6 2 (hk:=rfl) (bG:=by simp;omega) (ab:=λv6 mH=>aa ?_));exact bt (i+1,v6,xs++[l.getD i default]) ⟨by dsimp only;omega,mH,by dsimp only;rw[hxs,gu,anc,anX h2];rfl⟩ (by dsimp only;omega) (hA:=bM [2,3,4,5,6])
  rw[Ca]at h2;refine aa ?_;exact bt (i+1,v1,xs) ⟨by dsimp only;omega,j6,by dsimp only;rw[hxs,gu,anc,anI (by rw[h2];simp)];simp⟩ (by dsimp only;omega) (hA:=bM [1,2,3,4,5])
 have hy:i=l.length:=by rw[ar]at h1;omega
 have Cn:xs=yW t (λa b=>!decide (a.aI=b.aI)) t.J.length rows:=by rw[hxs,hy,amU];unfold yW;rw[aB]
 refine aa ?_;refine ao (gS (a7:=λI hw=>Am hb v1 xs I (hw.ed) (by rw[Cn];exact Tt bm)) (ab:=?_));rintro v hD es gb ⟨cy,j4,rfl,rfl⟩;refine aa ?_;refine cU λbs=>?_;refine bQ 0 ?_;refine bQ 4 ?_;refine eR rfl (.c1 rfl qE rfl) [_] [1] λI hw=>?_;refine⟨cy,j4,rfl,?_⟩;rw[Cn,qM λa b au hb=>Rb au];rfl
end Go.Proofs.bK
namespace Go.eV
def CS(l:List Int)(i:Nat):List b5:=(l.drop (i+1)).map λb=>⟨l.getD i default,b⟩
def sl(l:List Int)(i:Nat):List b5:=(List.range i).flatMap (CS l)
def ps(c:cv)(k:Nat):List b5:=(List.range k).flatMap λk=>sl (c.co.getD k default) (c.co.getD k default).length
def xm(t:a1)(c:cv)(r:Nat):List b5:=if(bf t r).dir=1/\0<=c.br.getD r default then [⟨c.br.getD r default,(r:Int)⟩]else []
def sq(t:a1)(c:cv)(n:Nat):List b5:=(List.range n).flatMap (xm t c)
def iH(t:a1)(c:cv)(r:Nat):List Int:=c.co.getD (bf t r).loc.toNat default
def p0(t:a1)(c:cv)(r:Nat):List Int:=(iH t c r).drop (eF (iH t c r) (c.br.getD r default)+1).toNat
def xT(t:a1)(c:cv)(r:Nat):List b5:=if(bf t r).dir=1 then(p0 t c r).map λw=>⟨(r:Int),w⟩else []
def rT(t:a1)(c:cv)(n:Nat):List b5:=(List.range n).flatMap (xT t c)
theorem RX(l:List Int)(i:Nat):sl l (i+1)=sl l i++CS l i:=by unfold sl;rw[am6,am4];simp
theorem No(c:cv)(k:Nat):ps c (k+1)=ps c k++sl (c.co.getD k default) (c.co.getD k default).length:=by unfold ps;rw[am6,am4];simp
theorem Ge(t:a1)(c:cv)(n:Nat):sq t c (n+1)=sq t c n++xm t c n:=by unfold sq;rw[am6,am4];simp
theorem HS(t:a1)(c:cv)(n:Nat):rT t c (n+1)=rT t c n++xT t c n:=by unfold rT;rw[am6,am4];simp
def sL(l:List Int)(a b:Int):Bool:=decide (0<=eF l a)&&decide (eF l a<eF l b)
def hX(t:a1)(c:cv)(i j:Nat):Bool:=sL (iH t c i) i j
def iR(Vl:a1)(c:cv)(i j:Nat):Bool:=decide ((bf Vl j).dir=1)&&decide (c.br.getD j default=(i:Int))
def jD(t:a1)(c:cv)(i j:Nat):Bool:=decide ((bf t i).dir=1)&&decide (eF (iH t c i) (c.br.getD i default)<eF (iH t c i) j)
def sj(t:a1)(i j:Nat):Bool:=dK t i j&&ov t i j
def ke(t:a1)(p:Nat->Nat->Bool)(i j:Nat):Bool:=p i j&&!ik t i j
def qq(t:a1)(c:cv)(i j:Nat):Bool:=(iR t c i j||hX t c i j)||jD t c i j
theorem Cw(l:List Int)(x:Int): -1<=eF l x:=by unfold eF;split<;>omega
theorem Cx{l:List Int}{x:Int}(h:x∈l):eF l x<l.length:=by unfold eF;rw[amo h];have:=anG h;omega
theorem Aa{l:List Int}{x:Int}(h:0<=eF l x):l.getD (eF l x).toNat default=x:=by have hm:=(tq l x).1 h;unfold eF;rw[amo hm,amw];have dn:=anG hm;rw[aml,amp dn];simp
theorem yx{l:List Int}(h:l.Nodup){p:Nat}(hp:p<l.length):eF l (l.getD p default)=p:=by
 have hm:l.getD p default∈l:=by rw[aml,amp hp];exact anx hp
 unfold eF;rw[amo hm,Jy hp rfl λj ad he=>?_];rw[aml,aml,amp hp,amp (show j<l.length by omega)]at he;exact am9.1 h j p (by omega) hp ad he
theorem J2{l:List Int}(h:l.Nodup)(m:Nat)(x:Int):x∈l.drop m↔(m:Int)<=eF l x:=by
 constructor
 ·intro hx;obtain⟨q,aZ,rfl⟩:=se.1 hx;rw[anD]at aZ;have e:(l.drop m).getD q default=l.getD (m+q) default:=by rw[aml,aml,anP]
  rw[e,yx h (by omega)];omega
 intro hx;have h0:0<=eF l x:=by omega
 have dn:=Cx ((tq l x).1 h0);refine se.2 ⟨(eF l x).toNat-m,by rw[anD];omega,?_⟩;rw[aml,anP,show m+((eF l x).toNat-m)=(eF l x).toNat by omega,<-aml];exact Aa h0
theorem Q8{l:List Int}(h:l.Nodup)(a b:Int):(⟨a,b⟩:b5)∈sl l l.length↔sL l a b=true:=by
 unfold sl CS sL;simp only[ana,amH,am1,b5.mk.injEq,ami,amj];constructor
 ·rintro⟨p,hp,x,hx,rfl,rfl⟩;rw[J2 h]at hx;rw[yx h hp];omega
 rintro⟨h1,h2⟩;have dn:=Cx ((tq l a).1 h1);refine⟨(eF l a).toNat,by omega,b,(J2 h _ _).2 (by omega),Aa h1,rfl⟩
theorem FD{t:a1}{loc x:Int}:x∈wr t loc↔∃i:Nat,i<t.J.length/\x=i/\(bf t i).dir=2/\(bf t i).loc=loc:=by
 unfold wr rH;simp only[am1,am5,amH,n0,ami,amj];constructor
 ·rintro⟨i,⟨h1,h2,h3⟩,rfl⟩;exact⟨i,h1,rfl,h2,h3⟩
 rintro⟨i,h1,rfl,h2,h3⟩;exact⟨i,⟨h1,h2,h3⟩,rfl⟩
theorem DS{t:a1}{c:cv}(ai:oc t c=true){k:Nat}(hk:k<t.bb.length):(c.co.getD k default).Perm (wr t (k:Int)):=by have:=((q2 t c).1 ai).2.2.2 k hk;rw[Dm,amj]at this;exact this▸(Gr _).symm
theorem zk{t:a1}{c:cv}(ai:oc t c=true){k:Nat}(hk:k<t.bb.length):(c.co.getD k default).Nodup:=(DS ai hk).nodup_iff.2 (L4 t _ _).nodup
theorem sY{t:a1}{c:cv}(ai:oc t c=true){k:Nat}(hk:k<t.bb.length){x:Int}:x∈c.co.getD k default↔∃i:Nat,i<t.J.length/\x=i/\(bf t i).dir=2/\(bf t i).loc=k:=(DS ai hk).mem_iff.trans FD
theorem Wt{t:a1}{c:cv}(ai:oc t c=true){k:Nat}(hk:k<t.bb.length):(c.co.getD k default).length<=t.J.length:=by rw[(DS ai hk).length_eq];exact GM _ _ _
theorem tw{t:a1}(aE:gL t=true){i:Nat}(hi:i<t.J.length):∃k:Nat,(bf t i).loc=k/\k<t.bb.length:=by have h:=GF aE hi;refine⟨(bf t i).loc.toNat,?_,?_⟩<;>unfold bf<;>omega
theorem tR{t:a1}{c:cv}{i k:Nat}(h:(bf t i).loc=k):iH t c i=c.co.getD k default:=by unfold iH;rw[h];rfl
theorem K2{t:a1}{c:cv}(ai:oc t c=true){i:Nat}(hi:i<t.J.length):c.br.getD i default= -1\/((bf t i).dir=1/\c.br.getD i default∈wr t (bf t i).loc):=by have:=((q2 t c).1 ai).2.2.1 i hi;simp only[AG,amr,ami,amj]at this;exact this
section
variable {t:a1} {c:cv} (aE:gL t=true) (ai:oc t c=true)
include aE ai
theorem Q2(a b:Int):(⟨a,b⟩:b5)∈ps c c.co.length↔∃k,k<t.bb.length/\sL (c.co.getD k default) a b=true:=by
 have aB:=((q2 t c).1 ai).2.1;unfold ps;simp only[ana,amH];constructor
 ·rintro⟨k,hk,h⟩;exact⟨k,by omega,(Q8 (zk ai (by omega)) a b).1 h⟩
 rintro⟨k,hk,h⟩;exact⟨k,by omega,(Q8 (zk ai (by omega)) a b).2 h⟩
theorem MH{k:Nat}(hk:k<t.bb.length){a b:Int}(h:sL (c.co.getD k default) a b=true):a∈c.co.getD k default/\b∈c.co.getD k default:=by simp only[sL,ami,amj]at h;exact⟨(tq _ _).1 h.1,(tq _ _).1 (by omega)⟩
theorem Ws:uW t.J.length (ps c c.co.length):=λx hx=>by obtain⟨a,b⟩:=x;obtain⟨k,hk,h⟩:=(Q2 aE ai a b).1 hx;obtain⟨h1,h2⟩:=MH aE ai hk h;obtain⟨i,hi,rfl,_⟩:=(sY ai hk).1 h1;obtain⟨j,ad,rfl,_⟩:=(sY ai hk).1 h2;dsimp only;omega
theorem acd{i j:Nat}(hi:i<t.J.length):kp (ps c c.co.length) i j=hX t c i j:=by
 rw[amN];unfold kp;rw[amj,Q2 aE ai];unfold hX;obtain⟨q,aZ,r9⟩:=tw aE hi;rw[tR aZ];constructor
 ·rintro⟨k,hk,h⟩;obtain⟨h1,_⟩:=MH aE ai hk h;obtain⟨aap,_,e,_,aB⟩:=(sY ai hk).1 h1;obtain rfl:i=aap:=by omega
  obtain rfl:q=k:=by omega
  exact h
 intro h;exact⟨q,r9,h⟩
theorem Q9(a b:Int):(⟨a,b⟩:b5)∈sq t c t.J.length↔∃r:Nat,r<t.J.length/\b=r/\(bf t r).dir=1/\0<=a/\c.br.getD r default=a:=by
 unfold sq xm;simp only[ana,amH];constructor
 ·rintro⟨r,aH,h⟩;split at h
  ·rename_i eO;simp only[amv,b5.mk.injEq]at h;exact⟨r,aH,h.2,eO.1,h.1▸eO.2,h.1.symm⟩
  cases h
 rintro⟨r,aH,rfl,h1,h2,h3⟩;exact⟨r,aH,by rw[amo ⟨h1,by omega⟩,h3];exact .head _⟩
theorem aff:uW t.J.length (sq t c t.J.length):=λx hx=>by
 obtain⟨a,b⟩:=x;obtain⟨r,aH,rfl,h1,h2,h3⟩:=(Q9 aE ai a b).1 hx;rcases K2 ai aH with h | ⟨_,h⟩
 ·omega
 obtain⟨i,hi,e,_⟩:=FD.1 h;dsimp only;omega
theorem acg{i j:Nat}(ad:j<t.J.length):kp (sq t c t.J.length) i j=iR t c i j:=by
 rw[amN];unfold kp iR;rw[amj,Q9 aE ai,ami,amj,amj];constructor
 ·rintro⟨r,aH,e,h1,h2,h3⟩;obtain rfl:j=r:=by omega
  exact⟨h1,h3⟩
 rintro⟨h1,h2⟩;exact⟨j,ad,rfl,h1,by omega,h2⟩
theorem Q4{r:Nat}(aH:r<t.J.length)(x:Int):x∈p0 t c r↔eF (iH t c r) (c.br.getD r default)<eF (iH t c r) x:=by obtain⟨q,aZ,r9⟩:=tw aE aH;unfold p0;rw[tR aZ,J2 (zk ai r9)];have:=Cw (c.co.getD q default) (c.br.getD r default);omega
theorem Q3(a b:Int):(⟨a,b⟩:b5)∈rT t c t.J.length↔∃r:Nat,r<t.J.length/\a=r/\(bf t r).dir=1/\eF (iH t c r) (c.br.getD r default)<eF (iH t c r) b:=by
 unfold rT xT;simp only[ana,amH];constructor
 ·rintro⟨r,aH,h⟩;split at h
  ·rename_i eO;obtain⟨x,hx,e⟩:=am1.1 h;injection e with bC cd;subst cd;exact⟨r,aH,bC.symm,eO,(Q4 aE ai aH _).1 hx⟩
  cases h
 rintro⟨r,aH,rfl,h1,h2⟩;exact⟨r,aH,by rw[amo h1];exact am1.2 ⟨b,(Q4 aE ai aH _).2 h2,rfl⟩⟩
theorem Oz{r:Nat}(aH:r<t.J.length){b:Int}(h:eF (iH t c r) (c.br.getD r default)<eF (iH t c r) b):∃j:Nat,j<t.J.length/\b=j/\(bf t j).dir=2/\(bf t j).loc=(bf t r).loc:=by
 obtain⟨q,aZ,r9⟩:=tw aE aH;have h0:0<=eF (iH t c r) b:=by have:=Cw (iH t c r) (c.br.getD r default);omega
 rw[tR aZ]at h0;obtain⟨j,ad,e,h1,h2⟩:=(sY ai r9).1 ((tq _ _).1 h0);exact⟨j,ad,e,h1,by omega⟩
theorem XA:uW t.J.length (rT t c t.J.length):=λx hx=>by obtain⟨a,b⟩:=x;obtain⟨r,aH,rfl,h1,h2⟩:=(Q3 aE ai a b).1 hx;obtain⟨j,ad,rfl,_⟩:=Oz aE ai aH h2;dsimp only;omega
theorem ace{i j:Nat}(hi:i<t.J.length):kp (rT t c t.J.length) i j=jD t c i j:=by
 rw[amN];unfold kp jD;rw[amj,Q3 aE ai,ami,amj,amj];constructor
 ·rintro⟨r,aH,e,h1,h2⟩;obtain rfl:i=r:=by omega
  exact⟨h1,h2⟩
 rintro⟨h1,h2⟩;exact⟨i,hi,rfl,h1,h2⟩
end
end Go.eV
