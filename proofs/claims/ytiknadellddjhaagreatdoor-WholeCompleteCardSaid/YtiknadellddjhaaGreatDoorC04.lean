/- Lemmas for the law WholeComplete. -/
import Derived.Test.YtiknadellddjhaaGreatDoorC02
set_option linter.all false
open Go.Proofs.Tryz
set_option maxHeartbeats 1600000
open Go Go.b9 Go.bM
namespace Go.Proofs.bA
attribute [local irreducible] wpList Code.wp bodyPost Exit.then Exit.inBlock Calls
theorem agh{ak ah aI bv aG aR ad aT bj:Value}{t:aW}(w:World)(h:fB al w ak ah aI bv aG aR ad aT bj t): bl prog 213 [.agg #[ak,ah,aI,bv,aG,aR,ad,aT,bj]] w λ_ v _=>v=.bool (k8 t):=by
 have hB:=h.bars;have cF:=h.J;have lr:=hB.le;have j5:=cF.le;refine bZ func213 ntmps213 ?_;refine b7 λaQ=>?_;refine bC (λh1=>?_) λh1=>?_
 ·refine bf λI hw=>?_;have:k8 t=false:=by rw[an]at h1;simp only[k8,aoC,aoA];omega
  rw[this];rfl
 rw[au]at h1;refine U ?_;refine bX (λi:Nat=>i<=t.bars.length/\∀j,j<i->nz t j=true) (λs=>[(3,true,.int .i64 s),(1,true,av aQ)]) (λs=>Mem [(w,al)] [.box aQ [ak,ah,aI,bv,aG,aR,ad,aT,bj] 41]) (λs=>t.bars.length-s) (0) ⟨by omega,λj ae=>by omega⟩ ?_ ⟨rfl,rfl,trivial⟩ cv
 rintro i ⟨hi,bG⟩;refine a8 (λh2=>?_) λh2=>?_
 ·have bq:i<t.bars.length:=by rw[an]at h2;omega
  refine U ?_;refine cH λdf=>?_;refine bN 0 ?_;refine bC (λh3=>?_) λh3=>?_
  ·refine bf λI hw=>?_;have h3:=(Tq (t.bars.getD i default)).symm.trans h3;rw[aoq]at h3;have ft:nz t i=false:=by rw[nz,h3,apy,apy]
   have:k8 t=false:=by simp[k8,hQ bq ft]
   rw[this];rfl
  have h3:=(Tq (t.bars.getD i default)).symm.trans h3;rw[aos]at h3;refine U ?_;refine cz [0,1,2,3,4,5,6,7,8,9,10,11,12,13,14,15,16,17,18,19,20,21,22,23] mixed ?_;refine aN ?_;refine rE ?_ (h:=ev (bb:=λ_ I hw=>GD _ _ _ _ I));refine aN ?_;refine a8 (λaA=>?_) λaA=>?_
  ·refine bf λI hw=>?_;rw[oh,Bl,aoq]at aA;have ft:nz t i=false:=by rw[nz,aA,apu,apy]
   have:k8 t=false:=by simp[k8,hQ bq ft]
   rw[this];rfl
  rw[oh,Bl,aos]at aA;refine U ?_;refine bX (λk:Nat=>k<=t.J.length/\∀j,j<k->Dq t (t.bars.getD i default) j=true) (λs=>[(5,true,.int .i64 s),(4,true,av df),(3,true,.int .i64 i),(1,true,av aQ)]) (λs=>Mem [(w,al)] [.box df [.int .i64 (t.bars.getD i default).aH,.int .i64 (t.bars.getD i default).place,.int .i64 (t.bars.getD i default).dA] 140,.box aQ [ak,ah,aI,bv,aG,aR,ad,aT,bj] 41]) (λs=>t.J.length-s) (0) ⟨by omega,λj ae=>by omega⟩ ?_ ⟨rfl,rfl,rfl,rfl,trivial⟩ cv
  rintro k ⟨hk,yQ⟩;refine a8 (λa6=>?_) λa6=>?_
  ·have mB:k<t.J.length:=by rw[an]at a6;omega
   refine U ?_;refine cz [0,1,2,3,4,5,6,7,8,9,10,11,12,13,14,15,16,17,18,19] mixed ?_;refine aN ?_;refine a8 (λcE=>?_) λcE=>?_
   ·refine bf λI hw=>?_;rw[Gm,aoq]at cE;have ft:nz t i=false:=by rw[nz,El,hQ mB cE,apu]
    have:k8 t=false:=by simp[k8,hQ bq ft]
    rw[this];rfl
   rw[Gm,aos]at cE;refine U ?_;exact bm ((k+1)) ⟨by omega,jl yQ cE⟩ (by omega) (hA:=cv)
  rw[au]at a6;have he:nz t i=true:=by rw[nz,h3,aA,El,fT.2 λj ae=>yQ j (by omega)];rfl
  refine U ?_;exact bm ((i+1)) ⟨by omega,jl bG he⟩ (by omega) (hA:=bD [1])
 refine bf λI hw=>?_;have:k8 t=true:=by rw[au]at h2;simp only[k8,aoo,aop,fT];exact⟨by omega,λj ae=>bG j (by omega)⟩
 rw[this];rfl
theorem LW{ak ah aI bv aG aR ad aT bj:Value}{t:aW}(hW:Value)(l:List ca)(wr:Bool)(w:World)(h:fB al w ak ah aI bv aG aR ad aT bj t)(aL:aZ al w bB 2 hW l): bl prog 214 [.agg #[ak,ah,aI,bv,aG,aR,ad,aT,bj],hW,.bool wr] w λ_ v _=>v=.bool (kc t l wr):=by
 have cF:=h.J;have j5:=cF.le;have iy:=aL.le;refine bZ func214 ntmps214 ?_;refine b7 λaQ=>?_;refine bX (λi:Nat=>i<=l.length/\∀j,j<i->qo t l wr j=true) (λs=>[(7,true,.int .i64 s),(3,true,av aQ),(2,true,.bool wr),(1,true,hW)]) (λs=>Mem [(w,al)] [.box aQ [ak,ah,aI,bv,aG,aR,ad,aT,bj] 41]) (λs=>l.length-s) (0) ⟨by omega,λj ae=>by omega⟩ ?_ ⟨rfl,rfl,rfl,rfl,trivial⟩ cv
 rintro i ⟨hi,bG⟩;refine a8 (λh1=>?_) λh1=>?_
 ·have bU:i<l.length:=by rw[an]at h1;omega
  refine U ?_;refine cH λzY=>?_;refine bN 0 ?_;refine cz [0,1,2,3,4,5,6,7,8,9,10,11,12,13,14,15,16,17,18,19,20,21,22,23,24,25,26,27,28,29,30,31,32,33,34,35,36,37,38,39,40,41,42,43,44,45,46,47,48,49,50,51,52,53,54,55,56,57] mixed ?_;refine aN ?_;refine a8 (λh2=>?_) λh2=>?_
  ·refine bf λI hw=>?_;rw[Gs,aoq]at h2;have ft:qo t l wr i=false:=by rw[qo,h2,apy]
   have:kc t l wr=false:=by simp[kc,hQ bU ft]
   rw[this];rfl
  rw[Gs,aos]at h2;refine U ?_;refine cz [0,1,2,3,4,5,6,7,8,9,10,11,12,13,14,15,16,17,18,19,20,21] mixed ?_;refine aN ?_;refine rE ?_ (h:=ev (bb:=λ_ I hw=>GD _ _ _ _ I));refine aN ?_;refine a8 (λh3=>?_) λh3=>?_
  ·refine bf λI hw=>?_;rw[oh,Bl,aoq]at h3;have ft:qo t l wr i=false:=by rw[qo,h3,apu]
   have:kc t l wr=false:=by simp[kc,hQ bU ft]
   rw[this];rfl
  rw[oh,Bl,aos]at h3;refine U ?_;exact bm ((i+1)) ⟨by omega,jl bG (by rw[qo,h2,h3];rfl)⟩ (by omega) (hA:=b4 [1])
 refine bf λI hw=>?_;have:kc t l wr=true:=by rw[au]at h1;simp only[kc,fT];exact λj ae=>bG j (by omega)
 rw[this];rfl
theorem agU{ak ah aI bv aG aR ad aT bj:Value}{t:aW}(loc:ByteArray)(w:World)(h:fB al w ak ah aI bv aG aR ad aT bj t): bl prog 47 [.agg #[ak,ah,aI,bv,aG,aR,ad,aT,bj],.string loc] w λ_ v _=>(∃k:Nat,v=.int .i64 (k:Int)/\k<t.aO.length/\t.aO.getD k default=loc)\/(v=.int .i64 (-1)/\∀q,q<t.aO.length->t.aO.getD q default≠loc):=by
 have c0:=h.aO;have iy:=c0.le;refine bZ func47 ntmps47 ?_;refine b7 λaQ=>?_;refine bX (λi:Nat=>i<=t.aO.length/\∀q,q<i->t.aO.getD q default≠loc) (λs=>[(5,true,.int .i64 s),(2,true,av aQ),(1,true,.string loc)]) (λs=>Mem [(w,al)] [.box aQ [ak,ah,aI,bv,aG,aR,ad,aT,bj] 41]) (λs=>t.aO.length-s) (0) ⟨by omega,λq ba=>by omega⟩ ?_ ⟨rfl,rfl,rfl,trivial⟩ cv
 rintro i ⟨hi,bG⟩;refine a8 (λh1=>?_) λh1=>?_
 ·have bU:i<t.aO.length:=by rw[an]at h1;omega
  refine a8 (λh2=>?_) λh2=>?_
  ·rw[an]at h2;refine bf λI hw=>?_;exact .inl ⟨i,rfl,bU,h2⟩
  rw[au]at h2;refine U ?_;refine bm ((i+1)) ⟨by omega,λq ba=>?_⟩ (by omega) (hA:=cv);by_cases yU:q<i
  ·exact bG q yU
  obtain rfl:q=i:=by omega
  exact h2
 rw[au]at h1;refine bf λI hw=>?_;exact .inr ⟨rfl,λq ba=>bG q (by omega)⟩
end Go.Proofs.bA
namespace Go.bM
def r5(a b:cK):Bool:=if decide (a.aH= -1)≠decide (b.aH= -1)then decide (b.aH= -1)else if a.aH≠b.aH\/a.bo≠b.bo then iI a.aH a.bo b.aH b.bo else fL a.loc b.loc
theorem UR{t:aW}{x:cK}{e:gl}(h:lk t x e=true)(h1:x.aH= -1):x.bo=0:=by
 rw[lk,aou h1,AW]at h;split at h
 ·simp only[aoo,aop]at h;exact h.1.1
 cases h
theorem UQ{t:aW}{x:cK}{e:gl}(h:lk t x e=true)(h1:¬x.aH= -1):x.loc=ByteArray.empty:=by rw[lk,aot h1]at h;simp only[aoo,aop]at h;exact h.1.2
theorem WE{t:aW}{a b:cK}{e f:gl}(ay:lk t a e=true)(hb:lk t b f=true):r5 a b=h6 a b:=by
 unfold r5 h6;by_cases h1:a.aH= -1<;>by_cases h2:b.aH= -1
 ·simp[h1,h2,UR ay h1,UR hb h2]
 ·simp[h1,h2]
 ·simp[h1,h2]
 rw[UQ ay h1,UQ hb h2,tP];simp only[h1,h2,aqY,ne_eq,arb,aqw,or_self,iI];by_cases h3:a.aH=b.aH
 ·by_cases aA:a.bo=b.bo
  ·simp[h3,aA]
  simp[h3,aA]
 simp[h3]
end Go.bM
namespace Go.Proofs.bA
attribute [local irreducible] wpList Code.wp bodyPost Exit.then Exit.inBlock Calls
theorem agW{ak ah aI bv aG aR ad aT bj:Value}{t:aW}(x:cK)(e:gl)(w:World)(h:fB al w ak ah aI bv aG aR ad aT bj t)(eS:kZ t=true): bl prog 215 [.agg #[ak,ah,aI,bv,aG,aR,ad,aT,bj],.agg #[.int .i64 x.aH,.int .i64 x.bo,.string x.loc],.agg #[.int .i64 e.kind,.int .i64 e.n]] w λ_ v _=>v=.bool (lk t x e):=by
 have cF:=h.J;have c0:=h.aO;have j5:=cF.le;obtain⟨hu,fK⟩:=RD eS;refine bZ func215 ntmps215 ?_;refine b7 λaQ=>?_;refine b7 λeQ=>?_;refine b7 λbe=>?_;refine bC (λh1=>?_) λh1=>?_
 ·have bU:x.aH= -1:=by rwa[an]at h1
  refine U ?_;refine aq (bp (λI hw=>agU x.loc I (h.now hw)) ?_);rintro v bx bc (⟨k,rfl,ix,l9⟩ | ⟨rfl,eD⟩) cu
  ·refine bf λI hw=>?_;have cS:zS t.aO x.loc k true:=⟨λ_=>⟨ix,l9⟩,λh=>by cases h⟩;rw[lk,aou bU,<-Ky hu x e cS];have h0:bw (0<=(k:Int))=true:=an.mpr (by omega);rw[h0,aqx,apE];rfl
  refine bf λI hw=>?_;have cS:zS t.aO x.loc 0 false:=⟨λh=>(by cases h),λ_=>eD⟩;rw[lk,aou bU,<-Ky hu x e cS];have h0:bw ((0:Int)<= -1)=false:=au.mpr (by omega);rw[h0,apu];rfl
 have bU:¬x.aH= -1:=by rwa[au]at h1
 have hh:(bw (x.aH<0)||bw (15<x.aH)||bw (x.bo<0)||bw (31<x.bo)||!bw (x.loc=ByteArray.empty))=!(decide (0<=x.aH)&&decide (x.aH<16)&&decide (0<=x.bo)&&decide (x.bo<=31)&&decide (x.loc=ByteArray.empty)):=by rw[<-K3,show bw (15<x.aH)=bw (16<=x.aH) by rw[cd,cd];exact ao7.2 (by omega)]
 refine a8 (λh2=>?_) λh2=>?_
 ·refine bf λI hw=>?_;have bq:=hh.symm.trans h2;rw[aoq]at bq;rw[lk,aot bU,bq];rfl
 have bq:=hh.symm.trans h2;rw[aos]at bq;refine a8 (λh3=>?_) λh3=>?_
 ·refine U ?_;refine aq (bp (λI hw=>Bs e.n I) ?_);rintro v ck bY rfl eZ;refine bf λI hw=>?_;rw[an]at h3;rw[lk,aot bU,bq,vM];simp[h3];rfl
 rw[au]at h3;refine a8 (λaA=>?_) λaA=>?_
 ·rw[an]at aA;refine U ?_;refine cz [0,1,2,3,4,5,6,7,8,9,10,11,12,13,14,15,16,17,18,19,20,21,22,23,24,25,26,27,28,29,30,31,32,33] mixed ?_;refine aN ?_;refine bf λI hw=>?_;rw[lk,aot bU,bq,vM];simp[aA,cd,Go.bM.aI];rfl
 rw[au]at aA;refine bf λI hw=>?_;rw[lk,aot bU,bq,vM];simp[h3,aA];rfl
theorem agi(a b:cK)(w:World)  : bl prog 216 [.agg #[.int .i64 a.aH,.int .i64 a.bo,.string a.loc],.agg #[.int .i64 b.aH,.int .i64 b.bo,.string b.loc]] w λ_ v _=>v=.bool (r5 a b):=by
 refine bZ func216 ntmps216 ?_;refine b7 λdT=>?_;refine b7 λdf=>?_;refine bC (λh1=>?_) λh1=>?_
 ·refine bf λI hw=>?_;have bU:decide (a.aH= -1)≠decide (b.aH= -1):=by simpa[cd]using h1
  rw[r5,aou bU,cd];rfl
 have bU:¬decide (a.aH= -1)≠decide (b.aH= -1):=by simpa[cd]using h1
 refine a8 (λh2=>?_) λh2=>?_
 ·refine U ?_;refine aq (bp (λI hw=>GD _ _ _ _ I) ?_);rintro v bx bc rfl cu;refine bf λI hw=>?_;have bq:a.aH≠b.aH\/a.bo≠b.bo:=by simpa[cd]using h2
  rw[r5,aot bU,aou bq];rfl
 refine bf λI hw=>?_;have bq:¬(a.aH≠b.aH\/a.bo≠b.bo):=by simpa[cd]using h2
 rw[r5,aot bU,aot bq];rfl
end Go.Proofs.bA
namespace Go.bM
def yb(t:aW):Bool:=kZ t&&jP t&&k8 t&&kc t t.addr false&&kc t t.data true&&kc t t.bh false&&(decide (t.cf.length=t.ends.length)&&decide (t.cf.length<=1024))
theorem Sm(t:aW):(kZ t&&jP t&&k8 t&&kc t t.addr false&&kc t t.data true&&kc t t.bh false&&bw ((t.cf.length:Int)<=1024)&&bw ((t.ends.length:Int)=(t.cf.length:Int)))=yb t:=by
 rw[aoR];simp only[yb,aoo,an,aop];constructor
 ·rintro⟨⟨h,h1⟩,h2⟩;exact⟨h,by omega,by omega⟩
 rintro⟨h,h1,h2⟩;exact⟨⟨h,by omega⟩,by omega⟩
theorem Mz(t:aW):e0 t=(yb t&&(List.range t.cf.length).all (q5 t)):=by simp only[e0,tY,yb,Bool.and_assoc]
theorem WB{t:aW}(h:yb t=true):kZ t=true/\t.cf.length=t.ends.length:=by simp only[yb,aoo,aop]at h;exact⟨h.1.1.1.1.1.1,h.2.1⟩
theorem UO{t:aW}{i:Nat}(h:∀j,j<i->q5 t j=true):(lk t (t.cf.getD i default) (t.ends.getD i default)&&(bw ((i:Int)=0)||r5 (t.cf.getD (i-1) default) (t.cf.getD i default)))=q5 t i:=by
 unfold q5;rw[show bw ((i:Int)=0)=decide (i=0) by rw[cd];exact ao7.2 (by omega)];cases h1:lk t (t.cf.getD i default) (t.ends.getD i default)with
 | false=>rfl
 | true=>
  by_cases h0:i=0
  ·simp[h0]
  have h2:=h (i-1) (by omega);simp only[q5,aoo]at h2;rw[WE h2.1 h1]
end Go.bM
namespace Go.Proofs.bA
attribute [local irreducible] wpList Code.wp bodyPost Exit.then Exit.inBlock Calls
theorem agV{ak ah aI bv aG aR ad aT bj:Value}{t:aW}(w:World)(h:fB al w ak ah aI bv aG aR ad aT bj t): bl prog 124 [.agg #[ak,ah,aI,bv,aG,aR,ad,aT,bj]] w λ_ v _=>v=.int .i64 (nt t):=by
 have bL:=h.cf;have ir:=h.ends;have qR:=bL.le;have ly:=ir.le;refine bZ func124 ntmps124 ?_;refine b7 λaQ=>?_;refine aq (bp (λI hw=>agA I (h.now hw)) ?_);rintro v bx bc rfl cu;refine U ?_;refine e1 (h:=ev (bb:=λ_ I hw=>agh I (h.now hw))) (ab:=U ?_);refine e1 (h:=ev (bb:=λ_ I hw=>LW aG t.addr false I (h.now hw) (hw.now h.addr))) (ab:=U ?_);refine e1 (h:=ev (bb:=λ_ I hw=>LW aR t.data true I (h.now hw) (hw.now h.data))) (ab:=U ?_);refine e1 (h:=ev (bb:=λ_ I hw=>LW ad t.bh false I (h.now hw) (hw.now h.bh))) (ab:=U ?_);refine bX (λs:Nat×Bool=>s.1<=t.cf.length/\(s.2=true->yb t=true/\∀j,j<s.1->q5 t j=true)/\(s.2=false->e0 t=false)) (λs=>[(4,true,.int .i64 s.1),(3,true,.bool s.2),(1,true,av aQ)]) (λs=>Mem [(w,al)] [.box aQ [ak,ah,aI,bv,aG,aR,ad,aT,bj] 41]) (λs=>t.cf.length-s.1) (0,_) ⟨aoD _,λh1=>⟨(Sm t).symm.trans h1,λj ae=>absurd ae (apw _)⟩,λh1=>by rw[Mz,(Sm t).symm.trans h1];rfl⟩ ?_ ⟨rfl,rfl,rfl,trivial⟩ cv
 rintro⟨i,ok⟩ ⟨hi,hok,eD⟩;dsimp only at hi hok eD⊢;refine a8 (λh1=>?_) λh1=>?_
 ·simp only[aoo,an]at h1;obtain⟨E9,bG⟩:=hok h1.2;obtain⟨eS,bH⟩:=WB E9;have bU:i<t.cf.length:=by omega
  have akM:i<t.ends.length:=by omega
  refine U ?_;refine cz [0,1,2,3,4,5,6,7,8,9,10,11,12,13,14,15,16,17,18,19,20,21,22,23,24,25,26,27,28,29,30] mixed ?_;refine aN ?_;refine bO _ (h:=bp (λI hw=>agW (t.cf.getD i default) (t.ends.getD i default) I (h.now hw) eS) ?_);rintro v n6 wY rfl rD;refine aF ?_ ek;refine cA _ ek (aN ?_);refine rE ?_ (h:=ev (bb:=λ_ I hw=>agi (t.cf.getD ((i:Int)-1).toNat default) (t.cf.getD i default) I));refine aN ?_;refine U ?_;refine bm ((i+1),_) ⟨Nat.succ_le_of_lt bU,λh2=>⟨E9,?_⟩,λh2=>?_⟩ (by simp only;omega) (hA:=cv)
  ·have h3:q5 t i=true:=by rw[<-UO bG,<-oh];exact h2
   exact jl bG h3
  have h3:q5 t i=false:=by rw[<-UO bG,<-oh];exact h2
  rw[Mz,hQ bU h3,apu]
 refine a8 (λh2=>?_) λh2=>?_
 ·refine bf λI hw=>?_;rw[nt,eD (by simpa using h2)];rfl
 have Qj:ok=true:=by simpa using h2
 obtain⟨E9,bG⟩:=hok Qj;rw[Qj,aqx,au]at h1;refine bf λI hw=>?_;rw[nt,aou (by rw[Mz,E9,fT.2 λj ae=>bG j (by omega)];rfl)];rfl
end Go.Proofs.bA
namespace Go.bM
def nQ(t:aW)(loc:Int)(i:Nat):Bool:=decide ((t.J.getD i default).dir=2)&&decide ((t.J.getD i default).loc=loc)
def rf(t:aW)(loc:Int)(n:Nat):List Int:=((List.range n).filter (nQ t loc)).map λ(i:Nat)=>(i:Int)
def wr(t:aW)(loc:Int):List Int:=rf t loc t.J.length
theorem Hi(t:aW)(loc:Int)(n:Nat):rf t loc (n+1)=rf t loc n++(if nQ t loc n=true then [(n:Int)]else []):=by unfold rf;rw[ape,apl,apm];cases h:nQ t loc n<;>simp[h]
theorem zF(t:aW)(loc:Int)(n:Nat):(rf t loc n).length<=n:=by unfold rf;rw[aoJ];exact ao5 (apr _ _) (by simp)
theorem VD(t:aW)(loc:Int)(i:Nat):(bw ((t.J.getD i default).dir=2)&&bw ((t.J.getD i default).loc=loc))=nQ t loc i:=by rw[cd,cd];rfl
end Go.bM
namespace Go.Proofs.bA
attribute [local irreducible] wpList Code.wp bodyPost Exit.then Exit.inBlock Calls
theorem GW{ak ah aI bv aG aR ad aT bj:Value}{t:aW}(loc:Int)(w:World)(h:fB al w ak ah aI bv aG aR ad aT bj t)(hb:t.J.length<=64): bl prog 126 [.agg #[ak,ah,aI,bv,aG,aR,ad,aT,bj],.int .i64 loc] w λm v I=>aZ (Fr m) I a7 1 v (wr t loc):=by
 have cF:=h.J;refine bZ func126 ntmps126 ?_;refine b7 λaQ=>?_;refine ea 3 1 a7 ?_;refine bX (λs:Nat×Value×List Int=>s.1<=t.J.length/\aD s.2.1/\s.2.2=rf t loc s.1) (λs=>[(6,true,.int .i64 s.1),(5,true,s.2.1),(2,true,av aQ),(1,true,.int .i64 loc)]) (λs=>Mem [(w,al)] [.own s.2.1 3 1 a7 s.2.2,.box aQ [ak,ah,aI,bv,aG,aR,ad,aT,bj] 41]) (λs=>t.J.length-s.1) (0,aa,[]) ⟨aoD _,⟨_,_,_,rfl⟩,rfl⟩ ?_ ⟨rfl,rfl,rfl,rfl,trivial⟩ cv
 rintro⟨i,v1,xs⟩ ⟨hi,jy,hxs⟩;dsimp only at hi jy hxs⊢;have jV:xs.length<=i:=by rw[hxs];exact zF _ _ _
 refine a8 (λh1=>?_) λh1=>?_
 ·have bU:i<t.J.length:=by rw[an]at h1;omega
  refine a8 (λh2=>?_) λh2=>?_
  ·have bq:=(VD t loc i).symm.trans h2;refine U ?_;refine aq (eI (ab:=?_));intro v4 uO;refine U ?_;refine aq (e6 1 (hk:=rfl) (bH:=by simp;omega) (ab:=?_));intro v5 nI;refine U ?_;exact bm (i+1,v5,xs++[(i:Int)]) ⟨by dsimp only;omega,nI,by dsimp only;rw[hxs,Hi,aou bq]⟩ (by dsimp only;omega) (hA:=b4 [1,2])
  have bq:=(VD t loc i).symm.trans h2;refine U ?_;exact bm (i+1,v1,xs) ⟨by dsimp only;omega,jy,by dsimp only;rw[hxs,Hi,aot (by rw[bq];simp),aoH]⟩ (by dsimp only;omega)
 refine U ?_;rw[au]at h1;obtain rfl:i=t.J.length:=by omega
 exact bT rfl (.t1 rfl) λI hw=>by rw[show wr t loc=xs from hxs.symm];exact hw.im aP aP
theorem KF(a b:Nat)(w:World): bl prog 210 [.int .i64 a,.int .i64 b] w λ_ v _=>v=.int .i64 ((if 65536<a\/65536<b then 65537 else min (a* b) 65537:Nat):Int):=by
 refine bZ func210 ntmps210 ?_;refine bC (λh1=>?_) λh1=>?_
 ·simp only[aox,an]at h1;refine bf λI hw=>?_;rw[aou (by omega)];rfl
 simp only[aoz,au]at h1;have l8:a* b<=65536* 65536:=Nat.mul_le_mul (by omega) (by omega);have ak4:(a:Int)* (b:Int)<=4294967296:=by rw[<-Int.natCast_mul];omega
 have ak5:0<=(a:Int)* (b:Int):=Int.mul_nonneg (by omega) (by omega);refine bf λI hw=>?_;rw[aot (show ¬(65536<a\/65536<b) by omega)];refine aoI (Value.int IntKind.i64) ?_;rw[show((min (a* b) 65537:Nat):Int)=if(65537:Int)<(a:Int)* (b:Int)then 65537 else(a:Int)* (b:Int) by rw[<-Int.natCast_mul];split<;>omega]
end Go.Proofs.bA
namespace Go.bM
def fact:Nat->Nat
 | 0=>1
 | n+1=>(n+1)* fact n
theorem rr:∀n,0<fact n
 | 0=>Nat.one_pos
 | n+1=>Nat.mul_pos (Nat.succ_pos n) (rr n)
def cap(n:Nat):Nat:=min n 65537
theorem HP{a b:Nat}(ay:0<a)(hb:0<b):(if 65536<cap a\/65536<b then 65537 else min (cap a* b) 65537)=cap (a* b):=by
 have h1:a<=a* b:=aqA a hb;have h2:b<=a* b:=aqI b ay;unfold cap;by_cases h3:65536<a
 ·rw[aou (.inl (by omega))];omega
 by_cases aA:65536<b
 ·rw[aou (.inr aA)];omega
 rw[aot (by omega),show min a 65537=a by omega]
end Go.bM
namespace Go.Proofs.bA
attribute [local irreducible] wpList Code.wp bodyPost Exit.then Exit.inBlock Calls
theorem _root_.Go.bM.O4{n k:Nat}(h2:2<=k)(h:k<=n+1\/k=2)(h1:¬k<=n):fact (k-1)=fact n:=by
 rcases h with h | h
 ·rw[show k-1=n by omega]
 subst h;have:n=0\/n=1:=by omega
 rcases this with rfl | rfl<;>rfl
theorem _root_.Go.bM.O6{k:Nat}(h2:2<=k):fact (k-1)* k=fact (k+1-1):=by obtain⟨m,rfl⟩:∃m,k=m+1:=⟨k-1,by omega⟩;show fact m* (m+1)=(m+1)* fact m;exact Nat.mul_comm _ _
theorem HZ(n:Nat)(w:World)(bd:n<=1000000): bl prog 122 [.int .i64 n] w λ_ v _=>v=.int .i64 (cap (fact n):Int):=by
 refine bZ func122 ntmps122 ?_;refine bX (λs:Nat×Nat=>2<=s.1/\(s.1<=n+1\/s.1=2)/\s.2=cap (fact (s.1-1))) (λs=>[(4,true,.int .i64 s.1),(3,true,.int .i64 s.2),(0,true,.int .i64 n)]) (λs=>Mem [(w,al)] []) (λs=>n+1-s.1) (2,1) ⟨aoL _,.inr rfl,rfl⟩ ?_ ⟨rfl,rfl,rfl,trivial⟩ cv
 rintro⟨k,all⟩ ⟨h2,hk,ay⟩;dsimp only at h2 hk ay⊢;subst ay;refine a8 (λh1=>?_) λh1=>?_
 ·rw[an]at h1;refine U ?_;refine aq (bp (λI hw=>KF (cap (fact (k-1))) k I) ?_);rintro v bx bc rfl cu;rw[HP (rr _) (by omega),O6 h2];refine U ?_;exact bm ((k+1),cap (fact (k+1-1))) ⟨by dsimp only;omega,.inl (by dsimp only;omega),rfl⟩ (by dsimp only;omega) (hA:=cv)
 rw[au]at h1;refine bf λI hw=>?_;rw[O4 h2 hk (by omega)];rfl
end Go.Proofs.bA
namespace Go.bM
def xl(t:aW)(i:Nat):Nat:=if(t.J.getD i default).dir=1 then 1+(wr t (t.J.getD i default).loc).length else 1
def mA(t:aW):Nat->Nat
 | 0=>1
 | i+1=>mA t i* xl t i
def oO(t:aW):Nat->Nat
 | 0=>1
 | k+1=>oO t k* fact (wr t (k:Int)).length
def iT(t:aW):Nat:=mA t t.J.length* oO t t.aO.length
theorem EG(t:aW)(i:Nat):0<xl t i:=by unfold xl;split<;>omega
theorem EF(t:aW):∀i,0<mA t i
 | 0=>Nat.one_pos
 | i+1=>Nat.mul_pos (EF t i) (EG t i)
theorem F6(t:aW):∀k,0<oO t k
 | 0=>Nat.one_pos
 | k+1=>Nat.mul_pos (F6 t k) (rr _)
theorem OZ(t:aW){i:Nat}:∀j,i<=j->mA t i<=mA t j
 | 0,h=>by rw[show i=0 by omega];exact aoL _
 | j+1,h=>by
  by_cases he:i=j+1
  ·rw[he];exact aoL _
  exact ao5 (OZ t j (by omega)) (aqA _ (EG t j))
theorem Kz(t:aW){i:Nat}:∀j,i<=j->oO t i<=oO t j
 | 0,h=>by rw[show i=0 by omega];exact aoL _
 | j+1,h=>by
  by_cases he:i=j+1
  ·rw[he];exact aoL _
  exact ao5 (Kz t j (by omega)) (aqA _ (rr _))
theorem Xa(t:aW){i:Nat}(hi:i<=t.J.length):mA t i<=iT t:=ao5 (OZ t _ hi) (aqA _ (F6 t _))
theorem Xb(t:aW){k:Nat}(hk:k<=t.aO.length):mA t t.J.length* oO t k<=iT t:=Nat.mul_le_mul_left _ (Kz t _ hk)
theorem N8{n:Nat}(h:65536<n):cap n=65537:=by unfold cap;omega
theorem N9{n:Nat}(h:¬65536<n):cap n=n:=by unfold cap;omega
end Go.bM
namespace Go.Proofs.bA
attribute [local irreducible] wpList Code.wp bodyPost Exit.then Exit.inBlock Calls
theorem agk{ak ah aI bv aG aR ad aT bj:Value}{t:aW}(w:World)(h:fB al w ak ah aI bv aG aR ad aT bj t)(hb:t.J.length<=64)(ma:t.aO.length<=64): bl prog 125 [.agg #[ak,ah,aI,bv,aG,aR,ad,aT,bj]] w λ_ v _=>v=.int .i64 (cap (iT t):Int):=by
 have cF:=h.J;have c0:=h.aO;have jU:∀x,(wr t x).length<=64:=λx=>ao5 (zF t x _) hb;refine bZ func125 ntmps125 ?_;refine b7 λaQ=>?_;refine bX (λs:Nat×Nat=>s.1<=t.J.length/\s.2=mA t s.1/\s.2<=65536) (λs=>[(4,true,.int .i64 s.1),(3,true,.int .i64 s.2),(1,true,av aQ)]) (λs=>Mem [(w,al)] [.box aQ [ak,ah,aI,bv,aG,aR,ad,aT,bj] 41]) (λs=>t.J.length-s.1) (0,1) ⟨aoD _,rfl,by decide⟩ ?_ ⟨rfl,rfl,rfl,trivial⟩ cv
 rintro⟨i,n⟩ ⟨hi,bd,rD⟩;dsimp only at hi bd rD⊢;refine a8 (λh1=>?_) λh1=>?_
 ·have bU:i<t.J.length:=by rw[an]at h1;omega
  refine a8 (λh2=>?_) λh2=>?_
  ·rw[an]at h2;have Qf:0<=(n:Int)* (1+((wr t (t.J.getD i default).loc).length:Int)):=Int.mul_nonneg (by omega) (by omega);have qN:(n:Int)* (1+((wr t (t.J.getD i default).loc).length:Int))<=65536* 65:=Int.mul_le_mul (by omega) (by have:=jU (t.J.getD i default).loc;omega) (by omega) (by omega);have so:(n:Int)* (1+((wr t (t.J.getD i default).loc).length:Int))=((mA t (i+1):Nat):Int):=by rw[mA,xl,aou h2,<-bd];push_cast;rfl
   refine U ?_;refine cz [0,1,2,3,4,5,6,7,8,9,10,11,12] mixed ?_;refine aN ?_;refine bO _ (h:=bp (λI hw=>GW _ I (h.now hw) hb) ?_);rintro v bx bc ax cu;have ax:aZ (Fr bx) bc a7 1 v (wr t (t.J.getD i default).loc):=ax;have eW:=jU (t.J.getD i default).loc;refine aF (aN ?_) ek;rw[so];refine a8 (λh3=>?_) λh3=>?_
   ·rw[an]at h3;refine bf λI hw=>?_;have:=Xa t (i:=i+1) bU;rw[N8 (by omega)];rfl
   rw[au]at h3;refine U ?_;exact bm ((i+1),mA t (i+1)) ⟨bU,rfl,by dsimp only;omega⟩ (by dsimp only;omega) (hA:=cv)
  rw[au]at h2;have aj:mA t (i+1)=n:=by rw[mA,xl,aot h2,ara,bd]
  refine a8 (λaA=>?_) λaA=>?_
  ·rw[an]at aA;omega
  refine U ?_;exact bm ((i+1),n) ⟨bU,aj.symm,rD⟩ (by dsimp only;omega) (hA:=cv)
 rw[au]at h1;obtain rfl:i=t.J.length:=by omega
 refine U ?_;refine bX (λs:Nat×Nat=>s.1<=t.aO.length/\s.2=mA t t.J.length* oO t s.1/\s.2<=65536) (λs=>[(5,true,.int .i64 s.1),(3,true,.int .i64 s.2),(1,true,av aQ)]) (λs=>Mem [(w,al)] [.box aQ [ak,ah,aI,bv,aG,aR,ad,aT,bj] 41]) (λs=>t.aO.length-s.1) (0,n) ⟨aoD _,by dsimp only;rw[oO,ara,bd],rD⟩ ?_ ⟨rfl,rfl,rfl,trivial⟩ cv
 clear bd rD;rintro⟨k,n⟩ ⟨hk,bd,rD⟩;dsimp only at hk bd rD⊢;refine a8 (λa6=>?_) λa6=>?_
 ·have mB:k<t.aO.length:=by rw[an]at a6;omega
  refine U ?_;refine aq (bp (λI hw=>GW (k:Int) I (h.now hw) hb) ?_);rintro v ck bY ax eZ;have ax:aZ (Fr ck) bY a7 1 v (wr t (k:Int)):=ax;have eW:=jU (k:Int);refine U ?_;refine bX (λs:Nat×Nat=>s.1<=(wr t (k:Int)).length/\s.2* fact s.1=n* fact (wr t (k:Int)).length/\s.2<=65536) (λs=>[(6,true,.int .i64 s.1),(5,true,.int .i64 k),(3,true,.int .i64 s.2),(1,true,av aQ)]) (λs=>Mem [(w,al)] [.box aQ [ak,ah,aI,bv,aG,aR,ad,aT,bj] 41]) (λs=>s.1) ((wr t (k:Int)).length,n) ⟨aoL _,rfl,rD⟩ ?_ ⟨rfl,rfl,rfl,rfl,trivial⟩ cv
  rintro⟨m,sA⟩ ⟨hm,yN,Qg⟩;dsimp only at hm yN Qg⊢;have ai:=Xb t (k:=k+1) mB;rw[oO,<-Nat.mul_assoc,<-bd,<-yN]at ai;refine a8 (λcE=>?_) λcE=>?_
  ·rw[an]at cE;obtain⟨q,rfl⟩:∃q,m=q+1:=⟨m-1,by omega⟩;have Qf:0<=(sA:Int)* ((q+1:Nat):Int):=Int.mul_nonneg (by omega) (by omega);have qN:(sA:Int)* ((q+1:Nat):Int)<=65536* 64:=Int.mul_le_mul (by omega) (by omega) (by omega) (by omega);have so:(sA:Int)* ((q+1:Nat):Int)=((sA* (q+1):Nat):Int):=by push_cast;rfl
   have hf:sA* (q+1)<=sA* fact (q+1):=Nat.mul_le_mul_left _ (aqA _ (rr q));refine U ?_;rw[so];refine bC (λdL=>?_) λdL=>?_
   ·rw[an]at dL;refine bf λI hw=>?_;rw[N8 (by omega)];rfl
   rw[au]at dL;refine U ?_;rw[show((q+1:Nat):Int)-1=(q:Int) by omega];exact bm (q,sA* (q+1)) ⟨by dsimp only;omega,by dsimp only;rw[<-yN,fact,Nat.mul_assoc],by dsimp only;omega⟩ (by dsimp only;omega) (hA:=cv)
  rw[au]at cE;have hf:fact m=1:=by
   have:m=0\/m=1:=by omega
   rcases this with rfl | rfl<;>rfl
  rw[hf,ara]at yN;refine U ?_;exact bm ((k+1),sA) ⟨mB,by dsimp only;rw[oO,<-Nat.mul_assoc,<-bd,yN],Qg⟩ (by dsimp only;omega) (hA:=cv)
 rw[au]at a6;obtain rfl:k=t.aO.length:=by omega
 refine bf λI hw=>?_;rw[iT,<-bd,N9 (by omega)];rfl
end Go.Proofs.bA
namespace Go.bM
def nW(t:aW):Nat:=if e0 t=true then if iT t<=65536 then iT t else 0 else 0
def ln(t:aW):Int:=if e0 t=true then if iT t<=65536 then 0 else 3 else 1
theorem ve(t:aW):(!bw (nt t=0))=!e0 t:=by rw[cd];unfold nt;cases e0 t<;>rfl
theorem kI{t:aW}(h:e0 t=true):t.J.length<=64/\t.aO.length<=64:=by simp only[e0,aoo,kZ,jP,aop]at h;exact⟨h.1.1.1.1.1.2.1,h.1.1.1.1.1.1.1.1⟩
end Go.bM
namespace Go.Proofs.bA
attribute [local irreducible] wpList Code.wp bodyPost Exit.then Exit.inBlock Calls
theorem age{ak ah aI bv aG aR ad aT bj:Value}{t:aW}(w:World)(h:fB al w ak ah aI bv aG aR ad aT bj t): bl prog 56 [.agg #[ak,ah,aI,bv,aG,aR,ad,aT,bj]] w λ_ v _=>v=.tuple #[.int .i64 (nW t:Int),.int .i64 (ln t)]:=by
 refine bZ func56 ntmps56 ?_;refine b7 λaQ=>?_;refine aq (bp (λI hw=>agV I (h.now hw)) ?_);rintro v bx bc rfl cu;refine a8 (λh1=>?_) λh1=>?_
 ·rw[ve,aoq]at h1;refine U ?_;refine bT rfl (.tmp rfl (.t1 rfl)) λI hw=>?_;simp only[nW,ln,h1];rfl
 rw[ve,aos]at h1;obtain⟨hb,ma⟩:=kI h1;refine U ?_;refine aq (bp (λI hw=>agk I (h.now hw) hb ma) ?_);rintro v ck bY rfl eZ;refine a8 (λh2=>?_) λh2=>?_
 ·rw[an]at h2;refine U ?_;refine bT rfl (.tmp rfl (.t1 rfl)) λI hw=>?_;have:¬iT t<=65536:=by unfold cap at h2;omega
  simp only[nW,ln,h1,aot this];rfl
 rw[au]at h2;refine U ?_;refine bT rfl (.tmp rfl (.t1 rfl)) λI hw=>?_;have:iT t<=65536:=by unfold cap at h2;omega
 rw[N9 (by omega)];simp only[nW,ln,h1,aou this];rfl
end Go.Proofs.bA
namespace Go.bM
theorem Ak{i:Nat}:∀j,i<=j->fact i<=fact j
 | 0,h=>by rw[show i=0 by omega];exact aoL _
 | j+1,h=>by
  by_cases he:i=j+1
  ·rw[he];exact aoL _
  exact ao5 (Ak j (by omega)) (aqI _ (Nat.succ_pos j))
end Go.bM
namespace Go.Proofs.bA
attribute [local irreducible] wpList Code.wp bodyPost Exit.then Exit.inBlock Calls
theorem TP(n:Nat)(w:World)(bd:fact n<=1000000000)(eZ:n<=1000000): bl prog 127 [.int .i64 n] w λ_ v _=>v=.int .i64 (fact n:Int):=by
 refine bZ func127 ntmps127 ?_;refine bX (λs:Nat×Nat=>2<=s.1/\(s.1<=n+1\/s.1=2)/\s.2=fact (s.1-1)) (λs=>[(4,true,.int .i64 s.1),(3,true,.int .i64 s.2),(0,true,.int .i64 n)]) (λs=>Mem [(w,al)] []) (λs=>n+1-s.1) (2,1) ⟨aoL _,.inr rfl,rfl⟩ ?_ ⟨rfl,rfl,rfl,trivial⟩ cv
 rintro⟨k,all⟩ ⟨h2,hk,ay⟩;dsimp only at h2 hk ay⊢;subst ay;refine a8 (λh1=>?_) λh1=>?_
 ·rw[an]at h1;have hf:fact (k+1-1)<=fact n:=Ak n (by omega);have aj:=O6 h2;have hm:((fact (k-1):Nat):Int)* ((k:Nat):Int)=((fact (k+1-1):Nat):Int):=by rw[<-aj];push_cast;rfl
  have Qf:0<=((fact (k-1):Nat):Int)* ((k:Nat):Int):=by rw[hm];omega
  have qN:((fact (k-1):Nat):Int)* ((k:Nat):Int)<=1000000000:=by rw[hm];omega
  refine U ?_;rw[hm];exact bm ((k+1),fact (k+1-1)) ⟨by dsimp only;omega,.inl (by dsimp only;omega),rfl⟩ (by dsimp only;omega) (hA:=cv)
 rw[au]at h1;refine bf λI hw=>?_;rw[O4 h2 hk (by omega)];rfl
end Go.Proofs.bA
namespace Go.b9
open Go Go.RowKit
def inner(t:TypeId)(vs:List Value)(xss:List (List Int)):List aB:=List.zipWith (λv xs=>.own v t 1 a7 xs) vs xss
theorem abL(t:TypeId){vs:List Value}{xss:List (List Int)}(h:vs.length=xss.length):(inner t vs xss).length=vs.length:=by simp[inner,h]
theorem FQ(t:TypeId){vs:List Value}{xss:List (List Int)}(h:vs.length=xss.length){i:Nat}(hi:i<vs.length):(inner t vs xss)[i]?=some (.own (vs.getD i default) t 1 a7 (xss.getD i default)):=by unfold inner;rw[List.getElem?_zipWith,getD_some hi,getD_some (show i<xss.length by omega)]
theorem Da(t:TypeId)(vs:List Value)(xss:List (List Int))(i:Nat)(v:Value)(xs:List Int):(inner t vs xss).set i (.own v t 1 a7 xs)=inner t (vs.set i v) (xss.set i xs):=by
 unfold inner
 induction vs generalizing xss i with
 | nil=>cases xss<;>rfl
 | cons a vs bP=>
  cases xss with
  | nil=>cases i<;>rfl
  | cons b xss=>
   cases i with
   | zero=>rfl
   | succ i=>simp only[List.zipWith_cons_cons,List.set_cons_succ,bP]
theorem Mem.swap{bs:List dm}{mL jX:List aB}{w:World}(h:Mem bs (mL++jX) w):Mem bs (jX++mL) w:=by
 refine h.cC ((List.range jX.length).map (· +mL.length)++List.range mL.length) ?_ ?_
 ·rw[apm,apm,aq9];congr 1
  ·apply aqm;intro i;by_cases hi:i<jX.length
   ·simp[hi,aoS]
   simp[hi]
  apply aqm;intro i;by_cases hi:i<mL.length
  ·simp[hi,aoT]
  simp[hi]
 rw[ard];refine⟨?_,aqd,?_⟩
 ·rw[List.Nodup,apI];exact ap1 (λh=>by omega) aqd
 intro a ay b hb;simp at ay hb;obtain⟨c,ai,rfl⟩:=ay;omega
theorem Mem.ad2{bs:List dm}{H:List aB}{w:World}(h:Mem bs H w)(t:TypeId)(n:Nat):Mem bs (inner t (List.replicate n aa) (List.replicate n [])++H) w:=by
 induction n with
 | zero=>exact h
 | succ n bP=>rw[aq0,aq0];show Mem bs (.own aa t 1 a7 []::(inner t (List.replicate n aa) (List.replicate n [])++H)) w;refine bP.new rfl rfl rfl (aoL _) (λ_ _=>rfl) ⟨by simp,.inl ⟨rfl,rfl⟩⟩ (λk hk=>?_) (λk hk=>?_)<;>simp[aB.cN,Value.ownBlock]at hk
theorem FX{N:Nat}{K:Act->World->Prop}{tm:dY}{bs:List dm}{H:List aB}(t:TypeId)(n:Nat)(h:cR N K tm (Mem bs (H++inner t (List.replicate n aa) (List.replicate n [])))):cR N K tm (Mem bs H):=cA _ (λ_ hw=>(hw.ad2 t n).swap) h
theorem Mem.put{bs:List dm}{e:aB}{H:List aB}{w:World}(h:Mem bs (e::H) w)(k:Nat):Mem bs (H.set k e) w:=by
 by_cases hk:k<H.length
 ·refine h.cC ((List.range H.length).map λj=>if j=k then 0 else j+1) ?_ ?_
  ·apply aqm;intro i;by_cases hi:i<H.length
   ·by_cases mX:i=k
    ·subst mX;simp[hi]
    simp[hi,mX,aqK,show ¬k=i from λh=>mX h.symm]
   simp[hi]
  rw[List.Nodup,apI];refine apY (λ{a b} _ _ l8=>?_) aqd;split<;>split<;>omega
 rw[List.set_eq_of_length_le (by omega)];exact h.tail
theorem Q5(t:TypeId){vs:List Value}{xss:List (List Int)}(h:vs.length=xss.length){i:Nat}(hi:i<vs.length):aB.own (vs.getD i default) t 1 a7 (xss.getD i default)∈inner t vs xss:=aoM (FQ t h hi)
theorem Uj{α:Type _}(a b:List α)(i:Nat)(x:α):(a++b).set (a.length+i) x=a++b.set i x:=by
 induction a with
 | nil=>simp
 | cons c a bP=>rw[aoN,Nat.add_right_comm];simp[bP]
theorem PE{α:Type _}(a b:List α)(i:Nat):(a++b)[a.length+i]?=b[i]?:=by rw[aoS (by omega)];congr 1;omega
structure o0(S:Nat->Prop)(w:World)(v:Value)(xss:List (List Int)):Prop where
 out:∃vs,aZ S w ct 1 v vs/\vs.length=xss.length/\∀i,i<xss.length->aZ S w a7 1 (vs.getD i default) (xss.getD i default)
theorem Mem.PF{bs:List dm}{H:List aB}{w I:World}{v:Value}{vs:List Value}{xss:List (List Int)}(t de:TypeId)(hw:Mem bs H I)(bn:aB.own v de 1 ct vs∈H)(aL:vs.length=xss.length)(hi:∀e,e∈inner t vs xss->e∈H)(hB:(w,al)∈bs):o0 (Fr w.heap.size) I v xss:=⟨⟨vs,hw.im bn hB,aL,λi h=>hw.im (hi _ (Q5 t aL (by omega))) hB⟩⟩
end Go.b9
