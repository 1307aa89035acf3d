/- Lemmas for the law WholeComplete. -/
import Derived.Test.YtiknadellddjhaaGreatDoorC18
set_option linter.all false
open Go.Proofs.Tryz
set_option maxHeartbeats 3200000
open Go Go.b9 Go.bM
namespace Go.bM
def uS(t:aV):Prop:=1<=t.code.length/\t.code.length<=16/\∀k,k<t.code.length->(t.code.getD k default).length<=256
theorem Oo{t:aV}(h:t.code.length<1\/16<t.code.length):p2 t=2:=by unfold p2;rw[aou h]
theorem Oq{t:aV}{k:Nat}(hk:k<t.code.length)(h:256<(t.code.getD k default).length):p2 t=2:=by
 unfold p2;split
 ·rfl
 rw[aou (apH.2 ⟨_,eN hk,aow h⟩)]
theorem On{t:aV}(h:uS t):p2 t=lf (t.code.map (rq t.aC)):=by
 have h2:¬(t.code.any λc=>decide (256<c.length))=true:=by rw[apS,Ej];exact λi hi=>aoE (by have:=h.2.2 i hi;omega)
 unfold p2;rw[aot (by have:=h.1;have:=h.2.1;omega),aot h2]
theorem Om{t:aV}(h:uS t)(h0:∀k,k<t.code.length->rq t.aC (t.code.getD k default)=0):p2 t=0:=by rw[On h];exact Po _ _ λc ai=>by obtain⟨k,hk,rfl⟩:=pj ai;exact h0 k hk
theorem Ey{t:aV}{k:Nat}{e:Int}(h:uS t)(hk:k<t.code.length)(h0:∀j,j<k->rq t.aC (t.code.getD j default)=0)(he:rq t.aC (t.code.getD k default)=e)(bd:e≠0):p2 t=e:=by rw[On h,Pn _ _ k hk h0 (by rw[he];exact bd),he]
theorem Sn{a:Int}{c:List Instr}{i:Nat}(hi:i<c.length)(h:ng a (c.getD i default)=false):rq a c=91:=by unfold rq;rw[aot λq=>by rw[HD.1 q i hi]at h;cases h]
theorem Sp{a:Int}{c:List Instr}(h:∀i,i<c.length->ng a (c.getD i default)=true):rq a c=if a=2 then lQ c else 0:=by unfold rq;rw[aou (HD.2 h)]
end Go.bM
namespace Go.Proofs.bA
attribute [local irreducible] wpList Code.wp bodyPost Exit.then Exit.inBlock Calls
theorem Yu(t:aV)(ah ad ao:Value)(vs:List Value)(w:World)(h:gW al w ah ad ao vs t)(ay:t.aC=1\/t.aC=2):bl prog 111 [.agg (c6 t ah ad ao).toArray] w λ_ v _=>v=.int .i64 (p2 t):=by
 obtain⟨s1,s2,cJ⟩:=h.jY;have eA:=h.nX;have iv:=h.nA;have hle:=iv.le;refine bZ func111 ntmps111 ?_;refine b7 λaQ=>?_;refine bC (λh1=>?_) λh1=>?_
 ·simp only[aox,an]at h1;refine bf λI hw=>?_;rw[Oo (by omega)];rfl
 simp only[aoz,au]at h1;refine U ?_;refine bX (λs:Nat=>s<=t.code.length/\∀j,j<s->(t.code.getD j default).length<=256) (λs=>[(3,true,.int .i64 s),(1,true,av aQ)]) (λs=>Mem [(w,al)] [.box aQ (c6 t ah ad ao) 32]) (λs=>t.code.length-s) 0 ⟨aoD _,λj ae=>by omega⟩ ?_
 rintro k ⟨hk,aL⟩;refine a8 (λh2=>?_) λh2=>?_
 ·have bq:k<t.code.length:=by rw[an]at h2;omega
  have qL:=h.code k (by omega);have sn:=qL.le;refine a8 (λh3=>?_) λh3=>?_
  ·rw[an]at h3;refine bf λI hw=>?_;rw[Oq bq (by omega)];rfl
  rw[au]at h3;refine U ?_;exact bm (k+1) ⟨by omega,λj ae=>by
   by_cases e:j<k
   ·exact aL j e
   rw[show j=k by omega];omega⟩ (by omega) ⟨rfl,rfl,trivial⟩ λ_ h=>h
 have eS:uS t:=⟨by omega,by omega,λj ae=>aL j (by rw[au]at h2;omega)⟩;refine U ?_;refine bX (λs:Nat=>s<=t.code.length/\∀j,j<s->rq t.aC (t.code.getD j default)=0) (λs=>[(4,true,.int .i64 s),(1,true,av aQ)]) (λs=>Mem [(w,al)] [.box aQ (c6 t ah ad ao) 32]) (λs=>t.code.length-s) 0 ⟨aoD _,λj ae=>by omega⟩ ?_
 rintro k ⟨hk,h0⟩;refine a8 (λaA=>?_) λaA=>?_
 ·have da:k<t.code.length:=by rw[an]at aA;omega
  have qL:=h.code k (by omega);have sn:=qL.le;refine U ?_;refine bX (λs:Nat=>s<=(t.code.getD k default).length/\∀j,j<s->ng t.aC ((t.code.getD k default).getD j default)=true) (λs=>[(5,true,.int .i64 s),(4,true,.int .i64 k),(1,true,av aQ)]) (λs=>Mem [(w,al)] [.box aQ (c6 t ah ad ao) 32]) (λs=>(t.code.getD k default).length-s) 0 ⟨aoD _,λj ae=>by omega⟩ ?_
  rintro i ⟨hi,bG⟩;refine a8 (λa6=>?_) λa6=>?_
  ·have mB:i<(t.code.getD k default).length:=by rw[an]at a6;omega
   refine U ?_;refine cz [0,1,2,3,4,5,6,7,8,9,10,11] mixed ?_;refine aN ?_;refine bO _ (h:=bp (λI hw=>Yx t.aC ((t.code.getD k default).getD i default) I) ?_);rintro v bx bc rfl cu;refine aF (aN ?_) cv;refine a8 (λcE=>?_) λcE=>?_
   ·rw[aoq,au]at cE;refine bf λI hw=>?_;have hb:ng t.aC ((t.code.getD k default).getD i default)=false:=aoW.2 λq=>cE (by rw[aou q]);rw[Ey eS da h0 (Sn mB hb) (by decide),hb];rfl
   rw[aos,an]at cE;have hb:ng t.aC ((t.code.getD k default).getD i default)=true:=by
    cases ba:ng t.aC ((t.code.getD k default).getD i default)
    ·rw[ba]at cE;cases cE
    rfl
   refine U ?_;exact bm (i+1) ⟨by omega,jl bG hb⟩ (by omega) (hA:=cv)
  have na:=Sp λj ae=>bG j (by rw[au]at a6;omega);refine a8 (λdL=>?_) λdL=>?_
  ·rw[an]at dL;rw[aou dL]at na;refine U ?_;refine aq (bp (λI hw=>Ta _ (t.code.getD k default) I (hw.now qL)) ?_);rintro v ck bY ⟨ak,bk,tB,rfl,c0⟩ eZ;refine a8 (λdZ=>?_) λdZ=>?_
   ·rw[aoq,au]at dZ;refine bf λI hw=>?_;rw[Ey eS da h0 na dZ];rfl
   rw[aos,an]at dZ;refine U ?_;exact bm (k+1) ⟨by omega,λj ae=>by
    by_cases e:j<k
    ·exact h0 j e
    rw[show j=k by omega,na,dZ]⟩ (by omega) ⟨rfl,rfl,trivial⟩ (bD [0])
  rw[au]at dL;rw[aot dL]at na;refine U ?_;exact bm (k+1) ⟨by omega,λj ae=>by
   by_cases e:j<k
   ·exact h0 j e
   rw[show j=k by omega,na]⟩ (by omega) ⟨rfl,rfl,trivial⟩ λ_ h=>h
 refine bf λI hw=>?_;rw[Om eS λj ae=>h0 j (by rw[au]at aA;omega)];rfl
theorem YC(t:aV)(ah ad ao:Value)(vs:List Value)(w:World)(h:gW al w ah ad ao vs t)(ay:t.aC=1\/t.aC=2):bl prog 61 [.agg (c6 t ah ad ao).toArray] w λ_ v _=>v=.int .i64 (p2 t):=by
 obtain⟨s1,s2,cJ⟩:=h.jY;have eA:=h.nX;have iv:=h.nA;have hle:=iv.le;refine bZ func61 ntmps61 ?_;refine b7 λaQ=>?_;refine bC (λh1=>?_) λh1=>?_
 ·simp only[aox,an]at h1;refine bf λI hw=>?_;rw[Oo (by omega)];rfl
 simp only[aoz,au]at h1;refine U ?_;refine bX (λs:Nat=>s<=t.code.length/\∀j,j<s->(t.code.getD j default).length<=256) (λs=>[(25,true,.int .i64 s),(24,true,.int .i64 vs.length),(23,true,ad),(1,true,av aQ)]) (λs=>Mem [(w,al)] [.box aQ (c6 t ah ad ao) 32]) (λs=>t.code.length-s) 0 ⟨aoD _,λj ae=>by omega⟩ ?_
 rintro k ⟨hk,aL⟩;refine a8 (λh2=>?_) λh2=>?_
 ·have bq:k<t.code.length:=by rw[an]at h2;omega
  have qL:=h.code k (by omega);have sn:=qL.le;refine a8 (λh3=>?_) λh3=>?_
  ·rw[an]at h3;refine bf λI hw=>?_;rw[Oq bq (by omega)];rfl
  rw[au]at h3;refine U ?_;exact bm (k+1) ⟨by omega,λj ae=>by
   by_cases e:j<k
   ·exact aL j e
   rw[show j=k by omega];omega⟩ (by omega) ⟨rfl,rfl,rfl,rfl,trivial⟩ λ_ h=>h
 have eS:uS t:=⟨by omega,by omega,λj ae=>aL j (by rw[au]at h2;omega)⟩;refine U ?_;refine bX (λs:Nat=>s<=t.code.length/\∀j,j<s->rq t.aC (t.code.getD j default)=0) (λs=>[(36,true,.int .i64 s),(35,true,.int .i64 vs.length),(34,true,ad),(1,true,av aQ)]) (λs=>Mem [(w,al)] [.box aQ (c6 t ah ad ao) 32]) (λs=>t.code.length-s) 0 ⟨aoD _,λj ae=>by omega⟩ ?_
 rintro k ⟨hk,h0⟩;refine a8 (λaA=>?_) λaA=>?_
 ·have da:k<t.code.length:=by rw[an]at aA;omega
  have qL:=h.code k (by omega);have sn:=qL.le;refine U ?_;refine bX (λs:Nat=>s<=(t.code.getD k default).length/\∀j,j<s->ng t.aC ((t.code.getD k default).getD j default)=true) (λs=>[(42,true,.int .i64 s),(41,true,.int .i64 (t.code.getD k default).length),(40,true,vs.getD k default),(36,true,.int .i64 k),(35,true,.int .i64 vs.length),(34,true,ad),(6,true,vs.getD k default),(1,true,av aQ)]) (λs=>Mem [(w,al)] [.box aQ (c6 t ah ad ao) 32]) (λs=>(t.code.getD k default).length-s) 0 ⟨aoD _,λj ae=>by omega⟩ ?_
  rintro i ⟨hi,bG⟩;refine a8 (λa6=>?_) λa6=>?_
  ·have mB:i<(t.code.getD k default).length:=by rw[an]at a6;omega
   refine U ?_;refine cH λbi=>?_;refine bN 0 ?_;refine e1 (h:=ev (bb:=λ_ I hw=>Q6 ((t.code.getD k default).getD i default) I)) (ab:=U ?_);refine e1 (h:=ev (bb:=λ_ I hw=>T4 ((t.code.getD k default).getD i default) I)) (ab:=U ?_);have pb:ng t.aC ((t.code.getD k default).getD i default)=if t.aC=1 then kn ((t.code.getD k default).getD i default)else kW ((t.code.getD k default).getD i default):=rfl
   refine bC (λcE=>?_) λcE=>?_
   ·simp only[aox,aoo,aoq,an,au]at cE;refine bf λI hw=>?_;have hb:ng t.aC ((t.code.getD k default).getD i default)=false:=by
     rw[pb];rcases cE with⟨cB,bz⟩ | ⟨cB,bz⟩
     ·rw[aou cB];exact aoW.2 λq=>bz (by rw[aou q])
     rw[aot (by omega)];exact aoW.2 λq=>bz (by rw[aou q])
    rw[Ey eS da h0 (Sn mB hb) (by decide)];rfl
   simp only[aoz,aoC,aos,an,au]at cE;have PH:∀b:Bool,(if b=true then(0:Int)else 91)=0->b=true:=by intro b;cases b<;>simp
   have hb:ng t.aC ((t.code.getD k default).getD i default)=true:=by
    rw[pb];rcases ay with ay | ay
    ·rw[aou ay];exact PH _ (cE.1.resolve_left λq=>q ay)
    rw[aot (by omega)];exact PH _ (cE.2.resolve_left λq=>q ay)
   refine U ?_;exact bm (i+1) ⟨by omega,jl bG hb⟩ (by omega) (hA:=b4 [1])
  have na:=Sp λj ae=>bG j (by rw[au]at a6;omega);refine a8 (λdL=>?_) λdL=>?_
  ·rw[an]at dL;rw[aou dL]at na;refine U ?_;refine aq (bp (λI hw=>T5 _ (t.code.getD k default) I (hw.now qL)) ?_);rintro v ck bY ⟨ak,bk,tB,rfl,c0⟩ eZ;refine a8 (λdZ=>?_) λdZ=>?_
   ·rw[aoq,au]at dZ;refine bf λI hw=>?_;rw[Ey eS da h0 na dZ];rfl
   rw[aos,an]at dZ;refine U ?_;exact bm (k+1) ⟨by omega,λj ae=>by
    by_cases e:j<k
    ·exact h0 j e
    rw[show j=k by omega,na,dZ]⟩ (by omega) ⟨rfl,rfl,rfl,rfl,trivial⟩ (bD [0])
  rw[au]at dL;rw[aot dL]at na;refine U ?_;exact bm (k+1) ⟨by omega,λj ae=>by
   by_cases e:j<k
   ·exact h0 j e
   rw[show j=k by omega,na]⟩ (by omega) ⟨rfl,rfl,rfl,rfl,trivial⟩ λ_ h=>h
 refine bf λI hw=>?_;rw[Om eS λj ae=>h0 j (by rw[au]at aA;omega)];rfl
end Go.Proofs.bA
namespace Go.bM
theorem SY{x y:ByteArray}:∀{l:List ByteArray},x∉l->lj x (l++[y])=if l.any (fL x)then lj x l++[y]else l++lj x [y]
 | [],_=>by simp
 | z::r,h=>by
  have h1:¬x=z:=λe=>h (e▸.head _);have h2:x∉r:=λe=>h (.tail _ e);show lj x (z::(r++[y]))=_;unfold lj;rw[aot h1,aot h1];by_cases h3:fL x z=true
  ·rw[aou h3,aou h3,List.any_cons,h3];simp
  rw[aot h3,aot h3,SY h2,List.any_cons,aoW.2 h3,ap6];split
  ·rfl
  conv=>rhs;unfold lj
  rfl
theorem Li{x:ByteArray}:∀{l:List ByteArray},x∉l->l.any (fL x)=false->lj x l=l++[x]
 | [],_,_=>rfl
 | z::r,h,ay=>by rw[List.any_cons,aoz]at ay;have dS:¬x=z:=λe=>h (e▸.head _);have aM:x∉r:=λe=>h (.tail _ e);unfold lj;rw[aot dS,aot (by rw[ay.1];simp),Li aM ay.2];rfl
theorem SX{x:ByteArray}:∀{l:List ByteArray},l.Pairwise qw->x∈l->lj x l=l
 | y::r,hp,h=>by
  rw[apa]at hp;unfold lj;by_cases e:x=y
  ·rw[aou e]
  have aM:x∈r:=(aoO.1 h).resolve_left e;have h1:fL y x=true:=hp.1 x aM;rw[aot e,aot (λq=>by have:=wA q h1;rw[tP]at this;cases this),SX hp.2 aM]
theorem Lh(x:ByteArray):∀l:List ByteArray,(lj x l).length<=l.length+1
 | []=>by simp[lj]
 | y::r=>by have:=Lh x r;unfold lj;split<;>(try split)<;>simp<;>omega
theorem aeR(x:ByteArray)(l:List ByteArray):(q1 l x).length<=l.length+1:=by
 unfold q1;split
 ·omega
 exact Lh x l
theorem zB(q:Int)(n:e3):(fS q n).length<=1024:=by
 unfold fS;split
 ·rename_i h1;have tK:(iE 2 n 0 0).2=0:=by
   unfold o4 at h1;rw[aou (.inr rfl)]at h1;split at h1
   ·cases h1
   exact h1
  have bH:=(wZ n 0 0 tK).2;have:=Gu (jM n) [];unfold qZ at this;simp only[ao1]at this;omega
 exact aoD _
end Go.bM
namespace Go.Proofs.bA
attribute [local irreducible] wpList Code.wp bodyPost Exit.then Exit.inBlock Calls
def Hu(ak:Value)(xs ys:List ByteArray):Nat->Value->World->Prop:=λn v I=>(v=ak/\ys=xs)\/aZ (Fr n) I dU 1 v ys
theorem EL(ak:Value)(xs:List ByteArray)(x:ByteArray)(w:World)(aL:aZ al w dU 1 ak xs)(AN:xs.Pairwise qw)(xC:xs.length<=9000):bl prog 199 [ak,.string x] w (Hu ak xs (q1 xs x)):=by
 have jV:=aL.le;have hr:=aL.aK;refine bZ func199 ntmps199 ?_;unfold q1;refine bC (λh1=>?_) λh1=>?_
 ·rw[an]at h1;refine bf λI hw=>?_;exact .inl ⟨rfl,aou h1⟩
 rw[au]at h1;rw[aot (show ¬x=bg from h1)];refine U ?_;refine ea 9 1 dU ?_;refine bX (λs:Nat×Bool×Value×List ByteArray=>s.1<=xs.length/\aD s.2.2.1/\(∀j,j<s.1->xs.getD j default≠x)/\s.2.1=(xs.take s.1).any (fL x)/\s.2.2.2++(if s.2.1 then []else [x])=lj x (xs.take s.1)) (λs=>[(7,true,.int .i64 s.1),(6,true,.bool s.2.1),(5,true,s.2.2.1),(1,true,.string x),(0,true,ak)]) (λs=>Mem [(w,al)] [.own s.2.2.1 9 1 dU s.2.2.2]) (λs=>xs.length-s.1) (0,false,aa,[]) ⟨aoD _,cU,λj ae=>by omega,rfl,rfl⟩ ?_
 rintro⟨i,put,v,out⟩ ⟨hi,ax,eD,mH,hh⟩;dsimp only at hi ax eD mH hh⊢;have tC:out.length<=9001:=by have h1:=aoI List.length hh;have h2:=Lh x (xs.take i);rw[aoy]at h1;rw[ao3]at h2;omega
 refine a8 (λh2=>?_) λh2=>?_
 ·have bq:i<xs.length:=by rw[an]at h2;omega
  have uN:xs.take (i+1)=xs.take i++[xs.getD i default]:=by rw[apn,getD_some bq];rfl
  have yP:x∉xs.take i:=λq=>by obtain⟨j,ae,e⟩:=pj q;rw[ao3]at ae;refine eD j (by omega) ?_;rw[<-e,aor,aor,apV,aou (by omega)]
  refine a8 (λh3=>?_) λh3=>?_
  ·rw[an]at h3;refine bf λI hw=>?_;exact .inl ⟨rfl,SX AN (h3▸eN bq)⟩
  rw[au]at h3;have CJ:∀j,j<i+1->xs.getD j default≠x:=λj ae=>by
   by_cases q:j<i
   ·exact eD j q
   rw[show j=i by omega];exact h3
  have wh:=SY (y:=xs.getD i default) yP;have yC:(xs.take (i+1)).any (fL x)=(put||fL x (xs.getD i default)):=by rw[uN,List.any_append,mH];simp
  have na:lj x [xs.getD i default]=if fL x (xs.getD i default)=true then [x,xs.getD i default]else [xs.getD i default,x]:=by unfold lj;rw[aot (Ne.symm h3)];rfl
  refine a8 (λaA=>?_) λaA=>?_
  ·rw[aoo,aoq]at aA;obtain⟨aA,a6⟩:=aA;subst aA;rw[a6]at yC na;rw[<-mH,aot (by simp)]at wh;have bn:out=xs.take i:=by rw[Li yP mH.symm]at hh;simpa using hh
   refine U ?_;refine aq (eI (ab:=λv40 QR=>U ?_));refine aq (e6 1 (hk:=rfl) (bH:=by simp;omega) (ab:=λv41 wm=>U ?_));refine aq (eI (ab:=λpU y0=>U ?_));refine aq (e6 2 (hk:=rfl) (bH:=by simp;omega) (ab:=λtZ tJ=>U ?_));exact bm (i+1,true,tZ,(out++[x])++[xs.getD i default]) ⟨by dsimp only;omega,tJ,CJ,by rw[yC];rfl,by rw[uN,wh,na,bn];simp⟩ (by dsimp only;omega) (hA:=b4 [2])
  refine U ?_;refine aq (eI (ab:=λpU y0=>U ?_));refine aq (e6 1 (hk:=rfl) (bH:=by simp;omega) (ab:=λtZ tJ=>U ?_));refine bm (i+1,put,tZ,out++[xs.getD i default]) ⟨by dsimp only;omega,tJ,CJ,?_,?_⟩ (by dsimp only;omega) (hA:=b4 [1])
  ·rw[yC];cases put
   ·simpa using aA
   rfl
  dsimp only;rw[uN,wh,<-mH];cases put with
  | true=>rw[aou rfl,aou rfl,<-hh,aou rfl,aoH,aoH]
  | false=>
   have aA:fL x (xs.getD i default)=false:=by simpa using aA
   rw[aot (by simp),aot (by simp),na,aA];rw[Li yP mH.symm,aot (by simp)]at hh;rw[List.append_cancel_right hh];simp
 have bq:i=xs.length:=by rw[au]at h2;omega
 rw[bq,aoZ]at hh;refine a8 (λa6=>?_) λa6=>?_
 ·rw[aoq]at a6;subst a6;refine U ?_;refine aq (eI (ab:=λv54 abm=>U ?_));refine aq (e6 1 (hk:=rfl) (bH:=by simp;omega) (ab:=λv55 abn=>U ?_));refine bT rfl (.t1 rfl) λI hw=>?_;refine .inr ?_;rw[show lj x xs=out++[x]from hh.symm];exact hw.im dg aP
 rw[aos]at a6;subst a6;refine bf λI hw=>?_;refine .inr ?_;rw[show lj x xs=out from by rw[aou rfl,aoH]at hh;exact hh.symm];exact hw.im aP aP
theorem Yt(t:aV)(ah ad ao:Value)(vs:List Value)(w:World)(h:gW al w ah ad ao vs t):bl prog 113 [.agg (c6 t ah ad ao).toArray] w λ_ v _=>v=.int .i64 (s6 t):=by
 obtain⟨s1,s2,cJ⟩:=h.jY;have eA:=h.nX;have iv:=h.nA;have hle:=iv.le;have qR:=zB t.dH t.node;refine bZ func113 ntmps113 ?_;refine b7 λaQ=>?_;refine aq (bp (λI hw=>S2 t.aC t.dH t.node ao I (h.now hw).node) ?_);rintro v bx bc rfl cu;refine U ?_;unfold s6;refine bC (λh1=>?_) λh1=>?_
 ·rw[aoq,au]at h1;refine bf λI hw=>?_;rw[aot h1];rfl
 rw[aos,an]at h1;rw[aou h1];refine U ?_;refine aq (bp (λI hw=>Lo t.dH t.node ao I (h.now hw).node) ?_);rintro v ck bY ⟨aT,rfl,bL⟩ eZ;have yz:=bL.le;refine U ?_;refine bX (λs:Nat=>s<=(fS t.dH t.node).length/\∀j,j<s->decide ((t.code.length:Int)<=((fS t.dH t.node).getD j default).aH)=false) (λs=>[(6,true,.int .i64 s),(4,true,aT),(1,true,av aQ)]) (λs=>Mem [(bY,Fr ck),(w,al)] [.box aQ (c6 t ah ad ao) 32]) (λs=>(fS t.dH t.node).length-s) 0 ⟨aoD _,λj ae=>by omega⟩ ?_ ⟨rfl,rfl,rfl,trivial⟩ λ_ h=>h.uu
 rintro k ⟨hk,h0⟩;refine a8 (λh2=>?_) λh2=>?_
 ·have bq:k<(fS t.dH t.node).length:=by rw[an]at h2;omega
  refine U ?_;refine cz [0,1,2,3,4,5,6,7,8] mixed ?_;refine aN ?_;refine a8 (λh3=>?_) λh3=>?_
  ·rw[an]at h3;refine bf λI hw=>?_;rw[aou (apH.2 ⟨_,eN bq,aow (by omega)⟩)];rfl
  rw[au]at h3;refine U ?_;exact bm (k+1) ⟨by omega,λj ae=>by
   by_cases e:j<k
   ·exact h0 j e
   rw[show j=k by omega];exact aoE (by omega)⟩ (by omega) ⟨rfl,rfl,rfl,trivial⟩ λ_ h=>h
 refine bf λI hw=>?_;rw[aot];rfl;rw[apS,Ej];exact λj ae=>h0 j (by rw[au]at h2;omega)
end Go.Proofs.bA
namespace Go.b9
theorem Mem.B8{bs bs':List dm}{H:List aB}{w:World}(h:Mem bs H w)(aj:∀B,B∈bs'->B∈bs):Mem bs' H w:=⟨λC hC=>h.base C (aj C hC),h.own,h.fC,λC hC=>h.apart C (aj C hC),h.il⟩
end Go.b9
attribute [local irreducible] Go.wpList Go.Code.wp Go.bodyPost Go.Exit.then Go.Exit.inBlock Go.Calls
namespace Go.bM
theorem Ir{α β:Type}(f:α->List β)(b:Nat):∀(l:List α),(∀x,x∈l->(f x).length<=b)->(l.flatMap f).length<=l.length* b
 | [],_=>aoD _
 | x::r,h=>by have h1:=Ir f b r λy aY=>h y (.tail _ aY);have h2:=h x aP;rw[ao8,aoy,aoN,Nat.succ_mul];omega
def C6(x:mu):List ByteArray:=[x.loc,x.value.loc]
def tc(c:List Instr):List ByteArray:=c.map (·.loc)
theorem Lt(t:aV):ni t=t.init.flatMap C6++(t.code.flatMap tc++(fS t.dH t.node).map (·.loc)):=by unfold ni;rw[aoP];rfl
theorem Tp{t:aV}(h:uS t)(hi:t.init.length<=1024):(ni t).length<=8000:=by
 rw[Lt,aoy,aoy,aoJ];have h1:=Ir C6 2 t.init λ_ _=>aoL _;have h2:=Ir tc 256 t.code λc ai=>by obtain⟨k,hk,rfl⟩:=pj ai;unfold tc;rw[aoJ];exact h.2.2 k hk
 have h3:=zB t.dH t.node;have aA:=h.2.1;have:t.code.length* 256<=16* 256:=apo _ aA;omega
def x5(t:aV)(l ys:List ByteArray):Prop:=l.foldl q1 ys=cc t/\ys.length+l.length<=8000/\ys.Pairwise qw
theorem x5.step{t:aV}{s:ByteArray}{l ys:List ByteArray}(h:x5 t (s::l) ys):x5 t l (q1 ys s):=⟨h.1,by have:=aeR s ys;have:=h.2.1;rw[aoN]at this;omega,Va h.2.2⟩
theorem Ol{l:List (List Instr)}{k:Nat}(h:k<l.length)(R:List ByteArray):(l.drop k).flatMap tc++R=(l.getD k default).map (·.loc)++((l.drop (k+1)).flatMap tc++R):=by rw[vK h,ao8,aoP];rfl
theorem HW{t:aV}(h:p2 t=0):uS t:=by
 unfold p2 at h;split at h
 ·cases h
 rename_i h1;split at h
 ·cases h
 rename_i h2;rw[apS,Ej]at h2;exact⟨by omega,by omega,λk hk=>by have:=h2 k hk;rw[aoA]at this;omega⟩
theorem Kd{t:aV}(h:wu t=0):t.init.length<=1024:=by
 unfold wu at h;split at h
 ·cases h
 omega
end Go.bM
namespace Go.Proofs.bA
theorem Hu.next{m n:Nat}{H:List aB}{re bc:World}{v dG:Value}{ys zs:List ByteArray}{bs:List dm}(qS:Hu v ys zs n dG bc)(hm:Mem bs H bc)(hB:(re,bJ H)∈bs)(ax:aZ (λk=>Fr m k/\bJ H k) re dU 1 v ys)(vZ:∀k,n<=k->bJ H k)(ej:m<=n):aZ (λk=>Fr m k/\bJ H k) bc dU 1 dG zs:=by
 rcases qS with⟨rfl,e⟩ | h
 ·rw[e];exact(hm.x9 hB λ_ h=>h.2).Dp ax aP
 exact h.mono (kK.refl _ _) (λk _ hk=>⟨ao5 ej hk,vZ k hk⟩) λx _=>eg.ne x
theorem Gl{m:Nat}{H:List aB}{re:World}{v:Value}{ys:List ByteArray}(ax:aZ (λk=>Fr m k/\bJ H k) re dU 1 v ys):aZ (bJ H) re dU 1 v ys:=ax.mono (kK.refl _ _) (λk _ hk=>hk.2) λx _=>eg.ne x
theorem O9(t:aV)(ah ad ao:Value)(vs:List Value)(w:World)(h:gW al w ah ad ao vs t)(eS:uS t)(gJ:t.init.length<=1024):bl prog 114 [.agg (c6 t ah ad ao).toArray] w λm v I=>aZ (Fr m) I dU 1 v (cc t):=by
 obtain⟨s1,s2,cJ⟩:=h.jY;have eA:=h.nX;have iv:=h.nA;have hle:=iv.le;have fs:=h.init;have IB:=fs.le;have qR:=zB t.dH t.node;have ep:=Tp eS gJ;refine bZ func114 ntmps114 ?_;refine b7 λaQ=>?_;refine bX (λs:Nat×Value×List ByteArray×World=>s.1<=t.init.length/\aZ (λk=>Fr w.heap.size k/\bJ [.box aQ (c6 t ah ad ao) 32] k) s.2.2.2 dU 1 s.2.1 s.2.2.1/\x5 t ((t.init.drop s.1).flatMap C6++(t.code.flatMap tc++(fS t.dH t.node).map (·.loc))) s.2.2.1) (λs=>[(4,true,.int .i64 s.1),(3,true,s.2.1),(1,true,av aQ)]) (λs=>Mem [(s.2.2.2,bJ [.box aQ (c6 t ah ad ao) 32]),(w,al)] [.box aQ (c6 t ah ad ao) 32]) (λs=>t.init.length-s.1) (0,aa,[],w) ⟨aoD _,DN _ _,by rw[aqB,<-Lt];exact⟨rfl,by simpa using ep,List.Pairwise.nil⟩⟩ ?_ ⟨rfl,rfl,rfl,trivial⟩ λ_ h=>h.x9 aP dz
 rintro⟨i,v,ys,re⟩ ⟨hi,ax,cj⟩;dsimp only at hi ax cj⊢;have gO:=ax.le;refine a8 (λh1=>?_) λh1=>?_
 ·have bU:i<t.init.length:=by rw[an]at h1;omega
  rw[vK bU]at cj;have yx:=cj.step;have Zl:=yx.step;refine U ?_;refine aq (An (bb:=λI hw=>EL v ys (t.init.getD i default).loc I (hw.now (Gl ax) aP) cj.2.2 (by have:=cj.2.1;omega)) (ab:=?_));intro v1 bx bc C5 qN Cz CT;have jy:=C5.next qN aP ax Cz (CT _ dg);refine U ?_;refine aq (An (bb:=λI hw=>EL v1 _ (t.init.getD i default).value.loc I (hw.now (Gl jy) aP) yx.2.2 (by have:=yx.2.1;omega)) (ab:=?_));intro v2 ck bY abD so ZU aa2;have hS:=abD.next so aP jy ZU (aa2 _ hy);refine U ?_;exact bm (i+1,v2,_,bY) ⟨by dsimp only;omega,hS,Zl⟩ (by dsimp only;omega) (hA:=λ_ h=>h.uu.uu)
 have bU:i=t.init.length:=by rw[au]at h1;omega
 rw[bU,apT,List.flatMap_nil,apb]at cj;refine U ?_;refine bX (λs:Nat×Value×List ByteArray×World=>s.1<=t.code.length/\aZ (λk=>Fr w.heap.size k/\bJ [.box aQ (c6 t ah ad ao) 32] k) s.2.2.2 dU 1 s.2.1 s.2.2.1/\x5 t ((t.code.drop s.1).flatMap tc++(fS t.dH t.node).map (·.loc)) s.2.2.1) (λs=>[(5,true,.int .i64 s.1),(3,true,s.2.1),(1,true,av aQ)]) (λs=>Mem [(s.2.2.2,bJ [.box aQ (c6 t ah ad ao) 32]),(w,al)] [.box aQ (c6 t ah ad ao) 32]) (λs=>t.code.length-s.1) (0,v,ys,re) ⟨aoD _,ax,by rw[aqB];exact cj⟩ ?_
 clear cj ax gO;rintro⟨k,v,ys,re⟩ ⟨hk,ax,cj⟩;dsimp only at hk ax cj⊢;have gO:=ax.le;refine a8 (λh2=>?_) λh2=>?_
 ·have bq:k<t.code.length:=by rw[an]at h2;omega
  have qL:=h.code k (by omega);have sn:=qL.le;rw[Ol bq]at cj;refine U ?_;refine bX (λs:Nat×Value×List ByteArray×World=>s.1<=(t.code.getD k default).length/\aZ (λk=>Fr w.heap.size k/\bJ [.box aQ (c6 t ah ad ao) 32] k) s.2.2.2 dU 1 s.2.1 s.2.2.1/\x5 t (((t.code.getD k default).drop s.1).map (·.loc)++((t.code.drop (k+1)).flatMap tc++(fS t.dH t.node).map (·.loc))) s.2.2.1) (λs=>[(6,true,.int .i64 s.1),(5,true,.int .i64 k),(3,true,s.2.1),(1,true,av aQ)]) (λs=>Mem [(s.2.2.2,bJ [.box aQ (c6 t ah ad ao) 32]),(w,al)] [.box aQ (c6 t ah ad ao) 32]) (λs=>(t.code.getD k default).length-s.1) (0,v,ys,re) ⟨aoD _,ax,by rw[aqB];exact cj⟩ ?_
  clear cj ax gO;rintro⟨i,v,ys,re⟩ ⟨hi,ax,cj⟩;dsimp only at hi ax cj⊢;have gO:=ax.le;refine a8 (λh3=>?_) λh3=>?_
  ·have dE:i<(t.code.getD k default).length:=by rw[an]at h3;omega
   rw[vK dE,apg,aqu]at cj;have yx:=cj.step;refine U ?_;refine aq (An (bb:=λI hw=>EL v ys ((t.code.getD k default).getD i default).loc I (hw.now (Gl ax) aP) cj.2.2 (by have:=cj.2.1;omega)) (ab:=?_));intro v1 bx bc C5 qN Cz CT;have jy:=C5.next qN aP ax Cz (CT _ dg);refine U ?_;exact bm (i+1,v1,_,bc) ⟨by dsimp only;omega,jy,yx⟩ (by dsimp only;omega) (hA:=λ_ h=>h.uu)
  have dE:i=(t.code.getD k default).length:=by rw[au]at h3;omega
  rw[dE,apT,List.map_nil,apb]at cj;refine U ?_;exact bm (k+1,v,ys,re) ⟨by dsimp only;omega,ax,cj⟩ (by dsimp only;omega)
 have bq:k=t.code.length:=by rw[au]at h2;omega
 rw[bq,apT,List.flatMap_nil,apb]at cj;refine U ?_;refine aq (bp (λI hw=>Lo t.dH t.node ao I (h.now hw).node) ?_);rintro _ ck bY ⟨aT,rfl,bL⟩ eZ;have yz:=bL.le;refine U ?_;refine bX (λs:Nat×Value×List ByteArray×World=>s.1<=(fS t.dH t.node).length/\aZ (λk=>Fr w.heap.size k/\bJ [.box aQ (c6 t ah ad ao) 32] k) s.2.2.2 dU 1 s.2.1 s.2.2.1/\x5 t (((fS t.dH t.node).drop s.1).map (·.loc)) s.2.2.1) (λs=>[(9,true,.int .i64 s.1),(7,true,aT),(3,true,s.2.1),(1,true,av aQ)]) (λs=>Mem [(bY,Fr ck),(s.2.2.2,bJ [.box aQ (c6 t ah ad ao) 32]),(w,al)] [.box aQ (c6 t ah ad ao) 32]) (λs=>(fS t.dH t.node).length-s.1) (0,v,ys,re) ⟨aoD _,ax,by rw[aqB];exact cj⟩ ?_
 clear cj ax gO;rintro⟨i,v,ys,re⟩ ⟨hi,ax,cj⟩;dsimp only at hi ax cj⊢;have gO:=ax.le;refine a8 (λh3=>?_) λh3=>?_
 ·have dE:i<(fS t.dH t.node).length:=by rw[an]at h3;omega
  rw[vK dE,apg]at cj;have yx:=cj.step;refine U ?_;refine aq (An (bb:=λI hw=>EL v ys ((fS t.dH t.node).getD i default).loc I (hw.now (Gl ax) dg) cj.2.2 (by have:=cj.2.1;omega)) (ab:=?_));intro v1 bx bc C5 qN Cz CT;have jy:=C5.next qN dg ax Cz (CT _ hy);refine U ?_;exact bm (i+1,v1,_,bc) ⟨by dsimp only;omega,jy,yx⟩ (by dsimp only;omega) ⟨rfl,rfl,rfl,rfl,trivial⟩ (λ_ h=>h.B8 λB hB=>by simp only[aoO,aq2,or_false]at hB⊢;rcases hB with rfl | rfl | rfl<;>simp)
 have dE:i=(fS t.dH t.node).length:=by rw[au]at h3;omega
 rw[dE,apT,List.map_nil]at cj;refine bf λI hw=>?_;rw[<-cj.1];exact(((hw.x9 dg λ_ h=>h.2).Dp ax aP)).mono (kK.refl _ _) (λk _ hk=>hk.1) λx _=>eg.ne x
theorem O8(t:aV)(ah ad ao:Value)(vs:List Value)(w:World)(h:gW al w ah ad ao vs t):bl prog 45 [.agg (c6 t ah ad ao).toArray] w λ_ v _=>v=.int .i64 (pT t):=by
 obtain⟨s1,s2,cJ⟩:=h.jY;refine bZ func45 ntmps45 ?_;refine b7 λaQ=>?_;refine aq (bp (λI hw=>aeV t.aC I) ?_);rintro v bx bc rfl cu;refine U ?_;unfold pT;refine bC (λh1=>?_) λh1=>?_
 ·rw[aoq,aoA]at h1;refine bf λI hw=>?_;rw[aot h1];rfl
 rw[aos,aop]at h1;rw[aou h1];refine U ?_;refine aq (bp (λI hw=>aeU t.name I) ?_);rintro v ck bY rfl eZ;refine U ?_;refine e1 (h:=ev (bb:=λ_ I hw=>Yv t.nZ I)) (ab:=U ?_);refine bC (λh2=>?_) λh2=>?_
 ·have bq:(q6 t.name&&p3 t.nZ)=false:=HS h2;refine bf λI hw=>?_;rw[bq];rfl
 have bq:(q6 t.name&&p3 t.nZ)=true:=HR h2;rw[aou bq];refine U ?_;refine aq (bp (λI hw=>Yu t ah ad ao vs I (h.now hw) h1) ?_);rintro v hj fW rfl nG;refine a8 (λh3=>?_) λh3=>?_
 ·rw[aoq,au]at h3;refine bf λI hw=>?_;unfold lf;rw[aot h3];rfl
 rw[aos,an]at h3;unfold lf;rw[aou h3];refine U ?_;refine aq (bp (λI hw=>Yw t ah ad ao vs I (h.now hw) h1) ?_);rintro v ia ig rfl xD;refine a8 (λaA=>?_) λaA=>?_
 ·rw[aoq,au]at aA;refine bf λI hw=>?_;unfold lf;rw[aot aA];rfl
 rw[aos,an]at aA;unfold lf;rw[aou aA];refine U ?_;refine aq (bp (λI hw=>Yt t ah ad ao vs I (h.now hw)) ?_);rintro v qk qu rfl Js;refine a8 (λa6=>?_) λa6=>?_
 ·rw[aoq,au]at a6;refine bf λI hw=>?_;unfold lf;rw[aot a6];rfl
 rw[aos,an]at a6;unfold lf;rw[aou a6];refine U ?_;refine aq (bp (λI hw=>O9 t ah ad ao vs I (h.now hw) (HW h3) (Kd aA)) ?_);rintro v n6 wY c0 rD;have yw:=c0.le;refine a8 (λcE=>?_) λcE=>?_
 ·rw[an]at cE;refine bf λI hw=>?_;rw[aou (by omega)];rfl
 rw[au]at cE;refine bf λI hw=>?_;rw[aot (by omega)];rfl
end Go.Proofs.bA
