/- Lemmas for the law WholeSound. -/
import Derived.Test.YtiknadellddjhaaGreatDoorS24
set_option linter.all false
open Go.Proofs.Tryz
set_option maxHeartbeats 3200000
open Go Go.cc Go.bU
attribute [local irreducible] Go.wpList Go.Code.wp Go.bodyPost Go.Exit.then Go.Exit.inBlock Go.Calls
namespace Go.bU
def ur(t:aM):Prop:=1<=t.code.length/\t.code.length<=16/\∀k,k<t.code.length->(t.code.getD k default).length<=256
theorem Ns{t:aM}(h:t.code.length<1\/16<t.code.length):pW t=2:=by unfold pW;rw[amo h]
theorem Nt{t:aM}{k:Nat}(hk:k<t.code.length)(h:256<(t.code.getD k default).length):pW t=2:=by
 unfold pW;split
 ·rfl
 rw[amo (anl.2 ⟨_,er hk,amq h⟩)]
theorem Nr{t:aM}(h:ur t):pW t=kS (t.code.map (q3 t.az)):=by
 have h2:¬(t.code.any λc=>decide (256<c.length))=true:=by rw[anK,DG];exact λi hi=>amy (by have:=h.2.2 i hi;omega)
 unfold pW;rw[amn (by have:=h.1;have:=h.2.1;omega),amn h2]
theorem Nq{t:aM}(h:ur t)(h0:∀k,k<t.code.length->q3 t.az (t.code.getD k default)=0):pW t=0:=by rw[Nr h];exact Oo _ _ λc ai=>by obtain⟨k,hk,rfl⟩:=o6 ai;exact h0 k hk
theorem DT{t:aM}{k:Nat}{e:Int}(h:ur t)(hk:k<t.code.length)(h0:∀j,j<k->q3 t.az (t.code.getD j default)=0)(he:q3 t.az (t.code.getD k default)=e)(bh:e≠0):pW t=e:=by rw[Nr h,On _ _ k hk h0 (by rw[he];exact bh),he]
theorem Rq{a:Int}{c:List Instr}{i:Nat}(hi:i<c.length)(h:mJ a (c.getD i default)=false):q3 a c=91:=by unfold q3;rw[amn λq=>by rw[G9.1 q i hi]at h;cases h]
theorem Rr{a:Int}{c:List Instr}(h:∀i,i<c.length->mJ a (c.getD i default)=true):q3 a c=if a=2 then lp c else 0:=by unfold q3;rw[amo (G9.2 h)]
end Go.bU
namespace Go.Proofs.bK
theorem Xh(t:aM)(aj ae ak:Value)(vs:List Value)(w:World)(h:gz an w aj ae ak vs t)(au:t.az=1\/t.az=2):bj prog 111 [.agg (cQ t aj ae ak).toArray] w λ_ v _=>v=.int .i64 (pW t):=by
 obtain⟨s1,s2,cy⟩:=h.iF;have eE:=h.mZ;have hM:=h.mx;have hle:=hM.le;refine ca func111 ntmps111 ?_;refine ck λaT=>?_;refine bA (λh1=>?_) λh1=>?_
 ·simp only[amr,aq]at h1;refine bl λI hw=>?_;rw[Ns (by omega)];rfl
 simp only[amt,ar]at h1;refine aa ?_;refine b9 (λs:Nat=>s<=t.code.length/\∀j,j<s->(t.code.getD j default).length<=256) (λs=>[(3,true,.int .i64 s),(1,true,ax aT)]) (λs=>Mem [(w,an)] [.box aT (cQ t aj ae ak) 32]) (λs=>t.code.length-s) 0 ⟨amz _,λj ad=>by omega⟩ ?_
 rintro k ⟨hk,aB⟩;refine bg (λh2=>?_) λh2=>?_
 ·have bF:k<t.code.length:=by rw[aq]at h2;omega
  have q9:=h.code k (by omega);have r5:=q9.le;refine bg (λh3=>?_) λh3=>?_
  ·rw[aq]at h3;refine bl λI hw=>?_;rw[Nt bF (by omega)];rfl
  rw[ar]at h3;refine aa ?_;exact bt (k+1) ⟨by omega,λj ad=>by
   by_cases e:j<k
   ·exact aB j e
   rw[show j=k by omega];omega⟩ (by omega) ⟨rfl,rfl,trivial⟩ λ_ h=>h
 have eZ:ur t:=⟨by omega,by omega,λj ad=>aB j (by rw[ar]at h2;omega)⟩;refine aa ?_;refine b9 (λs:Nat=>s<=t.code.length/\∀j,j<s->q3 t.az (t.code.getD j default)=0) (λs=>[(4,true,.int .i64 s),(1,true,ax aT)]) (λs=>Mem [(w,an)] [.box aT (cQ t aj ae ak) 32]) (λs=>t.code.length-s) 0 ⟨amz _,λj ad=>by omega⟩ ?_
 rintro k ⟨hk,h0⟩;refine bg (λaC=>?_) λaC=>?_
 ·have c5:k<t.code.length:=by rw[aq]at aC;omega
  have q9:=h.code k (by omega);have r5:=q9.le;refine aa ?_;refine b9 (λs:Nat=>s<=(t.code.getD k default).length/\∀j,j<s->mJ t.az ((t.code.getD k default).getD j default)=true) (λs=>[(5,true,.int .i64 s),(4,true,.int .i64 k),(1,true,ax aT)]) (λs=>Mem [(w,an)] [.box aT (cQ t aj ae ak) 32]) (λs=>(t.code.getD k default).length-s) 0 ⟨amz _,λj ad=>by omega⟩ ?_
  rintro i ⟨hi,bS⟩;refine bg (λaW=>?_) λaW=>?_
  ·have oT:i<(t.code.getD k default).length:=by rw[aq]at aW;omega
   refine aa ?_;refine cV [0,1,2,3,4,5,6,7,8,9,10,11] mixed ?_;refine aP ?_;refine bL _ (h:=bw (λI hw=>Xk t.az ((t.code.getD k default).getD i default) I) ?_);rintro v bx a6 rfl cA;refine aF (aP ?_) c7;refine bg (λcM=>?_) λcM=>?_
   ·rw[amk,ar]at cM;refine bl λI hw=>?_;have hb:mJ t.az ((t.code.getD k default).getD i default)=false:=amP.2 λq=>cM (by rw[amo q]);rw[DT eZ c5 h0 (Rq oT hb) (by decide),hb];rfl
   rw[amm,aq]at cM;have hb:mJ t.az ((t.code.getD k default).getD i default)=true:=by
    cases aZ:mJ t.az ((t.code.getD k default).getD i default)
    ·rw[aZ]at cM;cases cM
    rfl
   refine aa ?_;exact bt (i+1) ⟨by omega,kq bS hb⟩ (by omega) (hA:=c7)
  have mD:=Rr λj ad=>bS j (by rw[ar]at aW;omega);refine bg (λef=>?_) λef=>?_
  ·rw[aq]at ef;rw[amo ef]at mD;refine aa ?_;refine ao (bw (λI hw=>Sb _ (t.code.getD k default) I (hw.now q9)) ?_);rintro v cp bX ⟨lv,bc,te,rfl,c6⟩ fq;refine bg (λdW=>?_) λdW=>?_
   ·rw[amk,ar]at dW;refine bl λI hw=>?_;rw[DT eZ c5 h0 mD dW];rfl
   rw[amm,aq]at dW;refine aa ?_;exact bt (k+1) ⟨by omega,λj ad=>by
    by_cases e:j<k
    ·exact h0 j e
    rw[show j=k by omega,mD,dW]⟩ (by omega) ⟨rfl,rfl,trivial⟩ (bM [0])
  rw[ar]at ef;rw[amn ef]at mD;refine aa ?_;exact bt (k+1) ⟨by omega,λj ad=>by
   by_cases e:j<k
   ·exact h0 j e
   rw[show j=k by omega,mD]⟩ (by omega) ⟨rfl,rfl,trivial⟩ λ_ h=>h
 refine bl λI hw=>?_;rw[Nq eZ λj ad=>h0 j (by rw[ar]at aC;omega)];rfl
theorem Xp(t:aM)(aj ae ak:Value)(vs:List Value)(w:World)(h:gz an w aj ae ak vs t)(au:t.az=1\/t.az=2):bj prog 61 [.agg (cQ t aj ae ak).toArray] w λ_ v _=>v=.int .i64 (pW t):=by
 obtain⟨s1,s2,cy⟩:=h.iF;have eE:=h.mZ;have hM:=h.mx;have hle:=hM.le;refine ca func61 ntmps61 ?_;refine ck λaT=>?_;refine bA (λh1=>?_) λh1=>?_
 ·simp only[amr,aq]at h1;refine bl λI hw=>?_;rw[Ns (by omega)];rfl
 simp only[amt,ar]at h1;refine aa ?_;refine b9 (λs:Nat=>s<=t.code.length/\∀j,j<s->(t.code.getD j default).length<=256) (λs=>[(25,true,.int .i64 s),(24,true,.int .i64 vs.length),(23,true,ae),(1,true,ax aT)]) (λs=>Mem [(w,an)] [.box aT (cQ t aj ae ak) 32]) (λs=>t.code.length-s) 0 ⟨amz _,λj ad=>by omega⟩ ?_
 rintro k ⟨hk,aB⟩;refine bg (λh2=>?_) λh2=>?_
 ·have bF:k<t.code.length:=by rw[aq]at h2;omega
  have q9:=h.code k (by omega);have r5:=q9.le;refine bg (λh3=>?_) λh3=>?_
  ·rw[aq]at h3;refine bl λI hw=>?_;rw[Nt bF (by omega)];rfl
  rw[ar]at h3;refine aa ?_;exact bt (k+1) ⟨by omega,λj ad=>by
   by_cases e:j<k
   ·exact aB j e
   rw[show j=k by omega];omega⟩ (by omega) ⟨rfl,rfl,rfl,rfl,trivial⟩ λ_ h=>h
 have eZ:ur t:=⟨by omega,by omega,λj ad=>aB j (by rw[ar]at h2;omega)⟩;refine aa ?_;refine b9 (λs:Nat=>s<=t.code.length/\∀j,j<s->q3 t.az (t.code.getD j default)=0) (λs=>[(36,true,.int .i64 s),(35,true,.int .i64 vs.length),(34,true,ae),(1,true,ax aT)]) (λs=>Mem [(w,an)] [.box aT (cQ t aj ae ak) 32]) (λs=>t.code.length-s) 0 ⟨amz _,λj ad=>by omega⟩ ?_
 rintro k ⟨hk,h0⟩;refine bg (λaC=>?_) λaC=>?_
 ·have c5:k<t.code.length:=by rw[aq]at aC;omega
  have q9:=h.code k (by omega);have r5:=q9.le;refine aa ?_;refine b9 (λs:Nat=>s<=(t.code.getD k default).length/\∀j,j<s->mJ t.az ((t.code.getD k default).getD j default)=true) (λs=>[(42,true,.int .i64 s),(41,true,.int .i64 (t.code.getD k default).length),(40,true,vs.getD k default),(36,true,.int .i64 k),(35,true,.int .i64 vs.length),(34,true,ae),(6,true,vs.getD k default),(1,true,ax aT)]) (λs=>Mem [(w,an)] [.box aT (cQ t aj ae ak) 32]) (λs=>(t.code.getD k default).length-s) 0 ⟨amz _,λj ad=>by omega⟩ ?_
  rintro i ⟨hi,bS⟩;refine bg (λaW=>?_) λaW=>?_
  ·have oT:i<(t.code.getD k default).length:=by rw[aq]at aW;omega
   refine aa ?_;refine cU λbi=>?_;refine bQ 0 ?_;refine fm (h:=eY (a7:=λ_ I hw=>P8 ((t.code.getD k default).getD i default) I)) (ab:=aa ?_);refine fm (h:=eY (a7:=λ_ I hw=>S5 ((t.code.getD k default).getD i default) I)) (ab:=aa ?_);have oV:mJ t.az ((t.code.getD k default).getD i default)=if t.az=1 then j7 ((t.code.getD k default).getD i default)else kG ((t.code.getD k default).getD i default):=rfl
   refine bA (λcM=>?_) λcM=>?_
   ·simp only[amr,ami,amk,aq,ar]at cM;refine bl λI hw=>?_;have hb:mJ t.az ((t.code.getD k default).getD i default)=false:=by
     rw[oV];rcases cM with⟨cq,bn⟩ | ⟨cq,bn⟩
     ·rw[amo cq];exact amP.2 λq=>bn (by rw[amo q])
     rw[amn (by omega)];exact amP.2 λq=>bn (by rw[amo q])
    rw[DT eZ c5 h0 (Rq oT hb) (by decide)];rfl
   simp only[amt,amx,amm,aq,ar]at cM;have OM:∀b:Bool,(if b=true then(0:Int)else 91)=0->b=true:=by intro b;cases b<;>simp
   have hb:mJ t.az ((t.code.getD k default).getD i default)=true:=by
    rw[oV];rcases au with au | au
    ·rw[amo au];exact OM _ (cM.1.resolve_left λq=>q au)
    rw[amn (by omega)];exact OM _ (cM.2.resolve_left λq=>q au)
   refine aa ?_;exact bt (i+1) ⟨by omega,kq bS hb⟩ (by omega) (hA:=bV [1])
  have mD:=Rr λj ad=>bS j (by rw[ar]at aW;omega);refine bg (λef=>?_) λef=>?_
  ·rw[aq]at ef;rw[amo ef]at mD;refine aa ?_;refine ao (bw (λI hw=>S6 _ (t.code.getD k default) I (hw.now q9)) ?_);rintro v cp bX ⟨lv,bc,te,rfl,c6⟩ fq;refine bg (λdW=>?_) λdW=>?_
   ·rw[amk,ar]at dW;refine bl λI hw=>?_;rw[DT eZ c5 h0 mD dW];rfl
   rw[amm,aq]at dW;refine aa ?_;exact bt (k+1) ⟨by omega,λj ad=>by
    by_cases e:j<k
    ·exact h0 j e
    rw[show j=k by omega,mD,dW]⟩ (by omega) ⟨rfl,rfl,rfl,rfl,trivial⟩ (bM [0])
  rw[ar]at ef;rw[amn ef]at mD;refine aa ?_;exact bt (k+1) ⟨by omega,λj ad=>by
   by_cases e:j<k
   ·exact h0 j e
   rw[show j=k by omega,mD]⟩ (by omega) ⟨rfl,rfl,rfl,rfl,trivial⟩ λ_ h=>h
 refine bl λI hw=>?_;rw[Nq eZ λj ad=>h0 j (by rw[ar]at aC;omega)];rfl
end Go.Proofs.bK
namespace Go.bU
theorem RZ{x y:ByteArray}:∀{l:List ByteArray},x∉l->kX x (l++[y])=if l.any (gT x)then kX x l++[y]else l++kX x [y]
 | [],_=>by simp
 | z::r,h=>by
  have h1:¬x=z:=λe=>h (e▸.head _);have h2:x∉r:=λe=>h (.tail _ e);show kX x (z::(r++[y]))=_;unfold kX;rw[amn h1,amn h1];by_cases h3:gT x z=true
  ·rw[amo h3,amo h3,List.any_cons,h3];simp
  rw[amn h3,amn h3,RZ h2,List.any_cons,amP.2 h3,anU];split
  ·rfl
  conv=>rhs;unfold kX
  rfl
theorem KB{x:ByteArray}:∀{l:List ByteArray},x∉l->l.any (gT x)=false->kX x l=l++[x]
 | [],_,_=>rfl
 | z::r,h,au=>by rw[List.any_cons,amt]at au;have dC:¬x=z:=λe=>h (e▸.head _);have aH:x∉r:=λe=>h (.tail _ e);unfold kX;rw[amn dC,amn (by rw[au.1];simp),KB aH au.2];rfl
theorem RY{x:ByteArray}:∀{l:List ByteArray},l.Pairwise ql->x∈l->kX x l=l
 | y::r,hp,h=>by
  rw[am2]at hp;unfold kX;by_cases e:x=y
  ·rw[amo e]
  have aH:x∈r:=(amG.1 h).resolve_left e;have h1:gT y x=true:=hp.1 x aH;rw[amn e,amn (λq=>by have:=xe q h1;rw[vN]at this;cases this),RY hp.2 aH]
theorem KA(x:ByteArray):∀l:List ByteArray,(kX x l).length<=l.length+1
 | []=>by simp[kX]
 | y::r=>by have:=KA x r;unfold kX;split<;>(try split)<;>simp<;>omega
theorem adx(x:ByteArray)(l:List ByteArray):(qK l x).length<=l.length+1:=by
 unfold qK;split
 ·omega
 exact KA x l
theorem yX(q:Int)(n:eU):(fK q n).length<=1024:=by
 unfold fK;split
 ·rename_i h1;have tn:(il 2 n 0 0).2=0:=by
   unfold oL at h1;rw[amo (.inr rfl)]at h1;split at h1
   ·cases h1
   exact h1
  have bG:=(wq n 0 0 tn).2;have:=F0 (jz n) [];unfold qJ at this;simp only[amW]at this;omega
 exact amz _
end Go.bU
namespace Go.Proofs.bK
def G0(lv:Value)(xs ys:List ByteArray):Nat->Value->World->Prop:=λn v I=>(v=lv/\ys=xs)\/aV (Fr n) I dV 1 v ys
theorem D7(lv:Value)(xs:List ByteArray)(x:ByteArray)(w:World)(aB:aV an w dV 1 lv xs)(E9:xs.Pairwise ql)(w1:xs.length<=9000):bj prog 199 [lv,.string x] w (G0 lv xs (qK xs x)):=by
 have nm:=aB.le;have gZ:=aB.aG;refine ca func199 ntmps199 ?_;unfold qK;refine bA (λh1=>?_) λh1=>?_
 ·rw[aq]at h1;refine bl λI hw=>?_;exact .inl ⟨rfl,amo h1⟩
 rw[ar]at h1;rw[amn (show ¬x=a8 from h1)];refine aa ?_;refine dZ 9 1 dV ?_;refine b9 (λs:Nat×Bool×Value×List ByteArray=>s.1<=xs.length/\aD s.2.2.1/\(∀j,j<s.1->xs.getD j default≠x)/\s.2.1=(xs.take s.1).any (gT x)/\s.2.2.2++(if s.2.1 then []else [x])=kX x (xs.take s.1)) (λs=>[(7,true,.int .i64 s.1),(6,true,.bool s.2.1),(5,true,s.2.2.1),(1,true,.string x),(0,true,lv)]) (λs=>Mem [(w,an)] [.own s.2.2.1 9 1 dV s.2.2.2]) (λs=>xs.length-s.1) (0,false,U,[]) ⟨amz _,cZ,λj ad=>by omega,rfl,rfl⟩ ?_
 rintro⟨i,put,v,out⟩ ⟨hi,aw,e7,oi,ie⟩;dsimp only at hi aw e7 oi ie⊢;have th:out.length<=9001:=by have h1:=amC List.length ie;have h2:=KA x (xs.take i);rw[ams]at h1;rw[amX]at h2;omega
 refine bg (λh2=>?_) λh2=>?_
 ·have bF:i<xs.length:=by rw[aq]at h2;omega
  have uk:xs.take (i+1)=xs.take i++[xs.getD i default]:=by rw[ang,getD_some bF];rfl
  have yf:x∉xs.take i:=λq=>by obtain⟨j,ad,e⟩:=o6 q;rw[amX]at ad;refine e7 j (by omega) ?_;rw[<-e,aml,aml,anO,amo (by omega)]
  refine bg (λh3=>?_) λh3=>?_
  ·rw[aq]at h3;refine bl λI hw=>?_;exact .inl ⟨rfl,RY E9 (h3▸er bF)⟩
  rw[ar]at h3;have B6:∀j,j<i+1->xs.getD j default≠x:=λj ad=>by
   by_cases q:j<i
   ·exact e7 j q
   rw[show j=i by omega];exact h3
  have vA:=RZ (y:=xs.getD i default) yf;have x2:(xs.take (i+1)).any (gT x)=(put||gT x (xs.getD i default)):=by rw[uk,List.any_append,oi];simp
  have mD:kX x [xs.getD i default]=if gT x (xs.getD i default)=true then [x,xs.getD i default]else [xs.getD i default,x]:=by unfold kX;rw[amn (Ne.symm h3)];rfl
  refine bg (λaC=>?_) λaC=>?_
  ·rw[ami,amk]at aC;obtain⟨aC,aW⟩:=aC;subst aC;rw[aW]at x2 mD;rw[<-oi,amn (by simp)]at vA;have bm:out=xs.take i:=by rw[KB yf oi.symm]at ie;simpa using ie
   refine aa ?_;refine ao (eA _ _ (ab:=λv40 PY=>aa ?_));refine ao (e6 1 (hk:=rfl) (bG:=by simp;omega) (ab:=λv41 vF=>aa ?_));refine ao (eA _ _ (ab:=λoE um=>aa ?_));refine ao (e6 2 (hk:=rfl) (bG:=by simp;omega) (ab:=λtE tl=>aa ?_));exact bt (i+1,true,tE,(out++[x])++[xs.getD i default]) ⟨by dsimp only;omega,tl,B6,by rw[x2];rfl,by rw[uk,vA,mD,bm];simp⟩ (by dsimp only;omega) (hA:=bV [2])
  refine aa ?_;refine ao (eA _ _ (ab:=λoE um=>aa ?_));refine ao (e6 1 (hk:=rfl) (bG:=by simp;omega) (ab:=λtE tl=>aa ?_));refine bt (i+1,put,tE,out++[xs.getD i default]) ⟨by dsimp only;omega,tl,B6,?_,?_⟩ (by dsimp only;omega) (hA:=bV [1])
  ·rw[x2];cases put
   ·simpa using aC
   rfl
  dsimp only;rw[uk,vA,<-oi];cases put with
  | true=>rw[amo rfl,amo rfl,<-ie,amo rfl,amB,amB]
  | false=>
   have aC:gT x (xs.getD i default)=false:=by simpa using aC
   rw[amn (by simp),amn (by simp),mD,aC];rw[KB yf oi.symm,amn (by simp)]at ie;rw[List.append_cancel_right ie];simp
 have bF:i=xs.length:=by rw[ar]at h2;omega
 rw[bF,amU]at ie;refine bg (λaW=>?_) λaW=>?_
 ·rw[amk]at aW;subst aW;refine aa ?_;refine ao (eA _ _ (ab:=λv54 Z6=>aa ?_));refine ao (e6 1 (hk:=rfl) (bG:=by simp;omega) (ab:=λv55 Z7=>aa ?_));refine bP rfl (.t1 rfl) λI hw=>?_;refine .inr ?_;rw[show kX x xs=out++[x]from ie.symm];exact hw.hK ds aL
 rw[amm]at aW;subst aW;refine bl λI hw=>?_;refine .inr ?_;rw[show kX x xs=out from by rw[amo rfl,amB]at ie;exact ie.symm];exact hw.hK aL aL
theorem Xg(t:aM)(aj ae ak:Value)(vs:List Value)(w:World)(h:gz an w aj ae ak vs t):bj prog 113 [.agg (cQ t aj ae ak).toArray] w λ_ v _=>v=.int .i64 (sM t):=by
 obtain⟨s1,s2,cy⟩:=h.iF;have eE:=h.mZ;have hM:=h.mx;have hle:=hM.le;have ri:=yX t.dD t.node;refine ca func113 ntmps113 ?_;refine ck λaT=>?_;refine ao (bw (λI hw=>R3 t.az t.dD t.node ak I (h.now hw).node) ?_);rintro v bx a6 rfl cA;refine aa ?_;unfold sM;refine bA (λh1=>?_) λh1=>?_
 ·rw[amk,ar]at h1;refine bl λI hw=>?_;rw[amn h1];rfl
 rw[amm,aq]at h1;rw[amo h1];refine aa ?_;refine ao (bw (λI hw=>KH t.dD t.node ak I (h.now hw).node) ?_);rintro v cp bX ⟨aU,rfl,bp⟩ fq;have xZ:=bp.le;refine aa ?_;refine b9 (λs:Nat=>s<=(fK t.dD t.node).length/\∀j,j<s->decide ((t.code.length:Int)<=((fK t.dD t.node).getD j default).aI)=false) (λs=>[(6,true,.int .i64 s),(4,true,aU),(1,true,ax aT)]) (λs=>Mem [(bX,Fr cp),(w,an)] [.box aT (cQ t aj ae ak) 32]) (λs=>(fK t.dD t.node).length-s) 0 ⟨amz _,λj ad=>by omega⟩ ?_ ⟨rfl,rfl,rfl,trivial⟩ λ_ h=>h.qt
 rintro k ⟨hk,h0⟩;refine bg (λh2=>?_) λh2=>?_
 ·have bF:k<(fK t.dD t.node).length:=by rw[aq]at h2;omega
  refine aa ?_;refine cV [0,1,2,3,4,5,6,7,8] mixed ?_;refine aP ?_;refine bg (λh3=>?_) λh3=>?_
  ·rw[aq]at h3;refine bl λI hw=>?_;rw[amo (anl.2 ⟨_,er bF,amq (by omega)⟩)];rfl
  rw[ar]at h3;refine aa ?_;exact bt (k+1) ⟨by omega,λj ad=>by
   by_cases e:j<k
   ·exact h0 j e
   rw[show j=k by omega];exact amy (by omega)⟩ (by omega) ⟨rfl,rfl,rfl,trivial⟩ λ_ h=>h
 refine bl λI hw=>?_;rw[amn];rfl;rw[anK,DG];exact λj ad=>h0 j (by rw[ar]at h2;omega)
end Go.Proofs.bK
