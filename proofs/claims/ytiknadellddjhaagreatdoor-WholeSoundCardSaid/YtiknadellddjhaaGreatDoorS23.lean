/- Lemmas for the law WholeSound. -/
import Derived.Test.YtiknadellddjhaaGreatDoorS06
import Derived.Test.YtiknadellddjhaaGreatDoorS13
import Derived.Test.YtiknadellddjhaaGreatDoorS22
set_option linter.all false
open Go.Proofs.Tryz
set_option maxHeartbeats 6400000
open Go Go.cc Go.bU
namespace Go.cc
open Go Go.RowKit
section
variable {P:Program} {N:Nat} {tm:dU} {bs:List dr} {H:List aA} {K:Act->World->Prop} {Q:Exit->Act->World->Prop}
theorem Qi{A:World->Prop}{φ:Prop}(hA:∀w,A w->φ)(h:φ->cL N K tm A):cL N K tm A:=by unfold cL at *;exact λa w ag hw=>h (hA w hw) a w ag hw
theorem Mem.xB{S S':Nat->Prop}{B w:World}(hw:Mem bs H w)(hB:(B,S)∈bs)(ct:∀k,S' k->S k):Mem ((B,S')::bs) H w:=by
 refine⟨λC hC=>?_,hw.own,hw.fw,λC hC e he k hk ng=>?_,hw.h9⟩
 ·rcases amG.1 hC with rfl | hC
  ·have h:=hw.base _ hB;exact⟨h.os,h.tape,h.output,h.size,λk h1 h2=>h.sR k h1 (ct k h2)⟩
  exact hw.base _ hC
 rcases amG.1 hC with rfl | hC
 ·exact hw.apart _ hB e he k hk (ct k ng)
 exact hw.apart _ hC e he k hk ng
theorem zw{d k:Nat}{f:Operand}{xs:List Operand}{ts:Array TypeId}{first cap vs:List Value}{Φ:Nat->Value->World->Prop}[hF:aS P k] (hf:bo tm true f (.func (.func k) first.toArray cap.toArray):=by exact(bY rfl)) (hxs:jX tm true xs vs:=by first | exact .nil | (repeat (first | exact .nil | apply jX.cons (bY rfl)))) (hd:Nat.blt d N=true:=by rfl) (a7:∀w,Mem bs H w->bj P k (first++vs++cap) w Φ) (ab:∀v n a6,Φ n v a6->Mem bs H a6->(∀k,n<=k->bB H k)->(∀B,B∈bs->B.1.heap.size<=n)->cL N K ((d,true,v)::tm) (Mem ((a6,bB H)::bs) H)): gq P N (.call {callee:=.value f,args:=xs.toArray,argTypes:=ts}) (some d) Q tm (Mem bs H) K:=by unfold gq cL at *;intro a w ty pos cR g ag hw;unfold Oper.wp;rw[zu (hf.get ag rfl) (hxs.get ag rfl)];simp only[Oper.upon];have uj:=a7 w hw;unfold bj at uj;refine Calls.mono uj λe I h=>?_;unfold qm at h;obtain⟨v,rfl,hb,qC⟩:=h;have hm:=hw.ext hb;exact ab v _ I qC hm (λk hk e he nh=>by have:=hw.fw e he k nh;omega) (λB hB=>(hw.base B hB).size) _ _ (by simpa using ag.put (anm.mp hd) true v) hm.KU
end
end Go.cc
namespace Go.bU
theorem VH{a b:cE}(au:iu a)(hb:iu b):Bq a b=iv a b:=by
 unfold Bq iv;rcases wk.1 au with⟨dG,a2,_⟩ | ⟨dG,_,_,_,a5⟩<;>rcases wk.1 hb with⟨hJ,dy,_⟩ | ⟨hJ,_,_,_,ea⟩
 ·simp[dG,hJ,a2,dy]
 ·simp[dG,show ¬b.aI= -1 by omega]
 ·simp[hJ,show ¬a.aI= -1 by omega]
 rw[a5,ea,vN];simp only[show ¬a.aI= -1 by omega,show ¬b.aI= -1 by omega,aoQ,ne_eq,aoX,aor,or_self,jh];by_cases h3:a.aI=b.aI
 ·by_cases aC:a.bq=b.bq
  ·simp[h3,aC]
  simp[h3,aC]
 simp[h3]
theorem R1{x y:cE}:∀{l:List cE},x∉l->h5 x (l++[y])=if l.any (iv x)then h5 x l++[y]else l++h5 x [y]
 | [],_=>by simp
 | z::r,h=>by
  have h1:¬x=z:=λe=>h (e▸.head _);have h2:x∉r:=λe=>h (.tail _ e);show h5 x (z::(r++[y]))=_;unfold h5;rw[amn h1,amn h1];by_cases h3:iv x z=true
  ·rw[amo h3,amo h3,List.any_cons,h3];simp
  rw[amn h3,amn h3,R1 h2,List.any_cons,amP.2 h3,anU];split
  ·rfl
  conv=>rhs;unfold h5
  rfl
theorem KD{x:cE}:∀{l:List cE},x∉l->l.any (iv x)=false->h5 x l=l++[x]
 | [],_,_=>rfl
 | z::r,h,au=>by rw[List.any_cons,amt]at au;have dC:¬x=z:=λe=>h (e▸.head _);have aH:x∉r:=λe=>h (.tail _ e);unfold h5;rw[amn dC,amn (by rw[au.1];simp),KD aH au.2];rfl
theorem R0{x:cE}(hx:iu x):∀{l:List cE},(∀y,y∈l->iu y)->l.Pairwise uU->x∈l->h5 x l=l
 | y::r,bm,hp,h=>by
  rw[am2]at hp;unfold h5;by_cases e:x=y
  ·rw[amo e]
  have aH:x∈r:=(amG.1 h).resolve_left e;have h1:iv y x=true:=hp.1 x aH;rw[amn e,amn λq=>DF hx (Bn hx (bm y aL) hx q h1),R0 hx (λz aY=>bm z (.tail _ aY)) hp.2 aH]
theorem KC(x:cE):∀l:List cE,(h5 x l).length<=l.length+1
 | []=>by simp[h5]
 | y::r=>by have:=KC x r;unfold h5;split<;>(try split)<;>simp<;>omega
def u0(n:eU):Prop:=∃m d,(il 2 n m d).2=0
theorem u0.atom{n:eU}(h:u0 n)(hk:n.kind=2):n.kids=[]/\iu n.e3:=by
 obtain⟨m,d,h⟩:=h;rw[xt]at h;split at h
 ·cases h
 split at h
 ·rename_i h2;unfold vT at h2;rw[amo hk,ami,ami,List.isEmpty_iff]at h2;exact⟨h2.1.1,h2.1.2⟩
 cases h
theorem Uw{a:Int}:∀{l:List eU} {m d:Nat} {i:Nat},(mV a l m d).2=0->i<l.length->∃m',(il a (l.getD i default) m' d).2=0
 | n::r,m,d,i,h,hi=>by
  unfold mV at h;split at h
  ·rename_i h1;cases i with
   | zero=>exact⟨m,h1⟩
   | succ i=>exact Uw (l:=r) (m:=(il a n m d).1) h (by rw[amI]at hi;omega)
  rename_i h1;exact absurd h h1
theorem u0.abf{n:eU}(h:u0 n){i:Nat}(hi:i<n.kids.length):u0 (n.kids.getD i default):=by
 obtain⟨m,d,h⟩:=h;rw[xt]at h;split at h
 ·cases h
 split at h
 ·obtain⟨m',cr⟩:=Uw h hi;exact⟨m',_,cr⟩
 cases h
theorem u0.atoms{n:eU}(h:u0 n):∀x,x∈jz n->iu x:=by obtain⟨m,d,h⟩:=h;exact(wq n m d h).1
theorem Hb(n:eU):jz n=(if n.kind=2 then [n.e3]else [])++pn n.kids:=by cases n;unfold jz;rfl
theorem MN{l:List eU}{i:Nat}(h:i<l.length):pn (l.drop i)=jz (l.getD i default)++pn (l.drop (i+1)):=by rw[vc h];rfl
def qJ(l xs:List cE):List cE:=l.foldl (λl x=>h5 x l) xs
theorem adw(a b xs:List cE):qJ (a++b) xs=qJ b (qJ a xs):=an3
theorem F0:∀(l xs:List cE),(qJ l xs).length<=xs.length+l.length
 | [],xs=>amK _
 | x::l,xs=>by have h1:=F0 l (h5 x xs);have h2:=KC x xs;show(qJ l (h5 x xs)).length<=_;rw[amI];omega
end Go.bU
namespace Go.Proofs.bK
attribute [local irreducible] wpList Code.wp bodyPost Exit.then Exit.inBlock Calls
theorem adD(a b:cE)(w:World):bj prog 202 [.agg (ev a).toArray,.agg (ev b).toArray] w λ_ v _=>v=.bool (Bq a b):=by
 refine ca func202 ntmps202 ?_;refine ck λdS=>?_;refine ck λdc=>?_;unfold Bq;refine bA (λh1=>?_) λh1=>?_
 ·have cb:decide (a.aI= -1)≠decide (b.aI= -1):=by rw[ch,ch]at h1;simpa using h1
  refine bl λI hw=>?_;rw[amo cb,ch];rfl
 have cb:¬decide (a.aI= -1)≠decide (b.aI= -1):=by rw[ch,ch]at h1;simpa using h1
 rw[amn cb];refine bg (λh2=>?_) λh2=>?_
 ·rw[amk,ar]at h2;refine bl λI hw=>?_;rw[amo (.inl h2),ch];refine amC Value.bool ?_;unfold jh;rw[amy h2];simp
 rw[amm,aq]at h2;refine bg (λh3=>?_) λh3=>?_
 ·rw[amk,ar]at h3;refine bl λI hw=>?_;rw[amo (.inr h3),ch];refine amC Value.bool ?_;unfold jh;rw[h2];simp
 rw[amm,aq]at h3;refine bl λI hw=>?_;rw[amn λq=>q.elim (λq=>q h2) λq=>q h3];rfl
def U0(lv:Value)(xs ys:List cE):Nat->Value->World->Prop:=λn v I=>(v=lv/\ys=xs)\/aV (Fr n) I ev 3 v ys
theorem adE:∀(z:Nat) (n:eU) (ak lv:Value) (xs:List cE) (w:World),SizeOf.sizeOf n<z->u0 n->xs.length+(jz n).length<=4096->(∀x,x∈xs->iu x)->xs.Pairwise uU->kP an w n ak->aV an w ev 3 lv xs-> bj prog 116 [.agg (gR (iP n ak)).toArray,lv] w (U0 lv xs (qJ (jz n) xs)):=by
 intro z
 induction z with
 | zero=>intro n ak lv xs w aY;omega
 | succ z bH=>
  intro n ak lv xs w aY hok w1 jo E9 bh aB;obtain⟨c9,ag,jE⟩:=bh.kids;have gZ:=ag.aG;have hle:=ag.le;have bG:=jE.len;have nm:=aB.le;refine ca func116 ntmps116 ?_;refine ck λkc=>?_;refine bA (λh1=>?_) λh1=>?_
  ·rw[aq]at h1;have h1:n.kind=2:=h1;obtain⟨EK,PS⟩:=hok.atom h1;have dO:jz n=[n.e3]:=by rw[Hb,amo h1,EK];rfl
   rw[dO]at w1;rw[dO];show fh _ _ _ _ _ _;refine aa ?_;refine dZ 25 3 ev ?_;refine b9 (λs:Nat×Bool×Value×List cE=>s.1<=xs.length/\aD s.2.2.1/\(∀j,j<s.1->xs.getD j default≠n.e3)/\s.2.1=(xs.take s.1).any (iv n.e3)/\s.2.2.2++(if s.2.1 then []else [n.e3])=h5 n.e3 (xs.take s.1)) (λs=>[(7,true,.int .i64 s.1),(6,true,.bool s.2.1),(5,true,s.2.2.1),(2,true,ax kc),(1,true,lv)]) (λs=>Mem [(w,an)] [.own s.2.2.1 25 3 ev s.2.2.2,.box kc (gR (iP n ak)) 28]) (λs=>xs.length-s.1) (0,false,U,[]) ⟨amz _,cZ,λj ad=>by omega,rfl,rfl⟩ ?_
   rintro⟨i,put,v,out⟩ ⟨hi,aw,e7,oi,ie⟩;dsimp only at hi aw e7 oi ie⊢;have th:out.length<=5000:=by have h1:=amC List.length ie;have h2:=KC n.e3 (xs.take i);rw[ams]at h1;rw[amX]at h2;omega
   refine bg (λh2=>?_) λh2=>?_
   ·have bF:i<xs.length:=by rw[aq]at h2;omega
    have uk:xs.take (i+1)=xs.take i++[xs.getD i default]:=by rw[ang,getD_some bF];rfl
    have yf:n.e3∉xs.take i:=λq=>by obtain⟨j,ad,e⟩:=o6 q;rw[amX]at ad;refine e7 j (by omega) ?_;rw[<-e,aml,aml,anO,amo (by omega)]
    refine aa ?_;refine cV [0,1,2,3,4,5,6] mixed ?_;refine aP ?_;refine bg (λh3=>?_) λh3=>?_
    ·rw[aq]at h3;have h3:xs.getD i default=n.e3:=h3;refine bl λI hw=>?_;refine .inl ⟨rfl,?_⟩;show h5 n.e3 xs=xs;exact R0 PS jo E9 (h3▸er bF)
    rw[ar]at h3;have h3:¬xs.getD i default=n.e3:=h3;have B6:∀j,j<i+1->xs.getD j default≠n.e3:=λj ad=>by
     by_cases q:j<i
     ·exact e7 j q
     rw[show j=i by omega];exact h3
    have tb:Bq n.e3 (xs.getD i default)=iv n.e3 (xs.getD i default):=VH PS (jo _ (er bF));have vA:=R1 (y:=xs.getD i default) yf;have x2:(xs.take (i+1)).any (iv n.e3)=(put||iv n.e3 (xs.getD i default)):=by rw[uk,List.any_append,oi];simp
    have mD:h5 n.e3 [xs.getD i default]=if iv n.e3 (xs.getD i default)=true then [n.e3,xs.getD i default]else [xs.getD i default,n.e3]:=by unfold h5;rw[amn (Ne.symm h3)];rfl
    refine aa ?_;refine cV [0,1,2,3,4,5,6,7,8,9,10] mixed ?_;refine aP ?_;refine w9 ?_ (h:=eY (a7:=λ_ I hw=>adD n.e3 (xs.getD i default) I));refine aP ?_;refine bg (λaC=>?_) λaC=>?_
    ·rw[ami,amk,tb]at aC;obtain⟨aC,aW⟩:=aC;subst aC;rw[aW]at x2 mD;rw[<-oi,amn (by simp)]at vA;have bm:out=xs.take i:=by rw[KD yf oi.symm]at ie;simpa using ie
     refine aa ?_;refine ao (eA _ _ (ab:=λv40 PY=>aa ?_));refine ao (e6 1 (hk:=rfl) (bG:=by simp;omega) (ab:=λv41 vF=>aa ?_));refine ao (eA _ _ (ab:=λoE um=>aa ?_));refine ao (e6 2 (hk:=rfl) (bG:=by simp;omega) (ab:=λtE tl=>aa ?_));exact bt (i+1,true,tE,(out++[n.e3])++[xs.getD i default]) ⟨by dsimp only;omega,tl,B6,by rw[x2];rfl,by rw[uk,vA,mD,bm];simp⟩ (by dsimp only;omega) (hA:=bV [2,3])
    rw[tb]at aC;refine aa ?_;refine ao (eA _ _ (ab:=λoE um=>aa ?_));refine ao (e6 1 (hk:=rfl) (bG:=by simp;omega) (ab:=λtE tl=>aa ?_));refine bt (i+1,put,tE,out++[xs.getD i default]) ⟨by dsimp only;omega,tl,B6,?_,?_⟩ (by dsimp only;omega) (hA:=bV [1,2])
    ·rw[x2];cases put
     ·simpa using aC
     rfl
    dsimp only;rw[uk,vA,<-oi];cases put with
    | true=>rw[amo rfl,amo rfl,<-ie,amo rfl,amB,amB]
    | false=>
     have aC:iv n.e3 (xs.getD i default)=false:=by simpa using aC
     rw[amn (by simp),amn (by simp),mD,aC];rw[KD yf oi.symm,amn (by simp)]at ie;rw[List.append_cancel_right ie];simp
   have bF:i=xs.length:=by rw[ar]at h2;omega
   rw[bF,amU]at ie;refine bg (λaW=>?_) λaW=>?_
   ·rw[amk]at aW;subst aW;refine aa ?_;refine ao (eA _ _ (ab:=λv54 Z6=>aa ?_));refine ao (e6 1 (hk:=rfl) (bG:=by simp;omega) (ab:=λv55 Z7=>aa ?_));refine bP rfl (.t1 rfl) λI hw=>?_;refine .inr ?_;rw[show qJ [n.e3] xs=out++[n.e3]from ie.symm];exact hw.hK ds aL
   rw[amm]at aW;subst aW;refine bl λI hw=>?_;refine .inr ?_;rw[show qJ [n.e3] xs=out from by rw[amo rfl,amB]at ie;exact ie.symm];exact hw.hK aL aL
  rw[ar]at h1;have h1:¬n.kind=2:=h1;have dO:jz n=pn n.kids:=by rw[Hb,amn h1];rfl
  rw[dO]at w1;rw[dO];show fh _ _ _ _ _ _;refine aa ?_;refine Qi (φ:=w.heap.size<=kc) (λI hw=>by have:=hw.apart _ aL _ aL kc (by simp[aA.cX]) trivial;exact this) λuc=>?_;have ES:∀k,k<w.heap.size->an k->bB [.box kc (gR (iP n ak)) 28] k:=λk hk _ e he nh=>by rw[amv]at he;subst he;simp only[aA.cX,amv]at nh;omega
  refine b9 (λs:Nat×Value×List cE×World=>s.1<=c9.length/\aV (bB [.box kc (gR (iP n ak)) 28]) s.2.2.2 ev 3 s.2.1 s.2.2.1/\((s.2.1=lv/\s.2.2.1=xs)\/aV (λk=>Fr w.heap.size k/\bB [.box kc (gR (iP n ak)) 28] k) s.2.2.2 ev 3 s.2.1 s.2.2.1)/\qJ (pn (n.kids.drop s.1)) s.2.2.1=qJ (pn n.kids) xs/\ s.2.2.1.length+(pn (n.kids.drop s.1)).length<=4096/\(∀x,x∈s.2.2.1->iu x)/\s.2.2.1.Pairwise uU) (λs=>[(8,true,.int .i64 s.1),(2,true,ax kc),(1,true,s.2.1)]) (λs=>Mem [(s.2.2.2,bB [.box kc (gR (iP n ak)) 28]),(w,an)] [.box kc (gR (iP n ak)) 28]) (λs=>c9.length-s.1) (0,lv,xs,w) ⟨amz _,aB.mono (ks.refl _ _) ES λx _=>ee.ne x,.inl ⟨rfl,rfl⟩,rfl,w1,jo,E9⟩ ?_ ⟨rfl,rfl,rfl,trivial⟩ λ_ h=>h.xB aL dx
  rintro⟨i,v,ys,qS⟩ ⟨hi,aw,k3,bS,pA,Fa,hyp⟩;dsimp only at hi aw k3 bS pA Fa hyp⊢;refine bg (λcM=>?_) λcM=>?_
  ·have qx:i<c9.length:=by rw[aq]at cM;omega
   obtain⟨g1,g2,g3,g4⟩:=kO.get i jE (by omega);have yb:=lI.eq g1 g2 g3;have lM:=hok.abf (i:=i) (by omega);have c4:=MN (l:=n.kids) (i:=i) (by omega);rw[c4]at bS pA;rw[adw]at bS;rw[ams]at pA;have EC:=Ed (jz (n.kids.getD i default)) ys lM.atoms Fa hyp;have kC:=F0 (jz (n.kids.getD i default)) ys;refine aa ?_;refine ao (zw (a7:=λI hw=>by have:=bH (n.kids.getD i default) (c9.getD i default).kids v ys I (by have:=Gq (n:=n) (i:=i) (by omega);omega) lM (by omega) Fa hyp (g4.map λv c9 h=>hw.now h) (hw.now aw);rw[<-yb]at this;exact this) (ab:=?_))
   intro dL bx a6 qC hm vu eh;refine aa ?_;have Ja:w.heap.size<=bx:=eh _ ds;refine bt (i+1,dL,qJ (jz (n.kids.getD i default)) ys,a6) ⟨by dsimp only;omega,?_,?_,bS,by dsimp only;omega,?_,EC.1⟩ (by dsimp only;omega) (hA:=λ_ h=>h.qt)
   ·rcases qC with⟨rfl,e⟩ | h
    ·dsimp only;rw[e];exact hm.CK aw
    exact h.mono (ks.refl _ _) (λk _ hk=>vu k hk) λx _=>ee.ne x
   ·rcases qC with⟨rfl,e⟩ | h
    ·dsimp only;rw[e];rcases k3 with q | q
     ·exact .inl q
     exact .inr ((hm.xB aL λ_ h=>h.2).CK q aL)
    exact .inr (h.mono (ks.refl _ _) (λk _ hk=>⟨ani Ja hk,vu k hk⟩) λx _=>ee.ne x)
   intro x hx;rcases(EC.2 x).1 hx with q | q
   ·exact lM.atoms x q
   exact Fa x q
  have qx:i=c9.length:=by rw[ar]at cM;omega
  rw[qx,bG,anL]at bS;refine bl λI hw=>?_;rw[<-bS];rcases k3 with q | q
  ·exact .inl q
  exact .inr (((hw.xB aL λ_ h=>h.2).CK q aL).mono (ks.refl _ _) (λk _ hk=>hk.1) λx _=>ee.ne x)
theorem C8{aQ:Type}{S:Nat->Prop}{enc:aQ->List Value}(w:World)(sz:Nat):aV S w enc sz U ([]:List aQ):=⟨⟨none,0,0,rfl,rfl,amK _,by decide,λh=>by cases h⟩,λi x j u h=>by simp at h,λa n cap h hp=>by injection h with h;cases h⟩
theorem KH(dD:Int)(n:eU)(ak:Value)(w:World)(bh:kP an w n ak):bj prog 48 [.agg (.int .i64 dD::gR (iP n ak)).toArray] w λm v I=>∃aU,v=.tuple #[aU,.int .i64 (oL 2 dD n)]/\aV (Fr m) I ev 3 aU (fK dD n):=by
 have gZ:=bh.aG;refine ca func48 ntmps48 ?_;refine ck λhc=>?_;refine ao (bw (λI hw=>R3 2 dD n ak I (bh.map λv c9 h=>hw.now h)) ?_);rintro v bx a6 rfl cA;refine aa ?_;unfold fK;refine bA (λh1=>?_) λh1=>?_
 ·rw[amk,ar]at h1;refine aa ?_;refine bP rfl (.tmp rfl (.t1 rfl)) λI hw=>?_;rw[amn h1];exact⟨_,rfl,C8 _ _⟩
 rw[amm,aq]at h1;rw[amo h1];have tn:(il 2 n 0 0).2=0:=by
  unfold oL at h1;rw[amo (.inr rfl)]at h1;split at h1
  ·cases h1
  exact h1
 have bG:=(wq n 0 0 tn).2;refine aa ?_;refine ao (zw (a7:=λI hw=>adE (SizeOf.sizeOf n+1) n ak U [] I (by omega) ⟨0,0,tn⟩ (by simp;omega) (λ_ h=>(by cases h)) List.Pairwise.nil (bh.map λv c9 h=>hw.now h) (C8 _ _)) (ab:=λdL cp bX qC hm vu eh=>aa ?_));have Ja:w.heap.size<=cp:=eh _ ds;refine bP rfl (.tmp rfl (.t1 rfl)) λI hw=>?_;rw[h1];refine⟨_,rfl,?_⟩;rcases qC with⟨rfl,e⟩ | h
 ·rw[show(jz n).foldl (λl x=>h5 x l) []=[]from e];exact C8 _ _
 exact(hw.xB aL (S':=λk=>cp<=k) vu).pass h aL Ja
def oa(cW:Nat)(v:Value)(xs:List cE):List aA:=[.box cW [v] 38,.own v 25 3 ev xs]
def Me(cW:Nat)(xs:List cE):Nat->Value->List aA->World->Prop:=λ_ r es _=>r=.tuple #[]/\∃v,aD v/\es=oa cW v xs
theorem We(cW:Nat)(v:Value)(xs:List cE)(n:eU)(ak:Value)(w:World)(aw:aD v)(hk:aD ak)(aB:xs.length<=5000)(hw:Mem [] (oa cW v xs) w): eM prog 146 [.agg (gR (iP n ak)).toArray,ax cW] (oa cW v xs) w (Me cW (xs++[n.e3])):=by refine rP func146 ntmps146 hw ?_;refine ao (q5 ?_);intro dS;show cL _ _ _ (Mem _ (_::.box cW [v] 38::.own v 25 3 ev xs::[]));refine aa ?_;refine ao (eA _ _ (ab:=λv6 mH=>aa ?_));refine ao (e6 3 (hk:=rfl) (bG:=by simp;omega) (ab:=λuQ sb=>aa ?_));refine bQ 2 ?_;refine qF rfl .nil aL (oa cW uQ (xs++[n.e3])) [2,3] rfl (by decide) λI hw=>?_;exact⟨rfl,uQ,sb,rfl⟩
theorem Wg(cW:Nat):∀(z:Nat) (n:eU) (ak v:Value) (xs:List cE) (w:World),SizeOf.sizeOf n<z->aD v->xs.length+(jz n).length<=4096->Mem [] (oa cW v xs) w->kP (bB (oa cW v xs)) w n ak-> eM prog 145 [.agg (gR (iP n ak)).toArray,.func (.func 146) #[] #[ax cW]] (oa cW v xs) w (Me cW (xs++jz n)):=by
 intro z
 induction z with
 | zero=>intro n ak v xs w aY;omega
 | succ z bH=>
  intro n ak v xs w aY aw w1 yn bh;obtain⟨c9,ag,jE⟩:=bh.kids;have gZ:=ag.aG;have hle:=ag.le;have bG:=jE.len;rw[Hb]at w1⊢;rw[ams]at w1;refine rP func145 ntmps145 yn ?_;refine ck λkc=>?_;refine h7 (λs:Value×List cE=>aD s.1/\s.2=xs++(if n.kind=2 then [n.e3]else [])) (λ_=>[(2,true,ax kc),(1,true,.func (.func 146) #[] #[ax cW])]) (λs=>Mem [(w,bB (oa cW v xs))] (oa cW s.1 s.2++[.box kc (gR (iP n ak)) 28])) ?_ ?_
  ·refine bA (λh1=>?_) λh1=>?_
   ·rw[aq]at h1;have h1:n.kind=2:=h1;refine aa ?_;refine cJ _ (λ_ h=>h.perm (H':=oa cW v xs++[.box kc (gR (iP n ak)) 28]) (anB (l₁:=[_]))) ?_;refine ao (en (a7:=λI hw=>We cW v xs n ak I aw gZ (by omega) hw.dk.ei) (ab:=?_));rintro r bx es a6 ⟨rfl,v1,j6,rfl⟩;refine aa ?_;exact bZ (v1,xs++[n.e3]) ⟨j6,by rw[amo h1]⟩
   rw[ar]at h1;have h1:¬n.kind=2:=h1;refine aa ?_;exact bZ (v,xs) ⟨aw,by rw[amn h1,amB]⟩ (hA:=λ_ h=>h.perm (anB (l₁:=[_])))
  rintro⟨v0,GR⟩ ⟨E1,Jt⟩;dsimp only at E1 Jt⊢;have BZ:GR.length=xs.length+(if n.kind=2 then [n.e3]else []).length:=by rw[Jt,ams]
  refine cJ (Mem [(w,bB (oa cW v xs))] (.box kc (gR (iP n ak)) 28::oa cW v0 GR)) (λ_ h=>h.perm (anB (l₂:=[_]))) (aa ?_);refine b9 (λs:Nat×Value×List cE=>s.1<=c9.length/\aD s.2.1/\s.2.2++pn (n.kids.drop s.1)=GR++pn n.kids) (λs=>[(15,true,.int .i64 s.1),(14,true,.int .i64 c9.length),(13,true,ak),(1,true,.func (.func 146) #[] #[ax cW])]) (λs=>Mem [(w,bB (oa cW v xs))] (.box kc (gR (iP n ak)) 28::oa cW s.2.1 s.2.2)) (λs=>c9.length-s.1) (0,v0,GR) ⟨amz _,E1,rfl⟩ ?_
  rintro⟨i,v2,ys⟩ ⟨hi,iM,iz⟩;dsimp only at hi iM iz⊢;refine bg (λh2=>?_) λh2=>?_
  ·have bF:i<c9.length:=by rw[aq]at h2;omega
   obtain⟨g1,g2,g3,g4⟩:=kO.get i jE (by omega);have iy:=g4.aG;have yb:=lI.eq g1 g2 g3;have c4:=MN (l:=n.kids) (i:=i) (by omega);rw[c4]at iz;have o2:=amC List.length iz;simp only[ams]at o2;refine aa ?_;refine cU λgg=>?_;refine bQ 0 ?_;refine cJ (Mem [(w,bB (oa cW v xs))] (oa cW v2 ys++[.box gg (gR (c9.getD i default)) 28,.box kc (gR (iP n ak)) 28])) (λ_ h=>h.perm (anB (l₁:=[_,_]))) ?_;refine ao (en (a7:=λI hw=>by have:=bH (n.kids.getD i default) (c9.getD i default).kids v2 ys I (by have:=Gq (n:=n) (i:=i) (by omega);omega) iM (by omega) hw.dk.ei (g4.map λv c9 h=>hw.gw h aL λe he=>amE _ he);rw[<-yb]at this;exact this) (ab:=?_))
   rintro r bx es a6 ⟨rfl,v3,pC,rfl⟩;refine aa ?_;exact bt (i+1,v3,ys++jz (n.kids.getD i default)) ⟨by dsimp only;omega,pC,by rw[amJ];exact iz⟩ (by dsimp only;omega) (hA:=bV [3,0,1])
  have bF:i=c9.length:=by rw[ar]at h2;omega
  rw[bF,bG,anL]at iz;refine aa ?_;refine qF rfl .nil aL (oa cW v2 ys) [1,2] rfl (by decide) λI hw=>?_;refine⟨rfl,v2,iM,?_⟩;rw[show ys=xs++((if n.kind=2 then [n.e3]else [])++pn n.kids)from by rw[<-amJ,<-Jt,<-iz];exact(amB _).symm]
end Go.Proofs.bK
namespace Go.cc
open Go Go.RowKit
section
variable {P:Program} {N:Nat} {tm:dU} {A:World->Prop} {c:Bool}
theorem adX{t:TypeId}{x y:Operand}{s:ByteArray}{l:Int}[aE:jg P t .string](h0:0<=l)(aB:l<=s.size)(hx:bo tm c x (.string s):=by exact b7)(aR:bo tm c y (.int .i64 l):=by exact b7): bR P N (.slice t x (some y) none none) tm A c (.string (s.extract l.toNat s.size)):=by unfold bR;intro ai a w _ _ _ _ _ cn _;simp only[execOp,hx.get cn ai,aR.get cn ai,Option.map];refine hG ?_;simp[Instr.sliceAt,Instr.slice,Instr.sliceBounds,Instr.sliceBound,asIntOf,run_underlying aE.h,Result.andThen,h0,aB]
theorem adW{t:TypeId}{x y:Operand}{s:ByteArray}{l:Int}[aE:jg P t .string](h0:0<=l)(aB:l<=s.size)(hx:bo tm c x (.string s):=by exact b7)(aR:bo tm c y (.int .i64 l):=by exact b7): bR P N (.slice t x none (some y) none) tm A c (.string (s.extract 0 l.toNat)):=by unfold bR;intro ai a w _ _ _ _ _ cn _;simp only[execOp,hx.get cn ai,aR.get cn ai,Option.map];refine hG ?_;simp[Instr.sliceAt,Instr.slice,Instr.sliceBounds,Instr.sliceBound,asIntOf,run_underlying aE.h,Result.andThen,h0,aB]
end
end Go.cc
attribute [local irreducible] Go.wpList Go.Code.wp Go.bodyPost Go.Exit.then Go.Exit.inBlock Go.Calls
namespace Go.bU
structure gz(S:Nat->Prop)(w:World)(aj ae ak:Value)(vs:List Value)(t:aM):Prop where
 init:aV S w oO 5 aj t.init
 mx:aV S w cD 1 ae vs
 mZ:vs.length=t.code.length
 code:∀i,i<vs.length->aV S w cC 8 (vs.getD i default) (t.code.getD i default)
 node:kP S w t.node ak
def cQ(t:aM)(aj ae ak:Value):List Value:=.int .i64 t.az::.string t.name::.string t.nF::aj::ae::.int .i64 t.dD::gR (iP t.node ak)
theorem gz.map{S S':Nat->Prop}{w I:World}{aj ae ak:Value}{vs:List Value}{t:aM}(h:gz S w aj ae ak vs t)(f:∀{aQ:Type} {enc:aQ->List Value} {sz:Nat} [ee enc sz] (v:Value) (xs:List aQ),aV S w enc sz v xs->aV S' I enc sz v xs):gz S' I aj ae ak vs t:=⟨f _ _ h.init,f _ _ h.mx,h.mZ,λi hi=>f _ _ (h.code i hi),h.node.map λv c9 h=>f v c9 h⟩
theorem gz.now{S:Nat->Prop}{B I:World}{aj ae ak:Value}{vs:List Value}{t:aM}{bs:List dr}{H:List aA}(h:gz S B aj ae ak vs t)(hw:Mem bs H I)(hB:(B,S)∈bs:=by repeat (first | exact List.Mem.head _ | refine List.Mem.tail _ ?_)):gz an I aj ae ak vs t:=h.map λ_ _ q=>hw.now q hB
theorem gz.iF{S:Nat->Prop}{w:World}{aj ae ak:Value}{vs:List Value}{t:aM}(h:gz S w aj ae ak vs t):aD aj/\aD ae/\aD ak:=⟨h.init.aG,h.mx.aG,h.node.aG⟩
def LL(s:ByteArray):Bool:=decide (s.size=0)||(decide (dM s 0≠32)&&decide (dM s (s.size-1)≠32))
def hl(x:l0):cE:=⟨x.aI,x.bq,x.loc⟩
theorem Tb(x y:l0):Lm x y=decide (hl x=hl y):=by unfold Lm hl;rw[amN];simp[and_assoc]
end Go.bU
namespace Go.Proofs.bK
theorem ao9(s:ByteArray)(c:Nat)(w:World)(ag:s.size<=262144):bj prog 130 [.string s,.int .u8 c] w λ_ v _=>∃u:ByteArray,v=.string u/\((u=s/\(s.size=0\/dM s (s.size-1)≠c))\/(u.size<s.size/\dM s (s.size-1)=c)):=by
 refine ca func130 ntmps130 ?_;refine b9 (λu:ByteArray=>u.size<=s.size/\(u=s\/(u.size<s.size/\dM s (s.size-1)=c))) (λu=>[(1,true,.int .u8 c),(0,true,.string u)]) (λ_=>Mem [(w,an)] []) (λu=>u.size) s ⟨amK _,.inl rfl⟩ ?_ ⟨rfl,rfl,trivial⟩ c7
 rintro u ⟨hle,k3⟩;refine bg (λh1=>?_) λh1=>?_
 ·simp only[ami,aq]at h1;have hb:dM u (u.size-1)=c:=by have:=h1.2;rw[show((u.size:Int)-1).toNat=u.size-1 by omega]at this;omega
  refine aa ?_;refine dg (adW (s:=u) (l:=(u.size:Int)-1) (by omega) (by omega)) (ab:=aa ?_);refine bt (u.extract 0 ((u.size:Int)-1).toNat) ⟨by rw[aoa];omega,.inr ⟨by rw[aoa];omega,?_⟩⟩ (by rw[aoa];omega) (hA:=c7);rcases k3 with rfl | h
  ·exact hb
  exact h.2
 refine bl λI hw=>?_;refine⟨u,rfl,?_⟩;rcases k3 with rfl | h
 ·refine .inl ⟨rfl,?_⟩;simp only[amx,ar]at h1;rcases h1 with h1 | h1
  ·exact .inl (by omega)
  by_cases h0:u.size=0
  ·exact .inl h0
  rw[show((u.size:Int)-1).toNat=u.size-1 by omega]at h1;exact .inr (by omega)
 exact .inr h
theorem ahk(s:ByteArray)(c:Nat)(w:World)(ag:s.size<=262144):bj prog 129 [.string s,.int .u8 c] w λ_ v _=>∃u:ByteArray,v=.string u/\((u=s/\(s.size=0\/dM s 0≠c))\/(u.size<s.size/\dM s 0=c)):=by
 refine ca func129 ntmps129 ?_;refine b9 (λu:ByteArray=>u.size<=s.size/\(u=s\/(u.size<s.size/\dM s 0=c))) (λu=>[(1,true,.int .u8 c),(0,true,.string u)]) (λ_=>Mem [(w,an)] []) (λu=>u.size) s ⟨amK _,.inl rfl⟩ ?_ ⟨rfl,rfl,trivial⟩ c7
 rintro u ⟨hle,k3⟩;refine bg (λh1=>?_) λh1=>?_
 ·simp only[ami,aq]at h1;have hb:dM u 0=c:=by have:((dM u 0:Nat):Int)=(c:Int):=h1.2;omega
  refine aa ?_;refine dg (adX (s:=u) (l:=1) (by omega) (by omega)) (ab:=aa ?_);refine bt (u.extract (1:Int).toNat u.size) ⟨by rw[aoa];omega,.inr ⟨by rw[aoa];omega,?_⟩⟩ (by rw[aoa];omega) (hA:=c7);rcases k3 with rfl | h
  ·exact hb
  exact h.2
 refine bl λI hw=>?_;refine⟨u,rfl,?_⟩;rcases k3 with rfl | h
 ·refine .inl ⟨rfl,?_⟩;simp only[amx,ar]at h1;rcases h1 with h1 | h1
  ·exact .inl (by omega)
  have h1:¬((dM u 0:Nat):Int)=(c:Int):=h1;exact .inr (by omega)
 exact .inr h
theorem ahr(s:ByteArray)(w:World)(ag:s.size<=262144):bj prog 60 [.string s,.string ⟨#[32]⟩] w λ_ v _=>∃u:ByteArray,v=.string u/\decide (u=s)=LL s:=by
 have eh:(⟨#[32]⟩:ByteArray).size=1:=rfl;refine ca func60 ntmps60 ?_;refine bA (λh1=>?_) λh1=>?_
 ·simp only[amr,aq]at h1;have h0:s=ByteArray.empty:=h1.resolve_right (λh=>by have:=amC ByteArray.size h;rw[eh]at this;cases this);refine bl λI hw=>?_;exact⟨s,rfl,by rw[h0];rfl⟩
 simp only[amt,ar]at h1;refine bg (λh2=>?_) λh2=>?_
 ·refine aa ?_;refine cV [0,1,2,4,5,3,6,7] mixed ?_;refine aP ?_;refine bL _ (h:=bw (λI hw=>ao9 s 32 I ag) ?_);rintro v bx a6 ⟨u,rfl,hu⟩ cA;refine aF (aP ?_) c7;have Jf:u.size<=262144:=by rcases hu with⟨rfl,_⟩ | ⟨h,_⟩<;>omega
  refine bL _ (h:=bw (λI hw=>ahk u 32 I Jf) ?_);rintro v cp bX ⟨LN,rfl,zV⟩ fq;refine aF (aP ?_) c7;refine bl λI hw=>?_;refine⟨LN,rfl,?_⟩;have yj:s.size≠0:=λh=>h1.1 (by refine ByteArray.ext (Array.eq_empty_of_size_eq_zero h))
  unfold LL;rw[amy yj,anU];rcases hu with⟨rfl,hu⟩ | ⟨hu,ZQ⟩
  ·rcases zV with⟨rfl,zV⟩ | ⟨zV,ZR⟩
   ·rw[amq rfl,amq (zV.resolve_left yj),amq (hu.resolve_left yj)];rfl
   rw[amy (λe=>by rw[e]at zV;omega),amy (p:=dM u 0≠32) λh=>h ZR];rfl
  have dn:LN.size<=u.size:=by rcases zV with⟨rfl,_⟩ | ⟨h,_⟩<;>omega
  rw[amy (λe=>by rw[e]at dn;omega),amy (p:=dM s (s.size-1)≠32) λh=>h ZQ,anM]
 exfalso;have h3:bO (((⟨#[32]⟩:ByteArray).size:Int)=1)=true:=by rw[aq];rfl
 have aC:bO (((dM ⟨#[32]⟩ 0:Nat):Int)<128)=true:=by rw[aq];decide
 have h2:(bO (((⟨#[32]⟩:ByteArray).size:Int)=1)&&bO (((dM ⟨#[32]⟩ 0:Nat):Int)<128))=false:=h2;rw[h3,aC]at h2;cases h2
theorem Xq(t:aM)(x:l0)(aj ae ak:Value)(vs:List Value)(w:World)(h:gz an w aj ae ak vs t):bj prog 139 [.agg (cQ t aj ae ak).toArray,.agg (oO x).toArray] w λ_ v _=>v=.bool (tu t x):=by
 obtain⟨s1,s2,cy⟩:=h.iF;have eE:=h.mZ;have hM:=h.mx;have hle:=hM.le;refine ca func139 ntmps139 ?_;refine ck λaT=>?_;refine ck λcW=>?_;unfold tu;refine bA (λh1=>?_) λh1=>?_
 ·rw[aq]at h1;rw[amo h1];refine aa ?_;refine ao (bw (λI hw=>Oc _ I) ?_);rintro v bx a6 rfl cA;refine aa ?_;refine fm (h:=eY (a7:=λ_ I hw=>Oe _ I)) (ab:=aa ?_);refine bP rfl (.t1 rfl) λI hw=>?_;rw[ch,ch];rfl
 rw[ar]at h1;rw[amn h1];refine bg (λh2=>?_) λh2=>?_
 ·simp only[amr,amk,aq,ar]at h2;refine bl λI hw=>?_;have:(decide (0<=x.aI)&&decide (x.aI<t.code.length)&&decide (x.loc=a8))=false:=by
   rcases h2 with(h2 | h2) | h2
   ·rw[amy (p:=0<=x.aI) (by omega)];rfl
   ·rw[amy (p:=x.aI<t.code.length) (by omega)];simp
   rw[amy (p:=x.loc=a8) h2];simp
  rw[this];rfl
 simp only[amt,amm,aq,ar]at h2;rw[amq (show 0<=x.aI by omega),amq (show x.aI<t.code.length by omega),amq (show x.loc=a8 from h2.2)];refine aa ?_;refine h7 (λs:Int×Int=>(s.1<=x.bq/\x.bq<=s.2↔(if t.az=2 then decide (1<=x.bq)&&decide (x.bq<32)else mS x.bq)=true)) (λs=>[(6,true,.int .i64 s.2),(5,true,.int .i64 s.1),(3,true,ax cW)]) (λ_=>Mem [(w,an)] [.box cW (oO x) 72,.box aT (cQ t aj ae ak) 32]) ?_ ?_
 ·refine bA (λh3=>?_) λh3=>?_
  ·rw[aq]at h3;refine aa ?_;exact bZ (1,31) (by dsimp only;rw[amo h3,ami,amj,amj];omega)
  rw[ar]at h3;refine aa ?_;exact bZ (0,14) (by dsimp only;unfold mS;rw[amn h3,ami,amj,amj];omega)
 rintro⟨lo,hi⟩ ia;dsimp only at ia⊢;refine bg (λh3=>?_) λh3=>?_
 ·simp only[amr,aq]at h3;refine bl λI hw=>?_;have hb:(if t.az=2 then decide (1<=x.bq)&&decide (x.bq<32)else mS x.bq)=false:=amP.2 λq=>by have:=ia.2 q;omega
  rw[hb];rfl
 simp only[amt,ar]at h3;rw[ia.1 (by omega)];refine aa ?_;unfold lE;refine bA (λaC=>?_) λaC=>?_
 ·rw[amk,ar]at aC;rw[amn (show ¬x.value.loc=a8 from aC)];refine aa ?_;refine ao (bw (λI hw=>Oc _ I) ?_);rintro v bx a6 rfl cA;refine bl λI hw=>?_;rw[ch];rfl
 rw[amm,aq]at aC;rw[amo (show x.value.loc=a8 from aC)];refine aa ?_;refine ao (bw (λI hw=>Oe _ I) ?_);rintro v bx a6 rfl cA;refine bl λI hw=>?_;rfl
theorem Xy{l:List l0}{i:Nat}(hi:i<=l.length)(x:cE):(((fp ((List.range i).map λj=>(hl (l.getD j default),Value.int .i64 ((j:Int)+1))) x 0).map (·.2)).getD (.int .i64 0)=.int .i64 0/\∀j,j<i->¬x=hl (l.getD j default))\/ ∃j:Nat,j<i/\x=hl (l.getD j default)/\((fp ((List.range i).map λj=>(hl (l.getD j default),Value.int .i64 ((j:Int)+1))) x 0).map (·.2)).getD (.int .i64 0)=.int .i64 ((j:Int)+1):=by
 have key:∀(jS:List Nat) (q:Nat),(fp (jS.map λj=>(hl (l.getD j default),Value.int .i64 ((j:Int)+1))) x q=none/\∀j,j∈jS->¬x=hl (l.getD j default))\/ ∃j p,j∈jS/\x=hl (l.getD j default)/\fp (jS.map λj=>(hl (l.getD j default),Value.int .i64 ((j:Int)+1))) x q=some (p,.int .i64 ((j:Int)+1)):=by
  intro jS
  induction jS with
  | nil=>intro q;exact .inl ⟨rfl,λ_ h=>(by cases h)⟩
  | cons j jS bH=>
   intro q;by_cases e:x=hl (l.getD j default)
   ·exact .inr ⟨j,q,.head _,e,by rw[am8];unfold fp;rw[amo e]⟩
   rcases bH (q+1)with⟨h1,h2⟩ | ⟨w8,p,h1,h2,h3⟩
   ·refine .inl ⟨by rw[am8];unfold fp;rw[amn e];exact h1,λw8 qz=>?_⟩;rcases amG.1 qz with rfl | qz
    ·exact e
    exact h2 w8 qz
   exact .inr ⟨w8,p,.tail _ h1,h2,by rw[am8];unfold fp;rw[amn e];exact h3⟩
 rcases key (List.range i) 0 with⟨h1,h2⟩ | ⟨j,p,h1,h2,h3⟩
 ·exact .inl ⟨by rw[h1];rfl,λj ad=>h2 j (amH.2 ad)⟩
 exact .inr ⟨j,amH.1 h1,h2,by rw[h3];rfl⟩
theorem ahB{l:List l0}{i:Nat}(v:Value)(e7:∀j,j<i->¬hl (l.getD i default)=hl (l.getD j default))(aw:v=.int .i64 ((i:Int)+1)):sw ((List.range i).map λj=>(hl (l.getD j default),Value.int .i64 ((j:Int)+1))) (hl (l.getD i default)) v=(List.range (i+1)).map λj=>(hl (l.getD j default),Value.int .i64 ((j:Int)+1)):=by
 have key:∀(jS:List Nat) (q:Nat),(∀j,j∈jS->¬hl (l.getD i default)=hl (l.getD j default))->fp (jS.map λj=>(hl (l.getD j default),Value.int .i64 ((j:Int)+1))) (hl (l.getD i default)) q=none:=by
  intro jS
  induction jS with
  | nil=>intro q _;rfl
  | cons j jS bH=>intro q h;rw[am8];unfold fp;rw[amn (h j aL)];exact bH _ λw8 qz=>h w8 (.tail _ qz)
 unfold sw;rw[key _ 0 λj ad=>e7 j (amH.1 ad),am6,ane,aw];rfl
theorem Fu{t:aM}{i:Nat}:tr t i=true↔tu t (t.init.getD i default)=true/\∀k,k<i->¬hl (t.init.getD i default)=hl (t.init.getD k default):=by unfold tr;rw[ami,fX];simp only[Tb,amk,amu]
theorem Xo(t:aM)(aj ae ak:Value)(vs:List Value)(w:World)(h:gz an w aj ae ak vs t):bj prog 62 [.agg (cQ t aj ae ak).toArray] w λ_ v _=>v=.int .i64 (vH t):=by
 obtain⟨s1,s2,cy⟩:=h.iF;have fi:=h.init;have hle:=fi.le;refine ca func62 ntmps62 ?_;refine ck λaT=>?_;unfold vH;refine bA (λh1=>?_) λh1=>?_
 ·rw[aq]at h1;refine bl λI hw=>?_;rw[amo (by omega)];rfl
 rw[ar]at h1;rw[amn (by omega)];refine aa ?_;refine ao (OD (gA:=s3) (ab:=λr=>aa ?_));refine b9 (λi:Nat=>i<=t.init.length/\∀j,j<i->tr t j=true) (λi=>[(15,true,.int .i64 i),(14,true,.int .i64 t.init.length),(13,true,aj),(3,true,.map (some r)),(1,true,ax aT)]) (λi=>Mem [(w,an)] [qc s3 r ((List.range i).map λj=>(hl (t.init.getD j default),Value.int .i64 ((j:Int)+1))),.box aT (cQ t aj ae ak) 32]) (λi=>t.init.length-i) 0 ⟨amz _,λj ad=>by omega⟩ ?_
 rintro i ⟨hi,bS⟩;refine bg (λh2=>?_) λh2=>?_
 ·have bF:i<t.init.length:=by rw[aq]at h2;omega
  refine aa ?_;refine cU λcW=>?_;refine bQ 0 ?_;refine cU λeN=>?_;refine bQ 0 ?_;obtain⟨m,hm,k3⟩:∃m:Int,((fp ((List.range i).map λj=>(hl (t.init.getD j default),Value.int .i64 ((j:Int)+1))) (hl (t.init.getD i default)) 0).map (·.2)).getD (.int .i64 0)=.int .i64 m/\ ((m=0/\∀j,j<i->¬hl (t.init.getD i default)=hl (t.init.getD j default))\/(0<m/\∃j,j<i/\hl (t.init.getD i default)=hl (t.init.getD j default))):=by
   rcases Xy hi (hl (t.init.getD i default))with⟨e,e7⟩ | ⟨j,h1,h2,e⟩
   ·exact⟨0,e,.inl ⟨rfl,e7⟩⟩
   exact⟨_,e,.inr ⟨by omega,j,h1,h2⟩⟩
  refine dg (nX (Sk (gA:=s3) (x:=hl (t.init.getD i default)) (l:=(List.range i).map λj=>(hl (t.init.getD j default),Value.int .i64 ((j:Int)+1))) (hmem:=gC)) hm) (ab:=aa ?_);refine fm (h:=eY (a7:=λ_ I hw=>Xq t (t.init.getD i default) aj ae ak vs I (h.now hw))) (ab:=aa ?_);refine bA (λh3=>?_) λh3=>?_
  ·simp only[amr,amk,aq]at h3;refine bl λI hw=>?_;have:tr t i=false:=by
    rw[amP,ne_eq,Fu];rintro⟨cq,bn⟩;rcases h3 with h3 | h3
    ·rcases k3 with⟨q,_⟩ | ⟨_,j,ad,e⟩
     ·omega
     exact bn j ad e
    rw[cq]at h3;cases h3
   rw[kx bF this];rfl
  simp only[amt,amm,ar]at h3;have e7:=(k3.resolve_right λq=>h3.1 q.1).2;refine aa ?_;refine ao (OE (gA:=s3) (x:=hl (t.init.getD i default)) (i:=2) (.inl rfl) (hi:=rfl) (ab:=aa ?_));refine bt (i+1) ⟨by omega,kq bS (Fu.2 ⟨h3.2,e7⟩)⟩ (by omega) (hA:=λ_ h=>?_);have:=h.cm [2,3] (es:=[qc s3 r (sw ((List.range i).map λj=>(hl (t.init.getD j default),Value.int .i64 ((j:Int)+1))) (hl (t.init.getD i default)) (.int .i64 ((i:Int)+1))),.box aT (cQ t aj ae ak) 32]) rfl (by decide);rw[ahB _ e7 rfl]at this;exact this
 have bF:i=t.init.length:=by rw[ar]at h2;omega
 refine bl λI hw=>?_;rw[amo (fX.2 λj ad=>bS j (by omega))];rfl
end Go.Proofs.bK
namespace Go.bU
theorem vK{code:List Instr}{s:ByteArray}{k j:Nat}:k6 code s k=some j↔k<=j/\j<code.length/\j8 s (code.getD j default)=true/\∀q,k<=q->q<j->j8 s (code.getD q default)=false:=by
 have hp:((List.range code.length).filter λj=>decide (k<=j)&&j8 s (code.getD j default)).Pairwise (· <·):=anC _ aoL;have hm:∀q,q∈((List.range code.length).filter λj=>decide (k<=j)&&j8 s (code.getD j default))↔k<=q/\q<code.length/\j8 s (code.getD q default)=true:=λq=>by rw[am5,amH,ami,amj];exact⟨λ⟨a,b,c⟩=>⟨b,a,c⟩,λ⟨a,b,c⟩=>⟨b,a,c⟩⟩
 unfold k6;revert hp hm;generalize(List.range code.length).filter _=l;intro hp hm;cases l with
 | nil=>
  constructor
  ·intro h;cases h
  rintro⟨h1,h2,h3,_⟩;exact absurd ((hm j).2 ⟨h1,h2,h3⟩) (by simp)
 | cons a r=>
  rw[am2]at hp;simp only[List.head?_cons,aoc];constructor
  ·rintro rfl;obtain⟨h1,h2,h3⟩:=(hm a).1 aL;refine⟨h1,h2,h3,λq aZ ajU=>?_⟩;apply amT;intro bh;have:q∈a::r:=(hm q).2 ⟨aZ,by omega,by cases hb:j8 s (code.getD q default);exact absurd hb bh;rfl⟩;rcases amG.1 this with e | e
   ·omega
   have:=hp.1 q e;omega
  rintro⟨h1,h2,h3,aC⟩;obtain⟨g1,g2,g3⟩:=(hm a).1 aL;rcases amG.1 ((hm j).2 ⟨h1,h2,h3⟩)with e | e
  ·exact e.symm
  have:=hp.1 j e;rw[aC a g1 this]at g3;cases g3
theorem xa{code:List Instr}{s:ByteArray}{k:Nat}:k6 code s k=none↔∀q,k<=q->q<code.length->j8 s (code.getD q default)=false:=by unfold k6;rw[List.head?_eq_none_iff,anN];simp only[amH,ami,amj,not_and,anK];exact⟨λh q a b=>h q b a,λh q a b=>h q b a⟩
theorem Qm{code:List Instr}{s:ByteArray}{k:Nat}(hk:k<code.length):k6 code s k=if j8 s (code.getD k default)=true then some k else k6 code s (k+1):=by
 split
 ·rename_i h;exact vK.2 ⟨amK _,hk,h,λq a b=>by omega⟩
 rename_i h;have h:=amP.2 h;cases aB:k6 code s (k+1)with
 | none=>
  rw[xa]at aB⊢;intro q a b;by_cases e:q=k
  ·rw[e];exact h
  exact aB q (by omega) b
 | some j=>
  rw[vK]at aB⊢;refine⟨by omega,aB.2.1,aB.2.2.1,λq a b=>?_⟩;by_cases e:q=k
  ·rw[e];exact h
  exact aB.2.2.2 q (by omega) b
def yB(code:List Instr)(k:Nat):Int:=if(code.getD k default).op=11 then match k6 code (code.getD k default).label (k+1)with | some j=>(j:Int) | none=> -1 else -1
theorem abn{code:List Instr}:(List.range code.length).all (kH code)=true↔∀k,k<code.length->kH code k=true:=fX
theorem Qz{code:List Instr}(h:∀k,k<code.length->kH code k=true){k:Nat}(hk:k<code.length):yB code k=mg code k:=by
 have ng:=h k hk;unfold yB mg;split
 ·rename_i bm;unfold kH at ng;rw[amn (by omega),amo bm]at ng;obtain⟨j,ad⟩:=am7.1 ng;rw[ad];obtain⟨_,h2,h3,_⟩:=vK.1 ad;unfold j8 at h3;rw[ami,amj,amj]at h3;have aC:=h j h2;unfold kH at aC;rw[amo h3.1,h3.2,an1]at aC;rw[aC]
 rfl
theorem CB(a b:Instr):(bO (a.op=12)&&bO (a.label=b.label))=j8 b.label a:=by unfold j8;rw[ch,ch]
theorem JQ{code:List Instr}(h1:¬256<code.length)(h2:∀i,i<code.length->kG (code.getD i default)=true)(h3:∀k,k<code.length->kH code k=true):lp code=0:=by unfold lp;rw[amn h1,amo (ank.2 λx hx=>by obtain⟨i,hi,rfl⟩:=o6 hx;exact h2 i hi),amo (fX.2 h3)]
theorem QA{code:List Instr}{i:Nat}(h1:¬256<code.length)(hi:i<code.length)(h:kG (code.getD i default)=false):lp code=91:=by unfold lp;rw[amn h1,amn λq=>by rw[ank.1 q _ (er hi)]at h;cases h]
theorem Fw{code:List Instr}{k:Nat}(h1:¬256<code.length)(h2:∀i,i<code.length->kG (code.getD i default)=true)(hk:k<code.length)(h:kH code k=false):lp code=93:=by unfold lp;rw[amn h1,amo (ank.2 λx hx=>by obtain⟨i,hi,rfl⟩:=o6 hx;exact h2 i hi),amn λq=>by rw[fX.1 q k hk]at h;cases h]
end Go.bU
namespace Go.Proofs.bK
def GX(code:List Instr):Nat->Value->World->Prop:=λn v I=>∃(lv:Value) (k:Int),aD lv/\v=.tuple #[lv,.int .i64 (lp code),.int .i64 k]/\(lp code=0->aV (Fr n) I bd 1 lv (qD code))
theorem xb{code:List Instr}{n:Nat}{I:World}{v:Value}{e k:Int}(he:lp code=e)(h0:e≠0)(aw:v=.tuple #[U,.int .i64 e,.int .i64 k]):GX code n v I:=⟨U,k,cZ,by rw[he];exact aw,λh=>absurd (he.symm.trans h) h0⟩
theorem Sb(ae:Value)(code:List Instr)(w:World)(ai:aV an w cC 8 ae code):bj prog 118 [ae] w (GX code):=by
 have hle:=ai.le;refine ca func118 ntmps118 ?_;refine bA (λh1=>?_) λh1=>?_
 ·rw[aq]at h1;refine aa ?_;refine bP rfl (.tmp rfl (.tmp rfl (.t1 rfl))) λI hw=>?_;exact xb (e:=2) (by unfold lp;rw[amo (by omega)]) (by decide) rfl
 rw[ar]at h1;have h1:¬256<code.length:=by omega
 refine aa ?_;refine b9 (λi:Nat=>i<=code.length/\∀j,j<i->kG (code.getD j default)=true) (λi=>[(6,true,.int .i64 i),(5,true,U),(0,true,ae)]) (λ_=>Mem [(w,an)] []) (λi=>code.length-i) 0 ⟨amz _,λj ad=>by omega⟩ ?_ ⟨rfl,rfl,rfl,trivial⟩ c7
 rintro i ⟨hi,bS⟩;refine bg (λh2=>?_) λh2=>?_
 ·have bF:i<code.length:=by rw[aq]at h2;omega
  refine aa ?_;refine ao (bw (λI hw=>Sa (code.getD i default) I) ?_);rintro v bx a6 rfl cA;refine bg (λh3=>?_) λh3=>?_
  ·rw[amk,ar]at h3;have h3:kG (code.getD i default)=false:=amP.2 λq=>h3 (by rw[amo q]);refine aa ?_;refine bP rfl (.tmp rfl (.tmp rfl (.t1 rfl))) λI hw=>?_;exact xb (QA h1 bF h3) (by decide) rfl
  rw[amm,aq]at h3;have h3:kG (code.getD i default)=true:=by
   cases hb:kG (code.getD i default)
   ·rw[hb]at h3;cases h3
   rfl
  refine aa ?_;exact bt (i+1) ⟨by omega,kq bS h3⟩ (by omega) (hA:=c7)
 have x9:∀j,j<code.length->kG (code.getD j default)=true:=λj ad=>bS j (by rw[ar]at h2;omega);refine aa ?_;refine dZ 3 1 bd ?_;refine b9 (λs:Nat×Value×List Int=>s.1<=code.length/\aD s.2.1/\(∀j,j<s.1->kH code j=true)/\s.2.2=(List.range s.1).map (yB code)) (λs=>[(8,true,.int .i64 s.1),(7,true,s.2.1),(5,true,U),(0,true,ae)]) (λs=>Mem [(w,an)] [.own s.2.1 3 1 bd s.2.2]) (λs=>code.length-s.1) (0,U,[]) ⟨amz _,cZ,λj ad=>by omega,rfl⟩ ?_
 rintro⟨i,b1,out⟩ ⟨hi,kB,oW,ie⟩;dsimp only at hi kB oW ie⊢;have th:out.length=i:=by rw[ie];simp
 refine bg (λaC=>?_) λaC=>?_
 ·have c5:i<code.length:=by rw[aq]at aC;omega
  refine aa ?_;refine h7 (λ_:Unit=>(code.getD i default).op=12->kH code i=true) (λ_=>[(9,true,.int .i64 (-1)),(8,true,.int .i64 i),(7,true,b1),(5,true,U),(0,true,ae)]) (λ_=>Mem [(w,an)] [.own b1 3 1 bd out]) ?_ ?_
  ·refine bA (λaW=>?_) λaW=>?_
   ·rw[aq]at aW;refine aa ?_;refine b9 (λk:Nat=>k<=i/\∀q,q<k->j8 (code.getD i default).label (code.getD q default)=false) (λk=>[(10,true,.int .i64 k),(9,true,.int .i64 (-1)),(8,true,.int .i64 i),(7,true,b1),(5,true,U),(0,true,ae)]) (λ_=>Mem [(w,an)] [.own b1 3 1 bd out]) (λk=>i-k) 0 ⟨amz _,λj ad=>by omega⟩ ?_
    rintro k ⟨hk,e7⟩;refine bg (λcM=>?_) λcM=>?_
    ·have qx:k<i:=by rw[aq]at cM;omega
     refine aa ?_;refine cV [0,1,2,3,4,5,6,7,8,9,10,11,12,13,14,15,16,17,18] mixed ?_;refine aP ?_;refine bg (λef=>?_) λef=>?_
     ·have ef:=(CB (code.getD k default) (code.getD i default)).symm.trans ef;refine aa ?_;refine bP rfl (.tmp rfl (.tmp rfl (.t1 rfl))) λI hw=>?_;refine xb (Fw h1 x9 c5 ?_) (by decide) rfl;unfold kH;rw[amo aW,amP,ne_eq,an1,vK];rintro⟨_,_,_,q⟩;rw[q k (amz _) qx]at ef;cases ef
     have ef:=(CB (code.getD k default) (code.getD i default)).symm.trans ef;refine aa ?_;exact bt (k+1) ⟨by omega,λq aZ=>by
      by_cases e:q<k
      ·exact e7 q e
      rw[show q=k by omega];exact ef⟩ (by omega) ⟨rfl,rfl,rfl,rfl,rfl,rfl,trivial⟩ λ_ h=>h
    have qx:k=i:=by rw[ar]at cM;omega
    refine aa ?_;refine bZ () λ_=>?_;unfold kH;rw[amo aW,an1,vK];exact⟨amz _,c5,by unfold j8;rw[amq aW,amq rfl];rfl,λq _ aZ=>e7 q (by omega)⟩
   rw[ar]at aW;refine aa ?_;exact bZ () λq=>absurd q aW
  rintro _ Y3;refine aa ?_;refine h7 (λa:Int=>a=yB code i/\kH code i=true) (λa=>[(9,true,.int .i64 a),(8,true,.int .i64 i),(7,true,b1),(5,true,U),(0,true,ae)]) (λ_=>Mem [(w,an)] [.own b1 3 1 bd out]) ?_ ?_
  ·refine bA (λaW=>?_) λaW=>?_
   ·rw[aq]at aW;refine aa ?_;refine b9 (λs:Nat×Int=>i+1<=s.1/\s.1<=code.length/\((s.2= -1/\∀q,i+1<=q->q<s.1->j8 (code.getD i default).label (code.getD q default)=false)\/∃j:Nat,s.2=j/\k6 code (code.getD i default).label (i+1)=some j)) (λs=>[(11,true,.int .i64 s.1),(9,true,.int .i64 s.2),(8,true,.int .i64 i),(7,true,b1),(5,true,U),(0,true,ae)]) (λ_=>Mem [(w,an)] [.own b1 3 1 bd out]) (λs=>code.length-s.1) (i+1,-1) ⟨amK _,by dsimp only;omega,.inl ⟨rfl,λq a b=>by dsimp only at b;omega⟩⟩ ?_
    rintro⟨k,a⟩ ⟨EK,hk,k3⟩;dsimp only at EK hk k3⊢;refine bg (λhL=>?_) λhL=>?_
    ·rw[ami,aq,aq]at hL;have XU:k<code.length:=by omega
     have e7:=k3.resolve_right (λ⟨j,e,_⟩=>by omega);refine aa ?_;refine cV [0,1,2,3,4,5,6,7,8,9,10,11,12,13,14,15,16,17,18] mixed ?_;refine aP ?_;refine bg (λnK=>?_) λnK=>?_
     ·have nK:=(CB (code.getD k default) (code.getD i default)).symm.trans nK;refine aa ?_;exact bt (k+1,(k:Int)) ⟨by dsimp only;omega,by dsimp only;omega,.inr ⟨k,rfl,vK.2 ⟨EK,XU,nK,e7.2⟩⟩⟩ (by dsimp only;omega)
     have nK:=(CB (code.getD k default) (code.getD i default)).symm.trans nK;refine aa ?_;exact bt (k+1,a) ⟨by dsimp only;omega,by dsimp only;omega,.inl ⟨e7.1,λq h1 h2=>by
      by_cases e:q<k
      ·exact e7.2 q h1 e
      dsimp only at h2;rw[show q=k by omega];exact nK⟩⟩ (by dsimp only;omega) ⟨rfl,rfl,rfl,rfl,rfl,rfl,trivial⟩ λ_ h=>h
    refine bg (λp2=>?_) λp2=>?_
    ·rw[aq]at p2;have e7:=k3.resolve_right (λ⟨j,e,_⟩=>by omega);rw[amx,ar,ar]at hL;have fe:k=code.length:=by omega
     refine aa ?_;refine bP rfl (.tmp rfl (.tmp rfl (.t1 rfl))) λI hw=>?_;refine xb (Fw h1 x9 c5 ?_) (by decide) rfl;unfold kH;rw[amn (by omega),amo aW,xa.2 λq a b=>e7.2 q a (by omega)];rfl
    rw[ar]at p2;obtain⟨j,e,ad⟩:=k3.resolve_left (λq=>by omega);refine aa ?_;refine bZ a ⟨?_,?_⟩
    ·unfold yB;rw[amo aW,ad,e]
    unfold kH;rw[amn (by omega),amo aW,ad];rfl
   rw[ar]at aW;refine aa ?_;refine bZ (-1) ⟨?_,?_⟩
   ·unfold yB;rw[amn aW]
   by_cases q:(code.getD i default).op=12
   ·exact Y3 q
   unfold kH;rw[amn q,amn aW]
  rintro a ⟨au,zN⟩;refine aa ?_;refine ao (eA _ _ (ab:=λalB aka=>aa ?_));refine ao (e6 1 (hk:=rfl) (bG:=by simp;omega) (ab:=λahI ZU=>aa ?_));exact bt (i+1,ahI,out++[a]) ⟨by dsimp only;omega,ZU,kq oW zN,by dsimp only;rw[am6,ane,ie,au];rfl⟩ (by dsimp only;omega) (hA:=bV [1])
 have c5:i=code.length:=by rw[ar]at aC;omega
 refine aa ?_;refine bP rfl (.tmp rfl (.tmp rfl (.t1 rfl))) λI hw=>?_;have aY:=JQ h1 x9 λk hk=>oW k (by omega);refine⟨b1,0,kB,by rw[aY];rfl,λ_=>?_⟩;rw[show qD code=out from by rw[ie,c5];unfold qD;exact an0 λk hk=>(Qz (λk hk=>oW k (by omega)) (amH.1 hk)).symm]
 exact hw.hK aL aL
end Go.Proofs.bK
