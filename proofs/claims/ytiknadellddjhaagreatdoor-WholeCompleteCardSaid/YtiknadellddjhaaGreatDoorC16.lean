/- Lemmas for the law WholeComplete. -/
import Derived.Test.YtiknadellddjhaaGreatDoorC12
import Derived.Test.YtiknadellddjhaaGreatDoorC15
set_option linter.all false
open Go.Proofs.Tryz
set_option maxHeartbeats 6400000
open Go Go.b9 Go.bM
namespace Go.b9
open Go Go.RowKit
section
variable {P:Program} {N:Nat} {tm:dY} {bs:List dm} {H:List aB} {K:Act->World->Prop} {Q:Exit->Act->World->Prop}
theorem Rh{A:World->Prop}{φ:Prop}(hA:∀w,A w->φ)(h:φ->cR N K tm A):cR N K tm A:=by unfold cR at *;exact λa w aj hw=>h (hA w hw) a w aj hw
theorem Mem.x9{S S':Nat->Prop}{B w:World}(hw:Mem bs H w)(hB:(B,S)∈bs)(cG:∀k,S' k->S k):Mem ((B,S')::bs) H w:=by
 refine⟨λC hC=>?_,hw.own,hw.fC,λC hC e he k hk l9=>?_,hw.il⟩
 ·rcases aoO.1 hC with rfl | hC
  ·have h:=hw.base _ hB;exact⟨h.os,h.tape,h.output,h.size,λk h1 h2=>h.s9 k h1 (cG k h2)⟩
  exact hw.base _ hC
 rcases aoO.1 hC with rfl | hC
 ·exact hw.apart _ hB e he k hk (cG k l9)
 exact hw.apart _ hC e he k hk l9
theorem An{d k:Nat}{f:Operand}{xs:List Operand}{ts:Array TypeId}{first cap vs:List Value}{Φ:Nat->Value->World->Prop}[hF:aS P k] (hf:bt tm true f (.func (.func k) first.toArray cap.toArray):=by exact(b3 rfl)) (hxs:kf tm true xs vs:=by first | exact .nil | (repeat (first | exact .nil | apply kf.cons (b3 rfl)))) (hd:Nat.blt d N=true:=by rfl) (bb:∀w,Mem bs H w->bl P k (first++vs++cap) w Φ) (ab:∀v n bc,Φ n v bc->Mem bs H bc->(∀k,n<=k->bJ H k)->(∀B,B∈bs->B.1.heap.size<=n)->cR N K ((d,true,v)::tm) (Mem ((bc,bJ H)::bs) H)): gz P N (.call {callee:=.value f,args:=xs.toArray,argTypes:=ts}) (some d) Q tm (Mem bs H) K:=by unfold gz cR at *;intro a w ty pos cV g aj hw;unfold Oper.wp;rw[Aj (hf.get aj rfl) (hxs.get aj rfl)];simp only[Oper.upon];have uM:=bb w hw;unfold bl at uM;refine Calls.mono uM λe I h=>?_;unfold qy at h;obtain⟨v,rfl,hb,qS⟩:=h;have hm:=hw.ext hb;exact ab v _ I qS hm (λk hk e he nE=>by have:=hw.fC e he k nE;omega) (λB hB=>(hw.base B hB).size) _ _ (by simpa using aj.put (apv.mp hd) true v) hm.LF
end
end Go.b9
namespace Go.bM
theorem WG{a b:cK}(ay:iH a)(hb:iH b):r5 a b=h6 a b:=by
 unfold r5 h6;rcases wV.1 ay with⟨ds,a2,_⟩ | ⟨ds,_,_,_,a5⟩<;>rcases wV.1 hb with⟨gn,dC,_⟩ | ⟨gn,_,_,_,ec⟩
 ·simp[ds,gn,a2,dC]
 ·simp[ds,show ¬b.aH= -1 by omega]
 ·simp[gn,show ¬a.aH= -1 by omega]
 rw[a5,ec,tP];simp only[show ¬a.aH= -1 by omega,show ¬b.aH= -1 by omega,aqY,ne_eq,arb,aqw,or_self,iI];by_cases h3:a.aH=b.aH
 ·by_cases aA:a.bo=b.bo
  ·simp[h3,aA]
  simp[h3,aA]
 simp[h3]
theorem S0{x y:cK}:∀{l:List cK},x∉l->ic x (l++[y])=if l.any (h6 x)then ic x l++[y]else l++ic x [y]
 | [],_=>by simp
 | z::r,h=>by
  have h1:¬x=z:=λe=>h (e▸.head _);have h2:x∉r:=λe=>h (.tail _ e);show ic x (z::(r++[y]))=_;unfold ic;rw[aot h1,aot h1];by_cases h3:h6 x z=true
  ·rw[aou h3,aou h3,List.any_cons,h3];simp
  rw[aot h3,aot h3,S0 h2,List.any_cons,aoW.2 h3,ap6];split
  ·rfl
  conv=>rhs;unfold ic
  rfl
theorem Lk{x:cK}:∀{l:List cK},x∉l->l.any (h6 x)=false->ic x l=l++[x]
 | [],_,_=>rfl
 | z::r,h,ay=>by rw[List.any_cons,aoz]at ay;have dS:¬x=z:=λe=>h (e▸.head _);have aM:x∉r:=λe=>h (.tail _ e);unfold ic;rw[aot dS,aot (by rw[ay.1];simp),Lk aM ay.2];rfl
theorem SZ{x:cK}(hx:iH x):∀{l:List cK},(∀y,y∈l->iH y)->l.Pairwise vn->x∈l->ic x l=l
 | y::r,bn,hp,h=>by
  rw[apa]at hp;unfold ic;by_cases e:x=y
  ·rw[aou e]
  have aM:x∈r:=(aoO.1 h).resolve_left e;have h1:h6 y x=true:=hp.1 x aM;rw[aot e,aot λq=>Ei hx (B2 hx (bn y aP) hx q h1),SZ hx (λz a1=>bn z (.tail _ a1)) hp.2 aM]
theorem Lj(x:cK):∀l:List cK,(ic x l).length<=l.length+1
 | []=>by simp[ic]
 | y::r=>by have:=Lj x r;unfold ic;split<;>(try split)<;>simp<;>omega
def vu(n:e3):Prop:=∃m d,(iE 2 n m d).2=0
theorem vu.atom{n:e3}(h:vu n)(hk:n.kind=2):n.kids=[]/\iH n.e9:=by
 obtain⟨m,d,h⟩:=h;rw[x2]at h;split at h
 ·cases h
 split at h
 ·rename_i h2;unfold wF at h2;rw[aou hk,aoo,aoo,List.isEmpty_iff]at h2;exact⟨h2.1.1,h2.1.2⟩
 cases h
theorem Vw{a:Int}:∀{l:List e3} {m d:Nat} {i:Nat},(nv a l m d).2=0->i<l.length->∃m',(iE a (l.getD i default) m' d).2=0
 | n::r,m,d,i,h,hi=>by
  unfold nv at h;split at h
  ·rename_i h1;cases i with
   | zero=>exact⟨m,h1⟩
   | succ i=>exact Vw (l:=r) (m:=(iE a n m d).1) h (by rw[aoN]at hi;omega)
  rename_i h1;exact absurd h h1
theorem vu.acv{n:e3}(h:vu n){i:Nat}(hi:i<n.kids.length):vu (n.kids.getD i default):=by
 obtain⟨m,d,h⟩:=h;rw[x2]at h;split at h
 ·cases h
 split at h
 ·obtain⟨m',cm⟩:=Vw h hi;exact⟨m',_,cm⟩
 cases h
theorem vu.atoms{n:e3}(h:vu n):∀x,x∈jM n->iH x:=by obtain⟨m,d,h⟩:=h;exact(wZ n m d h).1
theorem HF(n:e3):jM n=(if n.kind=2 then [n.e9]else [])++pB n.kids:=by cases n;unfold jM;rfl
theorem NJ{l:List e3}{i:Nat}(h:i<l.length):pB (l.drop i)=jM (l.getD i default)++pB (l.drop (i+1)):=by rw[vK h];rfl
def qZ(l xs:List cK):List cK:=l.foldl (λl x=>ic x l) xs
theorem aeQ(a b xs:List cK):qZ (a++b) xs=qZ b (qZ a xs):=ap9
theorem Gu:∀(l xs:List cK),(qZ l xs).length<=xs.length+l.length
 | [],xs=>aoL _
 | x::l,xs=>by have h1:=Gu l (ic x xs);have h2:=Lj x xs;show(qZ l (ic x xs)).length<=_;rw[aoN];omega
end Go.bM
namespace Go.Proofs.bA
attribute [local irreducible] wpList Code.wp bodyPost Exit.then Exit.inBlock Calls
theorem aeX(a b:cK)(w:World):bl prog 202 [.agg (eH a).toArray,.agg (eH b).toArray] w λ_ v _=>v=.bool (r5 a b):=by
 refine bZ func202 ntmps202 ?_;refine b7 λdT=>?_;refine b7 λdf=>?_;unfold r5;refine bC (λh1=>?_) λh1=>?_
 ·have bU:decide (a.aH= -1)≠decide (b.aH= -1):=by rw[cd,cd]at h1;simpa using h1
  refine bf λI hw=>?_;rw[aou bU,cd];rfl
 have bU:¬decide (a.aH= -1)≠decide (b.aH= -1):=by rw[cd,cd]at h1;simpa using h1
 rw[aot bU];refine a8 (λh2=>?_) λh2=>?_
 ·rw[aoq,au]at h2;refine bf λI hw=>?_;rw[aou (.inl h2),cd];refine aoI Value.bool ?_;unfold iI;rw[aoE h2];simp
 rw[aos,an]at h2;refine a8 (λh3=>?_) λh3=>?_
 ·rw[aoq,au]at h3;refine bf λI hw=>?_;rw[aou (.inr h3),cd];refine aoI Value.bool ?_;unfold iI;rw[h2];simp
 rw[aos,an]at h3;refine bf λI hw=>?_;rw[aot λq=>q.elim (λq=>q h2) λq=>q h3];rfl
def VW(ak:Value)(xs ys:List cK):Nat->Value->World->Prop:=λn v I=>(v=ak/\ys=xs)\/aZ (Fr n) I eH 3 v ys
theorem aeY:∀(z:Nat) (n:e3) (ao ak:Value) (xs:List cK) (w:World),SizeOf.sizeOf n<z->vu n->xs.length+(jM n).length<=4096->(∀x,x∈xs->iH x)->xs.Pairwise vn->k6 al w n ao->aZ al w eH 3 ak xs-> bl prog 116 [.agg (gX (iZ n ao)).toArray,ak] w (VW ak xs (qZ (jM n) xs)):=by
 intro z
 induction z with
 | zero=>intro n ao ak xs w a1;omega
 | succ z bP=>
  intro n ao ak xs w a1 hok xC jz AN bd aL;obtain⟨db,aj,jR⟩:=bd.kids;have hr:=aj.aK;have hle:=aj.le;have bH:=jR.len;have jV:=aL.le;refine bZ func116 ntmps116 ?_;refine b7 λkt=>?_;refine bC (λh1=>?_) λh1=>?_
  ·rw[an]at h1;have h1:n.kind=2:=h1;obtain⟨Fm,QL⟩:=hok.atom h1;have dR:jM n=[n.e9]:=by rw[HF,aou h1,Fm];rfl
   rw[dR]at xC;rw[dR];show fp _ _ _ _ _ _;refine U ?_;refine ea 25 3 eH ?_;refine bX (λs:Nat×Bool×Value×List cK=>s.1<=xs.length/\aD s.2.2.1/\(∀j,j<s.1->xs.getD j default≠n.e9)/\s.2.1=(xs.take s.1).any (h6 n.e9)/\s.2.2.2++(if s.2.1 then []else [n.e9])=ic n.e9 (xs.take s.1)) (λs=>[(7,true,.int .i64 s.1),(6,true,.bool s.2.1),(5,true,s.2.2.1),(2,true,av kt),(1,true,ak)]) (λs=>Mem [(w,al)] [.own s.2.2.1 25 3 eH s.2.2.2,.box kt (gX (iZ n ao)) 28]) (λs=>xs.length-s.1) (0,false,aa,[]) ⟨aoD _,cU,λj ae=>by omega,rfl,rfl⟩ ?_
   rintro⟨i,put,v,out⟩ ⟨hi,ax,eD,mH,hh⟩;dsimp only at hi ax eD mH hh⊢;have tC:out.length<=5000:=by have h1:=aoI List.length hh;have h2:=Lj n.e9 (xs.take i);rw[aoy]at h1;rw[ao3]at h2;omega
   refine a8 (λh2=>?_) λh2=>?_
   ·have bq:i<xs.length:=by rw[an]at h2;omega
    have uN:xs.take (i+1)=xs.take i++[xs.getD i default]:=by rw[apn,getD_some bq];rfl
    have yP:n.e9∉xs.take i:=λq=>by obtain⟨j,ae,e⟩:=pj q;rw[ao3]at ae;refine eD j (by omega) ?_;rw[<-e,aor,aor,apV,aou (by omega)]
    refine U ?_;refine cz [0,1,2,3,4,5,6] mixed ?_;refine aN ?_;refine a8 (λh3=>?_) λh3=>?_
    ·rw[an]at h3;have h3:xs.getD i default=n.e9:=h3;refine bf λI hw=>?_;refine .inl ⟨rfl,?_⟩;show ic n.e9 xs=xs;exact SZ QL jz AN (h3▸eN bq)
    rw[au]at h3;have h3:¬xs.getD i default=n.e9:=h3;have CJ:∀j,j<i+1->xs.getD j default≠n.e9:=λj ae=>by
     by_cases q:j<i
     ·exact eD j q
     rw[show j=i by omega];exact h3
    have tv:r5 n.e9 (xs.getD i default)=h6 n.e9 (xs.getD i default):=WG QL (jz _ (eN bq));have wh:=S0 (y:=xs.getD i default) yP;have yC:(xs.take (i+1)).any (h6 n.e9)=(put||h6 n.e9 (xs.getD i default)):=by rw[uN,List.any_append,mH];simp
    have na:ic n.e9 [xs.getD i default]=if h6 n.e9 (xs.getD i default)=true then [n.e9,xs.getD i default]else [xs.getD i default,n.e9]:=by unfold ic;rw[aot (Ne.symm h3)];rfl
    refine U ?_;refine cz [0,1,2,3,4,5,6,7,8,9,10] mixed ?_;refine aN ?_;refine rE ?_ (h:=ev (bb:=λ_ I hw=>aeX n.e9 (xs.getD i default) I));refine aN ?_;refine a8 (λaA=>?_) λaA=>?_
    ·rw[aoo,aoq,tv]at aA;obtain⟨aA,a6⟩:=aA;subst aA;rw[a6]at yC na;rw[<-mH,aot (by simp)]at wh;have bn:out=xs.take i:=by rw[Lk yP mH.symm]at hh;simpa using hh
     refine U ?_;refine aq (eI (ab:=λv40 QR=>U ?_));refine aq (e6 1 (hk:=rfl) (bH:=by simp;omega) (ab:=λv41 wm=>U ?_));refine aq (eI (ab:=λpU y0=>U ?_));refine aq (e6 2 (hk:=rfl) (bH:=by simp;omega) (ab:=λtZ tJ=>U ?_));exact bm (i+1,true,tZ,(out++[n.e9])++[xs.getD i default]) ⟨by dsimp only;omega,tJ,CJ,by rw[yC];rfl,by rw[uN,wh,na,bn];simp⟩ (by dsimp only;omega) (hA:=b4 [2,3])
    rw[tv]at aA;refine U ?_;refine aq (eI (ab:=λpU y0=>U ?_));refine aq (e6 1 (hk:=rfl) (bH:=by simp;omega) (ab:=λtZ tJ=>U ?_));refine bm (i+1,put,tZ,out++[xs.getD i default]) ⟨by dsimp only;omega,tJ,CJ,?_,?_⟩ (by dsimp only;omega) (hA:=b4 [1,2])
    ·rw[yC];cases put
     ·simpa using aA
     rfl
    dsimp only;rw[uN,wh,<-mH];cases put with
    | true=>rw[aou rfl,aou rfl,<-hh,aou rfl,aoH,aoH]
    | false=>
     have aA:h6 n.e9 (xs.getD i default)=false:=by simpa using aA
     rw[aot (by simp),aot (by simp),na,aA];rw[Lk yP mH.symm,aot (by simp)]at hh;rw[List.append_cancel_right hh];simp
   have bq:i=xs.length:=by rw[au]at h2;omega
   rw[bq,aoZ]at hh;refine a8 (λa6=>?_) λa6=>?_
   ·rw[aoq]at a6;subst a6;refine U ?_;refine aq (eI (ab:=λv54 abm=>U ?_));refine aq (e6 1 (hk:=rfl) (bH:=by simp;omega) (ab:=λv55 abn=>U ?_));refine bT rfl (.t1 rfl) λI hw=>?_;refine .inr ?_;rw[show qZ [n.e9] xs=out++[n.e9]from hh.symm];exact hw.im dg aP
   rw[aos]at a6;subst a6;refine bf λI hw=>?_;refine .inr ?_;rw[show qZ [n.e9] xs=out from by rw[aou rfl,aoH]at hh;exact hh.symm];exact hw.im aP aP
  rw[au]at h1;have h1:¬n.kind=2:=h1;have dR:jM n=pB n.kids:=by rw[HF,aot h1];rfl
  rw[dR]at xC;rw[dR];show fp _ _ _ _ _ _;refine U ?_;refine Rh (φ:=w.heap.size<=kt) (λI hw=>by have:=hw.apart _ aP _ aP kt (by simp[aB.cN]) trivial;exact this) λuF=>?_;have yQ:∀k,k<w.heap.size->al k->bJ [.box kt (gX (iZ n ao)) 28] k:=λk hk _ e he nE=>by rw[aoB]at he;subst he;simp only[aB.cN,aoB]at nE;omega
  refine bX (λs:Nat×Value×List cK×World=>s.1<=db.length/\aZ (bJ [.box kt (gX (iZ n ao)) 28]) s.2.2.2 eH 3 s.2.1 s.2.2.1/\((s.2.1=ak/\s.2.2.1=xs)\/aZ (λk=>Fr w.heap.size k/\bJ [.box kt (gX (iZ n ao)) 28] k) s.2.2.2 eH 3 s.2.1 s.2.2.1)/\qZ (pB (n.kids.drop s.1)) s.2.2.1=qZ (pB n.kids) xs/\ s.2.2.1.length+(pB (n.kids.drop s.1)).length<=4096/\(∀x,x∈s.2.2.1->iH x)/\s.2.2.1.Pairwise vn) (λs=>[(8,true,.int .i64 s.1),(2,true,av kt),(1,true,s.2.1)]) (λs=>Mem [(s.2.2.2,bJ [.box kt (gX (iZ n ao)) 28]),(w,al)] [.box kt (gX (iZ n ao)) 28]) (λs=>db.length-s.1) (0,ak,xs,w) ⟨aoD _,aL.mono (kK.refl _ _) yQ λx _=>eg.ne x,.inl ⟨rfl,rfl⟩,rfl,xC,jz,AN⟩ ?_ ⟨rfl,rfl,rfl,trivial⟩ λ_ h=>h.x9 aP dz
  rintro⟨i,v,ys,re⟩ ⟨hi,ax,lz,bG,pJ,FL,hyp⟩;dsimp only at hi ax lz bG pJ FL hyp⊢;refine a8 (λcE=>?_) λcE=>?_
  ·have qJ:i<db.length:=by rw[an]at cE;omega
   obtain⟨g1,g2,g3,g4⟩:=k5.get i jR (by omega);have yL:=l3.eq g1 g2 g3;have ob:=hok.acv (i:=i) (by omega);have cS:=NJ (l:=n.kids) (i:=i) (by omega);rw[cS]at bG pJ;rw[aeQ]at bG;rw[aoy]at pJ;have Fg:=ES (jM (n.kids.getD i default)) ys ob.atoms FL hyp;have mc:=Gu (jM (n.kids.getD i default)) ys;refine U ?_;refine aq (An (bb:=λI hw=>by have:=bP (n.kids.getD i default) (db.getD i default).kids v ys I (by have:=GZ (n:=n) (i:=i) (by omega);omega) ob (by omega) FL hyp (g4.map λv db h=>hw.now h) (hw.now ax);rw[<-yL]at this;exact this) (ab:=?_))
   intro dG bx bc qS hm vZ ej;refine U ?_;have JO:w.heap.size<=bx:=ej _ dg;refine bm (i+1,dG,qZ (jM (n.kids.getD i default)) ys,bc) ⟨by dsimp only;omega,?_,?_,bG,by dsimp only;omega,?_,Fg.1⟩ (by dsimp only;omega) (hA:=λ_ h=>h.uu)
   ·rcases qS with⟨rfl,e⟩ | h
    ·dsimp only;rw[e];exact hm.Dp ax
    exact h.mono (kK.refl _ _) (λk _ hk=>vZ k hk) λx _=>eg.ne x
   ·rcases qS with⟨rfl,e⟩ | h
    ·dsimp only;rw[e];rcases lz with q | q
     ·exact .inl q
     exact .inr ((hm.x9 aP λ_ h=>h.2).Dp q aP)
    exact .inr (h.mono (kK.refl _ _) (λk _ hk=>⟨ao5 JO hk,vZ k hk⟩) λx _=>eg.ne x)
   intro x hx;rcases(Fg.2 x).1 hx with q | q
   ·exact ob.atoms x q
   exact FL x q
  have qJ:i=db.length:=by rw[au]at cE;omega
  rw[qJ,bH,apT]at bG;refine bf λI hw=>?_;rw[<-bG];rcases lz with q | q
  ·exact .inl q
  exact .inr (((hw.x9 aP λ_ h=>h.2).Dp q aP).mono (kK.refl _ _) (λk _ hk=>hk.1) λx _=>eg.ne x)
theorem DN{aX:Type}{S:Nat->Prop}{enc:aX->List Value}(w:World)(sz:Nat):aZ S w enc sz aa ([]:List aX):=⟨⟨none,0,0,rfl,rfl,aoL _,by decide,λh=>by cases h⟩,λi x j u h=>by simp at h,λa n cap h hp=>by injection h with h;cases h⟩
theorem Lo(dH:Int)(n:e3)(ao:Value)(w:World)(bd:k6 al w n ao):bl prog 48 [.agg (.int .i64 dH::gX (iZ n ao)).toArray] w λm v I=>∃aT,v=.tuple #[aT,.int .i64 (o4 2 dH n)]/\aZ (Fr m) I eH 3 aT (fS dH n):=by
 have hr:=bd.aK;refine bZ func48 ntmps48 ?_;refine b7 λfy=>?_;refine aq (bp (λI hw=>S2 2 dH n ao I (bd.map λv db h=>hw.now h)) ?_);rintro v bx bc rfl cu;refine U ?_;unfold fS;refine bC (λh1=>?_) λh1=>?_
 ·rw[aoq,au]at h1;refine U ?_;refine bT rfl (.tmp rfl (.t1 rfl)) λI hw=>?_;rw[aot h1];exact⟨_,rfl,DN _ _⟩
 rw[aos,an]at h1;rw[aou h1];have tK:(iE 2 n 0 0).2=0:=by
  unfold o4 at h1;rw[aou (.inr rfl)]at h1;split at h1
  ·cases h1
  exact h1
 have bH:=(wZ n 0 0 tK).2;refine U ?_;refine aq (An (bb:=λI hw=>aeY (SizeOf.sizeOf n+1) n ao aa [] I (by omega) ⟨0,0,tK⟩ (by simp;omega) (λ_ h=>(by cases h)) List.Pairwise.nil (bd.map λv db h=>hw.now h) (DN _ _)) (ab:=λdG ck bY qS hm vZ ej=>U ?_));have JO:w.heap.size<=ck:=ej _ dg;refine bT rfl (.tmp rfl (.t1 rfl)) λI hw=>?_;rw[h1];refine⟨_,rfl,?_⟩;rcases qS with⟨rfl,e⟩ | h
 ·rw[show(jM n).foldl (λl x=>ic x l) []=[]from e];exact DN _ _
 exact(hw.x9 aP (S':=λk=>ck<=k) vZ).pass h aP JO
def oA(cZ:Nat)(v:Value)(xs:List cK):List aB:=[.box cZ [v] 38,.own v 25 3 eH xs]
def M8(cZ:Nat)(xs:List cK):Nat->Value->List aB->World->Prop:=λ_ r es _=>r=.tuple #[]/\∃v,aD v/\es=oA cZ v xs
theorem Xo(cZ:Nat)(v:Value)(xs:List cK)(n:e3)(ao:Value)(w:World)(ax:aD v)(hk:aD ao)(aL:xs.length<=5000)(hw:Mem [] (oA cZ v xs) w): eY prog 146 [.agg (gX (iZ n ao)).toArray,av cZ] (oA cZ v xs) w (M8 cZ (xs++[n.e9])):=by refine sa func146 ntmps146 hw ?_;refine aq (ru ?_);intro dT;show cR _ _ _ (Mem _ (_::.box cZ [v] 38::.own v 25 3 eH xs::[]));refine U ?_;refine aq (eI (ab:=λv6 nd=>U ?_));refine aq (e6 3 (hk:=rfl) (bH:=by simp;omega) (ab:=λvj sv=>U ?_));refine bN 2 ?_;refine qV rfl .nil aP (oA cZ vj (xs++[n.e9])) [2,3] rfl (by decide) λI hw=>?_;exact⟨rfl,vj,sv,rfl⟩
theorem Xr(cZ:Nat):∀(z:Nat) (n:e3) (ao v:Value) (xs:List cK) (w:World),SizeOf.sizeOf n<z->aD v->xs.length+(jM n).length<=4096->Mem [] (oA cZ v xs) w->k6 (bJ (oA cZ v xs)) w n ao-> eY prog 145 [.agg (gX (iZ n ao)).toArray,.func (.func 146) #[] #[av cZ]] (oA cZ v xs) w (M8 cZ (xs++jM n)):=by
 intro z
 induction z with
 | zero=>intro n ao v xs w a1;omega
 | succ z bP=>
  intro n ao v xs w a1 ax xC y1 bd;obtain⟨db,aj,jR⟩:=bd.kids;have hr:=aj.aK;have hle:=aj.le;have bH:=jR.len;rw[HF]at xC⊢;rw[aoy]at xC;refine sa func145 ntmps145 y1 ?_;refine b7 λkt=>?_;refine ih (λs:Value×List cK=>aD s.1/\s.2=xs++(if n.kind=2 then [n.e9]else [])) (λ_=>[(2,true,av kt),(1,true,.func (.func 146) #[] #[av cZ])]) (λs=>Mem [(w,bJ (oA cZ v xs))] (oA cZ s.1 s.2++[.box kt (gX (iZ n ao)) 28])) ?_ ?_
  ·refine bC (λh1=>?_) λh1=>?_
   ·rw[an]at h1;have h1:n.kind=2:=h1;refine U ?_;refine cA _ (λ_ h=>h.perm (H':=oA cZ v xs++[.box kt (gX (iZ n ao)) 28]) (apx (l₁:=[_]))) ?_;refine aq (eB (bb:=λI hw=>Xo cZ v xs n ao I ax hr (by omega) hw.dt.ew) (ab:=?_));rintro r bx es bc ⟨rfl,v1,jy,rfl⟩;refine U ?_;exact b6 (v1,xs++[n.e9]) ⟨jy,by rw[aou h1]⟩
   rw[au]at h1;have h1:¬n.kind=2:=h1;refine U ?_;exact b6 (v,xs) ⟨ax,by rw[aot h1,aoH]⟩ (hA:=λ_ h=>h.perm (apx (l₁:=[_])))
  rintro⟨v0,Ho⟩ ⟨FB,J7⟩;dsimp only at FB J7⊢;have CD:Ho.length=xs.length+(if n.kind=2 then [n.e9]else []).length:=by rw[J7,aoy]
  refine cA (Mem [(w,bJ (oA cZ v xs))] (.box kt (gX (iZ n ao)) 28::oA cZ v0 Ho)) (λ_ h=>h.perm (apx (l₂:=[_]))) (U ?_);refine bX (λs:Nat×Value×List cK=>s.1<=db.length/\aD s.2.1/\s.2.2++pB (n.kids.drop s.1)=Ho++pB n.kids) (λs=>[(15,true,.int .i64 s.1),(14,true,.int .i64 db.length),(13,true,ao),(1,true,.func (.func 146) #[] #[av cZ])]) (λs=>Mem [(w,bJ (oA cZ v xs))] (.box kt (gX (iZ n ao)) 28::oA cZ s.2.1 s.2.2)) (λs=>db.length-s.1) (0,v0,Ho) ⟨aoD _,FB,rfl⟩ ?_
  rintro⟨i,v2,ys⟩ ⟨hi,hS,iL⟩;dsimp only at hi hS iL⊢;refine a8 (λh2=>?_) λh2=>?_
  ·have bq:i<db.length:=by rw[an]at h2;omega
   obtain⟨g1,g2,g3,g4⟩:=k5.get i jR (by omega);have iK:=g4.aK;have yL:=l3.eq g1 g2 g3;have cS:=NJ (l:=n.kids) (i:=i) (by omega);rw[cS]at iL;have pf:=aoI List.length iL;simp only[aoy]at pf;refine U ?_;refine cH λgp=>?_;refine bN 0 ?_;refine cA (Mem [(w,bJ (oA cZ v xs))] (oA cZ v2 ys++[.box gp (gX (db.getD i default)) 28,.box kt (gX (iZ n ao)) 28])) (λ_ h=>h.perm (apx (l₁:=[_,_]))) ?_;refine aq (eB (bb:=λI hw=>by have:=bP (n.kids.getD i default) (db.getD i default).kids v2 ys I (by have:=GZ (n:=n) (i:=i) (by omega);omega) hS (by omega) hw.dt.ew (g4.map λv db h=>hw.iD h aP λe he=>aoK _ he);rw[<-yL]at this;exact this) (ab:=?_))
   rintro r bx es bc ⟨rfl,v3,pL,rfl⟩;refine U ?_;exact bm (i+1,v3,ys++jM (n.kids.getD i default)) ⟨by dsimp only;omega,pL,by rw[aoP];exact iL⟩ (by dsimp only;omega) (hA:=b4 [3,0,1])
  have bq:i=db.length:=by rw[au]at h2;omega
  rw[bq,bH,apT]at iL;refine U ?_;refine qV rfl .nil aP (oA cZ v2 ys) [1,2] rfl (by decide) λI hw=>?_;refine⟨rfl,v2,hS,?_⟩;rw[show ys=xs++((if n.kind=2 then [n.e9]else [])++pB n.kids)from by rw[<-aoP,<-J7,<-iL];exact(aoH _).symm]
end Go.Proofs.bA
namespace Go.b9
open Go Go.RowKit
section
variable {P:Program} {N:Nat} {tm:dY} {A:World->Prop} {c:Bool}
theorem afh{t:TypeId}{x y:Operand}{s:ByteArray}{l:Int}[aJ:jr P t .string](h0:0<=l)(aL:l<=s.size)(hx:bt tm c x (.string s):=by exact cb)(aY:bt tm c y (.int .i64 l):=by exact cb): bW P N (.slice t x (some y) none none) tm A c (.string (s.extract l.toNat s.size)):=by unfold bW;intro ai a w _ _ _ _ _ cy _;simp only[execOp,hx.get cy ai,aY.get cy ai,Option.map];refine hX ?_;simp[Instr.sliceAt,Instr.slice,Instr.sliceBounds,Instr.sliceBound,asIntOf,run_underlying aJ.h,Result.andThen,h0,aL]
theorem afg{t:TypeId}{x y:Operand}{s:ByteArray}{l:Int}[aJ:jr P t .string](h0:0<=l)(aL:l<=s.size)(hx:bt tm c x (.string s):=by exact cb)(aY:bt tm c y (.int .i64 l):=by exact cb): bW P N (.slice t x none (some y) none) tm A c (.string (s.extract 0 l.toNat)):=by unfold bW;intro ai a w _ _ _ _ _ cy _;simp only[execOp,hx.get cy ai,aY.get cy ai,Option.map];refine hX ?_;simp[Instr.sliceAt,Instr.slice,Instr.sliceBounds,Instr.sliceBound,asIntOf,run_underlying aJ.h,Result.andThen,h0,aL]
end
end Go.b9
attribute [local irreducible] Go.wpList Go.Code.wp Go.bodyPost Go.Exit.then Go.Exit.inBlock Go.Calls
namespace Go.bM
structure gW(S:Nat->Prop)(w:World)(ah ad ao:Value)(vs:List Value)(t:aV):Prop where
 init:aZ S w o6 5 ah t.init
 nA:aZ S w ct 1 ad vs
 nX:vs.length=t.code.length
 code:∀i,i<vs.length->aZ S w cL 8 (vs.getD i default) (t.code.getD i default)
 node:k6 S w t.node ao
def c6(t:aV)(ah ad ao:Value):List Value:=.int .i64 t.aC::.string t.name::.string t.nZ::ah::ad::.int .i64 t.dH::gX (iZ t.node ao)
theorem gW.map{S S':Nat->Prop}{w I:World}{ah ad ao:Value}{vs:List Value}{t:aV}(h:gW S w ah ad ao vs t)(f:∀{aX:Type} {enc:aX->List Value} {sz:Nat} [eg enc sz] (v:Value) (xs:List aX),aZ S w enc sz v xs->aZ S' I enc sz v xs):gW S' I ah ad ao vs t:=⟨f _ _ h.init,f _ _ h.nA,h.nX,λi hi=>f _ _ (h.code i hi),h.node.map λv db h=>f v db h⟩
theorem gW.now{S:Nat->Prop}{B I:World}{ah ad ao:Value}{vs:List Value}{t:aV}{bs:List dm}{H:List aB}(h:gW S B ah ad ao vs t)(hw:Mem bs H I)(hB:(B,S)∈bs:=by repeat (first | exact List.Mem.head _ | refine List.Mem.tail _ ?_)):gW al I ah ad ao vs t:=h.map λ_ _ q=>hw.now q hB
theorem gW.jY{S:Nat->Prop}{w:World}{ah ad ao:Value}{vs:List Value}{t:aV}(h:gW S w ah ad ao vs t):aD ah/\aD ad/\aD ao:=⟨h.init.aK,h.nA.aK,h.node.aK⟩
def ME(s:ByteArray):Bool:=decide (s.size=0)||(decide (dO s 0≠32)&&decide (dO s (s.size-1)≠32))
def hv(x:mu):cK:=⟨x.aH,x.bo,x.loc⟩
theorem T9(x y:mu):L9 x y=decide (hv x=hv y):=by unfold L9 hv;rw[aoR];simp[and_assoc]
end Go.bM
namespace Go.Proofs.bA
theorem arv(s:ByteArray)(c:Nat)(w:World)(aj:s.size<=262144):bl prog 130 [.string s,.int .u8 c] w λ_ v _=>∃u:ByteArray,v=.string u/\((u=s/\(s.size=0\/dO s (s.size-1)≠c))\/(u.size<s.size/\dO s (s.size-1)=c)):=by
 refine bZ func130 ntmps130 ?_;refine bX (λu:ByteArray=>u.size<=s.size/\(u=s\/(u.size<s.size/\dO s (s.size-1)=c))) (λu=>[(1,true,.int .u8 c),(0,true,.string u)]) (λ_=>Mem [(w,al)] []) (λu=>u.size) s ⟨aoL _,.inl rfl⟩ ?_ ⟨rfl,rfl,trivial⟩ cv
 rintro u ⟨hle,lz⟩;refine a8 (λh1=>?_) λh1=>?_
 ·simp only[aoo,an]at h1;have hb:dO u (u.size-1)=c:=by have:=h1.2;rw[show((u.size:Int)-1).toNat=u.size-1 by omega]at this;omega
  refine U ?_;refine dh (afg (s:=u) (l:=(u.size:Int)-1) (by omega) (by omega)) (ab:=U ?_);refine bm (u.extract 0 ((u.size:Int)-1).toNat) ⟨by rw[aqh];omega,.inr ⟨by rw[aqh];omega,?_⟩⟩ (by rw[aqh];omega) (hA:=cv);rcases lz with rfl | h
  ·exact hb
  exact h.2
 refine bf λI hw=>?_;refine⟨u,rfl,?_⟩;rcases lz with rfl | h
 ·refine .inl ⟨rfl,?_⟩;simp only[aoC,au]at h1;rcases h1 with h1 | h1
  ·exact .inl (by omega)
  by_cases h0:u.size=0
  ·exact .inl h0
  rw[show((u.size:Int)-1).toNat=u.size-1 by omega]at h1;exact .inr (by omega)
 exact .inr h
theorem ai5(s:ByteArray)(c:Nat)(w:World)(aj:s.size<=262144):bl prog 129 [.string s,.int .u8 c] w λ_ v _=>∃u:ByteArray,v=.string u/\((u=s/\(s.size=0\/dO s 0≠c))\/(u.size<s.size/\dO s 0=c)):=by
 refine bZ func129 ntmps129 ?_;refine bX (λu:ByteArray=>u.size<=s.size/\(u=s\/(u.size<s.size/\dO s 0=c))) (λu=>[(1,true,.int .u8 c),(0,true,.string u)]) (λ_=>Mem [(w,al)] []) (λu=>u.size) s ⟨aoL _,.inl rfl⟩ ?_ ⟨rfl,rfl,trivial⟩ cv
 rintro u ⟨hle,lz⟩;refine a8 (λh1=>?_) λh1=>?_
 ·simp only[aoo,an]at h1;have hb:dO u 0=c:=by have:((dO u 0:Nat):Int)=(c:Int):=h1.2;omega
  refine U ?_;refine dh (afh (s:=u) (l:=1) (by omega) (by omega)) (ab:=U ?_);refine bm (u.extract (1:Int).toNat u.size) ⟨by rw[aqh];omega,.inr ⟨by rw[aqh];omega,?_⟩⟩ (by rw[aqh];omega) (hA:=cv);rcases lz with rfl | h
  ·exact hb
  exact h.2
 refine bf λI hw=>?_;refine⟨u,rfl,?_⟩;rcases lz with rfl | h
 ·refine .inl ⟨rfl,?_⟩;simp only[aoC,au]at h1;rcases h1 with h1 | h1
  ·exact .inl (by omega)
  have h1:¬((dO u 0:Nat):Int)=(c:Int):=h1;exact .inr (by omega)
 exact .inr h
theorem aje(s:ByteArray)(w:World)(aj:s.size<=262144):bl prog 60 [.string s,.string ⟨#[32]⟩] w λ_ v _=>∃u:ByteArray,v=.string u/\decide (u=s)=ME s:=by
 have ej:(⟨#[32]⟩:ByteArray).size=1:=rfl;refine bZ func60 ntmps60 ?_;refine bC (λh1=>?_) λh1=>?_
 ·simp only[aox,an]at h1;have h0:s=ByteArray.empty:=h1.resolve_right (λh=>by have:=aoI ByteArray.size h;rw[ej]at this;cases this);refine bf λI hw=>?_;exact⟨s,rfl,by rw[h0];rfl⟩
 simp only[aoz,au]at h1;refine a8 (λh2=>?_) λh2=>?_
 ·refine U ?_;refine cz [0,1,2,4,5,3,6,7] mixed ?_;refine aN ?_;refine bO _ (h:=bp (λI hw=>arv s 32 I aj) ?_);rintro v bx bc ⟨u,rfl,hu⟩ cu;refine aF (aN ?_) cv;have JS:u.size<=262144:=by rcases hu with⟨rfl,_⟩ | ⟨h,_⟩<;>omega
  refine bO _ (h:=bp (λI hw=>ai5 u 32 I JS) ?_);rintro v ck bY ⟨rU,rfl,AI⟩ eZ;refine aF (aN ?_) cv;refine bf λI hw=>?_;refine⟨rU,rfl,?_⟩;have yV:s.size≠0:=λh=>h1.1 (by refine ByteArray.ext (Array.eq_empty_of_size_eq_zero h))
  unfold ME;rw[aoE yV,ap6];rcases hu with⟨rfl,hu⟩ | ⟨hu,aa6⟩
  ·rcases AI with⟨rfl,AI⟩ | ⟨AI,aa7⟩
   ·rw[aow rfl,aow (AI.resolve_left yV),aow (hu.resolve_left yV)];rfl
   rw[aoE (λe=>by rw[e]at AI;omega),aoE (p:=dO u 0≠32) λh=>h aa7];rfl
  have dq:rU.size<=u.size:=by rcases AI with⟨rfl,_⟩ | ⟨h,_⟩<;>omega
  rw[aoE (λe=>by rw[e]at dq;omega),aoE (p:=dO s (s.size-1)≠32) λh=>h aa6,apu]
 exfalso;have h3:bw (((⟨#[32]⟩:ByteArray).size:Int)=1)=true:=by rw[an];rfl
 have aA:bw (((dO ⟨#[32]⟩ 0:Nat):Int)<128)=true:=by rw[an];decide
 have h2:(bw (((⟨#[32]⟩:ByteArray).size:Int)=1)&&bw (((dO ⟨#[32]⟩ 0:Nat):Int)<128))=false:=h2;rw[h3,aA]at h2;cases h2
theorem YD(t:aV)(x:mu)(ah ad ao:Value)(vs:List Value)(w:World)(h:gW al w ah ad ao vs t):bl prog 139 [.agg (c6 t ah ad ao).toArray,.agg (o6 x).toArray] w λ_ v _=>v=.bool (tN t x):=by
 obtain⟨s1,s2,cJ⟩:=h.jY;have eA:=h.nX;have iv:=h.nA;have hle:=iv.le;refine bZ func139 ntmps139 ?_;refine b7 λaQ=>?_;refine b7 λcZ=>?_;unfold tN;refine bC (λh1=>?_) λh1=>?_
 ·rw[an]at h1;rw[aou h1];refine U ?_;refine aq (bp (λI hw=>Pc _ I) ?_);rintro v bx bc rfl cu;refine U ?_;refine e1 (h:=ev (bb:=λ_ I hw=>Pe _ I)) (ab:=U ?_);refine bT rfl (.t1 rfl) λI hw=>?_;rw[cd,cd];rfl
 rw[au]at h1;rw[aot h1];refine a8 (λh2=>?_) λh2=>?_
 ·simp only[aox,aoq,an,au]at h2;refine bf λI hw=>?_;have:(decide (0<=x.aH)&&decide (x.aH<t.code.length)&&decide (x.loc=bg))=false:=by
   rcases h2 with(h2 | h2) | h2
   ·rw[aoE (p:=0<=x.aH) (by omega)];rfl
   ·rw[aoE (p:=x.aH<t.code.length) (by omega)];simp
   rw[aoE (p:=x.loc=bg) h2];simp
  rw[this];rfl
 simp only[aoz,aos,an,au]at h2;rw[aow (show 0<=x.aH by omega),aow (show x.aH<t.code.length by omega),aow (show x.loc=bg from h2.2)];refine U ?_;refine ih (λs:Int×Int=>(s.1<=x.bo/\x.bo<=s.2↔(if t.aC=2 then decide (1<=x.bo)&&decide (x.bo<32)else nr x.bo)=true)) (λs=>[(6,true,.int .i64 s.2),(5,true,.int .i64 s.1),(3,true,av cZ)]) (λ_=>Mem [(w,al)] [.box cZ (o6 x) 72,.box aQ (c6 t ah ad ao) 32]) ?_ ?_
 ·refine bC (λh3=>?_) λh3=>?_
  ·rw[an]at h3;refine U ?_;exact b6 (1,31) (by dsimp only;rw[aou h3,aoo,aop,aop];omega)
  rw[au]at h3;refine U ?_;exact b6 (0,14) (by dsimp only;unfold nr;rw[aot h3,aoo,aop,aop];omega)
 rintro⟨lo,hi⟩ iq;dsimp only at iq⊢;refine a8 (λh3=>?_) λh3=>?_
 ·simp only[aox,an]at h3;refine bf λI hw=>?_;have hb:(if t.aC=2 then decide (1<=x.bo)&&decide (x.bo<32)else nr x.bo)=false:=aoW.2 λq=>by have:=iq.2 q;omega
  rw[hb];rfl
 simp only[aoz,au]at h3;rw[iq.1 (by omega)];refine U ?_;unfold lY;refine bC (λaA=>?_) λaA=>?_
 ·rw[aoq,au]at aA;rw[aot (show ¬x.value.loc=bg from aA)];refine U ?_;refine aq (bp (λI hw=>Pc _ I) ?_);rintro v bx bc rfl cu;refine bf λI hw=>?_;rw[cd];rfl
 rw[aos,an]at aA;rw[aou (show x.value.loc=bg from aA)];refine U ?_;refine aq (bp (λI hw=>Pe _ I) ?_);rintro v bx bc rfl cu;refine bf λI hw=>?_;rfl
theorem YL{l:List mu}{i:Nat}(hi:i<=l.length)(x:cK):(((fz ((List.range i).map λj=>(hv (l.getD j default),Value.int .i64 ((j:Int)+1))) x 0).map (·.2)).getD (.int .i64 0)=.int .i64 0/\∀j,j<i->¬x=hv (l.getD j default))\/ ∃j:Nat,j<i/\x=hv (l.getD j default)/\((fz ((List.range i).map λj=>(hv (l.getD j default),Value.int .i64 ((j:Int)+1))) x 0).map (·.2)).getD (.int .i64 0)=.int .i64 ((j:Int)+1):=by
 have key:∀(j9:List Nat) (q:Nat),(fz (j9.map λj=>(hv (l.getD j default),Value.int .i64 ((j:Int)+1))) x q=none/\∀j,j∈j9->¬x=hv (l.getD j default))\/ ∃j p,j∈j9/\x=hv (l.getD j default)/\fz (j9.map λj=>(hv (l.getD j default),Value.int .i64 ((j:Int)+1))) x q=some (p,.int .i64 ((j:Int)+1)):=by
  intro j9
  induction j9 with
  | nil=>intro q;exact .inl ⟨rfl,λ_ h=>(by cases h)⟩
  | cons j j9 bP=>
   intro q;by_cases e:x=hv (l.getD j default)
   ·exact .inr ⟨j,q,.head _,e,by rw[apg];unfold fz;rw[aou e]⟩
   rcases bP (q+1)with⟨h1,h2⟩ | ⟨xM,p,h1,h2,h3⟩
   ·refine .inl ⟨by rw[apg];unfold fz;rw[aot e];exact h1,λxM qM=>?_⟩;rcases aoO.1 qM with rfl | qM
    ·exact e
    exact h2 xM qM
   exact .inr ⟨xM,p,.tail _ h1,h2,by rw[apg];unfold fz;rw[aot e];exact h3⟩
 rcases key (List.range i) 0 with⟨h1,h2⟩ | ⟨j,p,h1,h2,h3⟩
 ·exact .inl ⟨by rw[h1];rfl,λj ae=>h2 j (aoQ.2 ae)⟩
 exact .inr ⟨j,aoQ.1 h1,h2,by rw[h3];rfl⟩
theorem ajo{l:List mu}{i:Nat}(v:Value)(eD:∀j,j<i->¬hv (l.getD i default)=hv (l.getD j default))(ax:v=.int .i64 ((i:Int)+1)):sS ((List.range i).map λj=>(hv (l.getD j default),Value.int .i64 ((j:Int)+1))) (hv (l.getD i default)) v=(List.range (i+1)).map λj=>(hv (l.getD j default),Value.int .i64 ((j:Int)+1)):=by
 have key:∀(j9:List Nat) (q:Nat),(∀j,j∈j9->¬hv (l.getD i default)=hv (l.getD j default))->fz (j9.map λj=>(hv (l.getD j default),Value.int .i64 ((j:Int)+1))) (hv (l.getD i default)) q=none:=by
  intro j9
  induction j9 with
  | nil=>intro q _;rfl
  | cons j j9 bP=>intro q h;rw[apg];unfold fz;rw[aot (h j aP)];exact bP _ λxM qM=>h xM (.tail _ qM)
 unfold sS;rw[key _ 0 λj ae=>eD j (aoQ.1 ae),ape,apm,ax];rfl
theorem F3{t:aV}{i:Nat}:tM t i=true↔tN t (t.init.getD i default)=true/\∀k,k<i->¬hv (t.init.getD i default)=hv (t.init.getD k default):=by unfold tM;rw[aoo,fT];simp only[T9,aoq,aoA]
theorem YB(t:aV)(ah ad ao:Value)(vs:List Value)(w:World)(h:gW al w ah ad ao vs t):bl prog 62 [.agg (c6 t ah ad ao).toArray] w λ_ v _=>v=.int .i64 (wu t):=by
 obtain⟨s1,s2,cJ⟩:=h.jY;have fs:=h.init;have hle:=fs.le;refine bZ func62 ntmps62 ?_;refine b7 λaQ=>?_;unfold wu;refine bC (λh1=>?_) λh1=>?_
 ·rw[an]at h1;refine bf λI hw=>?_;rw[aou (by omega)];rfl
 rw[au]at h1;rw[aot (by omega)];refine U ?_;refine aq (PA (fI:=tj) (ab:=λr=>U ?_));refine bX (λi:Nat=>i<=t.init.length/\∀j,j<i->tM t j=true) (λi=>[(15,true,.int .i64 i),(14,true,.int .i64 t.init.length),(13,true,ah),(3,true,.map (some r)),(1,true,av aQ)]) (λi=>Mem [(w,al)] [qj tj r ((List.range i).map λj=>(hv (t.init.getD j default),Value.int .i64 ((j:Int)+1))),.box aQ (c6 t ah ad ao) 32]) (λi=>t.init.length-i) 0 ⟨aoD _,λj ae=>by omega⟩ ?_
 rintro i ⟨hi,bG⟩;refine a8 (λh2=>?_) λh2=>?_
 ·have bq:i<t.init.length:=by rw[an]at h2;omega
  refine U ?_;refine cH λcZ=>?_;refine bN 0 ?_;refine cH λeQ=>?_;refine bN 0 ?_;obtain⟨m,hm,lz⟩:∃m:Int,((fz ((List.range i).map λj=>(hv (t.init.getD j default),Value.int .i64 ((j:Int)+1))) (hv (t.init.getD i default)) 0).map (·.2)).getD (.int .i64 0)=.int .i64 m/\ ((m=0/\∀j,j<i->¬hv (t.init.getD i default)=hv (t.init.getD j default))\/(0<m/\∃j,j<i/\hv (t.init.getD i default)=hv (t.init.getD j default))):=by
   rcases YL hi (hv (t.init.getD i default))with⟨e,eD⟩ | ⟨j,h1,h2,e⟩
   ·exact⟨0,e,.inl ⟨rfl,eD⟩⟩
   exact⟨_,e,.inr ⟨by omega,j,h1,h2⟩⟩
  refine dh (om (Ti (fI:=tj) (x:=hv (t.init.getD i default)) (l:=(List.range i).map λj=>(hv (t.init.getD j default),Value.int .i64 ((j:Int)+1))) (hmem:=hy)) hm) (ab:=U ?_);refine e1 (h:=ev (bb:=λ_ I hw=>YD t (t.init.getD i default) ah ad ao vs I (h.now hw))) (ab:=U ?_);refine bC (λh3=>?_) λh3=>?_
  ·simp only[aox,aoq,an]at h3;refine bf λI hw=>?_;have:tM t i=false:=by
    rw[aoW,ne_eq,F3];rintro⟨cB,bz⟩;rcases h3 with h3 | h3
    ·rcases lz with⟨q,_⟩ | ⟨_,j,ae,e⟩
     ·omega
     exact bz j ae e
    rw[cB]at h3;cases h3
   rw[hQ bq this];rfl
  simp only[aoz,aos,au]at h3;have eD:=(lz.resolve_right λq=>h3.1 q.1).2;refine U ?_;refine aq (PB (fI:=tj) (x:=hv (t.init.getD i default)) (i:=2) (.inl rfl) (hi:=rfl) (ab:=U ?_));refine bm (i+1) ⟨by omega,jl bG (F3.2 ⟨h3.2,eD⟩)⟩ (by omega) (hA:=λ_ h=>?_);have:=h.cC [2,3] (es:=[qj tj r (sS ((List.range i).map λj=>(hv (t.init.getD j default),Value.int .i64 ((j:Int)+1))) (hv (t.init.getD i default)) (.int .i64 ((i:Int)+1))),.box aQ (c6 t ah ad ao) 32]) rfl (by decide);rw[ajo _ eD rfl]at this;exact this
 have bq:i=t.init.length:=by rw[au]at h2;omega
 refine bf λI hw=>?_;rw[aou (fT.2 λj ae=>bG j (by omega))];rfl
end Go.Proofs.bA
namespace Go.bM
theorem wy{code:List Instr}{s:ByteArray}{k j:Nat}:lC code s k=some j↔k<=j/\j<code.length/\ko s (code.getD j default)=true/\∀q,k<=q->q<j->ko s (code.getD q default)=false:=by
 have hp:((List.range code.length).filter λj=>decide (k<=j)&&ko s (code.getD j default)).Pairwise (· <·):=apL _ aq6;have hm:∀q,q∈((List.range code.length).filter λj=>decide (k<=j)&&ko s (code.getD j default))↔k<=q/\q<code.length/\ko s (code.getD q default)=true:=λq=>by rw[apd,aoQ,aoo,aop];exact⟨λ⟨a,b,c⟩=>⟨b,a,c⟩,λ⟨a,b,c⟩=>⟨b,a,c⟩⟩
 unfold lC;revert hp hm;generalize(List.range code.length).filter _=l;intro hp hm;cases l with
 | nil=>
  constructor
  ·intro h;cases h
  rintro⟨h1,h2,h3,_⟩;exact absurd ((hm j).2 ⟨h1,h2,h3⟩) (by simp)
 | cons a r=>
  rw[apa]at hp;simp only[List.head?_cons,aqj];constructor
  ·rintro rfl;obtain⟨h1,h2,h3⟩:=(hm a).1 aP;refine⟨h1,h2,h3,λq ba alI=>?_⟩;apply ao0;intro bd;have:q∈a::r:=(hm q).2 ⟨ba,by omega,by cases hb:ko s (code.getD q default);exact absurd hb bd;rfl⟩;rcases aoO.1 this with e | e
   ·omega
   have:=hp.1 q e;omega
  rintro⟨h1,h2,h3,aA⟩;obtain⟨g1,g2,g3⟩:=(hm a).1 aP;rcases aoO.1 ((hm j).2 ⟨h1,h2,h3⟩)with e | e
  ·exact e.symm
  have:=hp.1 j e;rw[aA a g1 this]at g3;cases g3
theorem xN{code:List Instr}{s:ByteArray}{k:Nat}:lC code s k=none↔∀q,k<=q->q<code.length->ko s (code.getD q default)=false:=by unfold lC;rw[List.head?_eq_none_iff,apU];simp only[aoQ,aoo,aop,not_and,apS];exact⟨λh q a b=>h q b a,λh q a b=>h q b a⟩
theorem Rk{code:List Instr}{s:ByteArray}{k:Nat}(hk:k<code.length):lC code s k=if ko s (code.getD k default)=true then some k else lC code s (k+1):=by
 split
 ·rename_i h;exact wy.2 ⟨aoL _,hk,h,λq a b=>by omega⟩
 rename_i h;have h:=aoW.2 h;cases aL:lC code s (k+1)with
 | none=>
  rw[xN]at aL⊢;intro q a b;by_cases e:q=k
  ·rw[e];exact h
  exact aL q (by omega) b
 | some j=>
  rw[wy]at aL⊢;refine⟨by omega,aL.2.1,aL.2.2.1,λq a b=>?_⟩;by_cases e:q=k
  ·rw[e];exact h
  exact aL.2.2.2 q (by omega) b
def zd(code:List Instr)(k:Nat):Int:=if(code.getD k default).op=11 then match lC code (code.getD k default).label (k+1)with | some j=>(j:Int) | none=> -1 else -1
theorem acD{code:List Instr}:(List.range code.length).all (kX code)=true↔∀k,k<code.length->kX code k=true:=fT
theorem Rx{code:List Instr}(h:∀k,k<code.length->kX code k=true){k:Nat}(hk:k<code.length):zd code k=mM code k:=by
 have l9:=h k hk;unfold zd mM;split
 ·rename_i bn;unfold kX at l9;rw[aot (by omega),aou bn]at l9;obtain⟨j,ae⟩:=apf.1 l9;rw[ae];obtain⟨_,h2,h3,_⟩:=wy.1 ae;unfold ko at h3;rw[aoo,aop,aop]at h3;have aA:=h j h2;unfold kX at aA;rw[aou h3.1,h3.2,ap7]at aA;rw[aA]
 rfl
theorem Dg(a b:Instr):(bw (a.op=12)&&bw (a.label=b.label))=ko b.label a:=by unfold ko;rw[cd,cd]
theorem Kw{code:List Instr}(h1:¬256<code.length)(h2:∀i,i<code.length->kW (code.getD i default)=true)(h3:∀k,k<code.length->kX code k=true):lQ code=0:=by unfold lQ;rw[aot h1,aou (apt.2 λx hx=>by obtain⟨i,hi,rfl⟩:=pj hx;exact h2 i hi),aou (fT.2 h3)]
theorem Ry{code:List Instr}{i:Nat}(h1:¬256<code.length)(hi:i<code.length)(h:kW (code.getD i default)=false):lQ code=91:=by unfold lQ;rw[aot h1,aot λq=>by rw[apt.1 q _ (eN hi)]at h;cases h]
theorem F5{code:List Instr}{k:Nat}(h1:¬256<code.length)(h2:∀i,i<code.length->kW (code.getD i default)=true)(hk:k<code.length)(h:kX code k=false):lQ code=93:=by unfold lQ;rw[aot h1,aou (apt.2 λx hx=>by obtain⟨i,hi,rfl⟩:=pj hx;exact h2 i hi),aot λq=>by rw[fT.1 q k hk]at h;cases h]
end Go.bM
namespace Go.Proofs.bA
def Hr(code:List Instr):Nat->Value->World->Prop:=λn v I=>∃(ak:Value) (k:Int),aD ak/\v=.tuple #[ak,.int .i64 (lQ code),.int .i64 k]/\(lQ code=0->aZ (Fr n) I a7 1 ak (qT code))
theorem xO{code:List Instr}{n:Nat}{I:World}{v:Value}{e k:Int}(he:lQ code=e)(h0:e≠0)(ax:v=.tuple #[aa,.int .i64 e,.int .i64 k]):Hr code n v I:=⟨aa,k,cU,by rw[he];exact ax,λh=>absurd (he.symm.trans h) h0⟩
theorem Ta(ad:Value)(code:List Instr)(w:World)(ai:aZ al w cL 8 ad code):bl prog 118 [ad] w (Hr code):=by
 have hle:=ai.le;refine bZ func118 ntmps118 ?_;refine bC (λh1=>?_) λh1=>?_
 ·rw[an]at h1;refine U ?_;refine bT rfl (.tmp rfl (.tmp rfl (.t1 rfl))) λI hw=>?_;exact xO (e:=2) (by unfold lQ;rw[aou (by omega)]) (by decide) rfl
 rw[au]at h1;have h1:¬256<code.length:=by omega
 refine U ?_;refine bX (λi:Nat=>i<=code.length/\∀j,j<i->kW (code.getD j default)=true) (λi=>[(6,true,.int .i64 i),(5,true,aa),(0,true,ad)]) (λ_=>Mem [(w,al)] []) (λi=>code.length-i) 0 ⟨aoD _,λj ae=>by omega⟩ ?_ ⟨rfl,rfl,rfl,trivial⟩ cv
 rintro i ⟨hi,bG⟩;refine a8 (λh2=>?_) λh2=>?_
 ·have bq:i<code.length:=by rw[an]at h2;omega
  refine U ?_;refine aq (bp (λI hw=>S9 (code.getD i default) I) ?_);rintro v bx bc rfl cu;refine a8 (λh3=>?_) λh3=>?_
  ·rw[aoq,au]at h3;have h3:kW (code.getD i default)=false:=aoW.2 λq=>h3 (by rw[aou q]);refine U ?_;refine bT rfl (.tmp rfl (.tmp rfl (.t1 rfl))) λI hw=>?_;exact xO (Ry h1 bq h3) (by decide) rfl
  rw[aos,an]at h3;have h3:kW (code.getD i default)=true:=by
   cases hb:kW (code.getD i default)
   ·rw[hb]at h3;cases h3
   rfl
  refine U ?_;exact bm (i+1) ⟨by omega,jl bG h3⟩ (by omega) (hA:=cv)
 have yJ:∀j,j<code.length->kW (code.getD j default)=true:=λj ae=>bG j (by rw[au]at h2;omega);refine U ?_;refine ea 3 1 a7 ?_;refine bX (λs:Nat×Value×List Int=>s.1<=code.length/\aD s.2.1/\(∀j,j<s.1->kX code j=true)/\s.2.2=(List.range s.1).map (zd code)) (λs=>[(8,true,.int .i64 s.1),(7,true,s.2.1),(5,true,aa),(0,true,ad)]) (λs=>Mem [(w,al)] [.own s.2.1 3 1 a7 s.2.2]) (λs=>code.length-s.1) (0,aa,[]) ⟨aoD _,cU,λj ae=>by omega,rfl⟩ ?_
 rintro⟨i,b8,out⟩ ⟨hi,mb,pc,hh⟩;dsimp only at hi mb pc hh⊢;have tC:out.length=i:=by rw[hh];simp
 refine a8 (λaA=>?_) λaA=>?_
 ·have da:i<code.length:=by rw[an]at aA;omega
  refine U ?_;refine ih (λ_:Unit=>(code.getD i default).op=12->kX code i=true) (λ_=>[(9,true,.int .i64 (-1)),(8,true,.int .i64 i),(7,true,b8),(5,true,aa),(0,true,ad)]) (λ_=>Mem [(w,al)] [.own b8 3 1 a7 out]) ?_ ?_
  ·refine bC (λa6=>?_) λa6=>?_
   ·rw[an]at a6;refine U ?_;refine bX (λk:Nat=>k<=i/\∀q,q<k->ko (code.getD i default).label (code.getD q default)=false) (λk=>[(10,true,.int .i64 k),(9,true,.int .i64 (-1)),(8,true,.int .i64 i),(7,true,b8),(5,true,aa),(0,true,ad)]) (λ_=>Mem [(w,al)] [.own b8 3 1 a7 out]) (λk=>i-k) 0 ⟨aoD _,λj ae=>by omega⟩ ?_
    rintro k ⟨hk,eD⟩;refine a8 (λcE=>?_) λcE=>?_
    ·have qJ:k<i:=by rw[an]at cE;omega
     refine U ?_;refine cz [0,1,2,3,4,5,6,7,8,9,10,11,12,13,14,15,16,17,18] mixed ?_;refine aN ?_;refine a8 (λdL=>?_) λdL=>?_
     ·have dL:=(Dg (code.getD k default) (code.getD i default)).symm.trans dL;refine U ?_;refine bT rfl (.tmp rfl (.tmp rfl (.t1 rfl))) λI hw=>?_;refine xO (F5 h1 yJ da ?_) (by decide) rfl;unfold kX;rw[aou a6,aoW,ne_eq,ap7,wy];rintro⟨_,_,_,q⟩;rw[q k (aoD _) qJ]at dL;cases dL
     have dL:=(Dg (code.getD k default) (code.getD i default)).symm.trans dL;refine U ?_;exact bm (k+1) ⟨by omega,λq ba=>by
      by_cases e:q<k
      ·exact eD q e
      rw[show q=k by omega];exact dL⟩ (by omega) ⟨rfl,rfl,rfl,rfl,rfl,rfl,trivial⟩ λ_ h=>h
    have qJ:k=i:=by rw[au]at cE;omega
    refine U ?_;refine b6 () λ_=>?_;unfold kX;rw[aou a6,ap7,wy];exact⟨aoD _,da,by unfold ko;rw[aow a6,aow rfl];rfl,λq _ ba=>eD q (by omega)⟩
   rw[au]at a6;refine U ?_;exact b6 () λq=>absurd q a6
  rintro _ aaj;refine U ?_;refine ih (λa:Int=>a=zd code i/\kX code i=true) (λa=>[(9,true,.int .i64 a),(8,true,.int .i64 i),(7,true,b8),(5,true,aa),(0,true,ad)]) (λ_=>Mem [(w,al)] [.own b8 3 1 a7 out]) ?_ ?_
  ·refine bC (λa6=>?_) λa6=>?_
   ·rw[an]at a6;refine U ?_;refine bX (λs:Nat×Int=>i+1<=s.1/\s.1<=code.length/\((s.2= -1/\∀q,i+1<=q->q<s.1->ko (code.getD i default).label (code.getD q default)=false)\/∃j:Nat,s.2=j/\lC code (code.getD i default).label (i+1)=some j)) (λs=>[(11,true,.int .i64 s.1),(9,true,.int .i64 s.2),(8,true,.int .i64 i),(7,true,b8),(5,true,aa),(0,true,ad)]) (λ_=>Mem [(w,al)] [.own b8 3 1 a7 out]) (λs=>code.length-s.1) (i+1,-1) ⟨aoL _,by dsimp only;omega,.inl ⟨rfl,λq a b=>by dsimp only at b;omega⟩⟩ ?_
    rintro⟨k,a⟩ ⟨Fm,hk,lz⟩;dsimp only at Fm hk lz⊢;refine a8 (λhR=>?_) λhR=>?_
    ·rw[aoo,an,an]at hR;have Y8:k<code.length:=by omega
     have eD:=lz.resolve_right (λ⟨j,e,_⟩=>by omega);refine U ?_;refine cz [0,1,2,3,4,5,6,7,8,9,10,11,12,13,14,15,16,17,18] mixed ?_;refine aN ?_;refine a8 (λn3=>?_) λn3=>?_
     ·have n3:=(Dg (code.getD k default) (code.getD i default)).symm.trans n3;refine U ?_;exact bm (k+1,(k:Int)) ⟨by dsimp only;omega,by dsimp only;omega,.inr ⟨k,rfl,wy.2 ⟨Fm,Y8,n3,eD.2⟩⟩⟩ (by dsimp only;omega)
     have n3:=(Dg (code.getD k default) (code.getD i default)).symm.trans n3;refine U ?_;exact bm (k+1,a) ⟨by dsimp only;omega,by dsimp only;omega,.inl ⟨eD.1,λq h1 h2=>by
      by_cases e:q<k
      ·exact eD.2 q h1 e
      dsimp only at h2;rw[show q=k by omega];exact n3⟩⟩ (by dsimp only;omega) ⟨rfl,rfl,rfl,rfl,rfl,rfl,trivial⟩ λ_ h=>h
    refine a8 (λp7=>?_) λp7=>?_
    ·rw[an]at p7;have eD:=lz.resolve_right (λ⟨j,e,_⟩=>by omega);rw[aoC,au,au]at hR;have fk:k=code.length:=by omega
     refine U ?_;refine bT rfl (.tmp rfl (.tmp rfl (.t1 rfl))) λI hw=>?_;refine xO (F5 h1 yJ da ?_) (by decide) rfl;unfold kX;rw[aot (by omega),aou a6,xN.2 λq a b=>eD.2 q a (by omega)];rfl
    rw[au]at p7;obtain⟨j,e,ae⟩:=lz.resolve_left (λq=>by omega);refine U ?_;refine b6 a ⟨?_,?_⟩
    ·unfold zd;rw[aou a6,ae,e]
    unfold kX;rw[aot (by omega),aou a6,ae];rfl
   rw[au]at a6;refine U ?_;refine b6 (-1) ⟨?_,?_⟩
   ·unfold zd;rw[aot a6]
   by_cases q:(code.getD i default).op=12
   ·exact aaj q
   unfold kX;rw[aot q,aot a6]
  rintro a ⟨ay,p9⟩;refine U ?_;refine aq (eI (ab:=λanJ al0=>U ?_));refine aq (e6 1 (hk:=rfl) (bH:=by simp;omega) (ab:=λaju aba=>U ?_));exact bm (i+1,aju,out++[a]) ⟨by dsimp only;omega,aba,jl pc p9,by dsimp only;rw[ape,apm,hh,ay];rfl⟩ (by dsimp only;omega) (hA:=b4 [1])
 have da:i=code.length:=by rw[au]at aA;omega
 refine U ?_;refine bT rfl (.tmp rfl (.tmp rfl (.t1 rfl))) λI hw=>?_;have a1:=Kw h1 yJ λk hk=>pc k (by omega);refine⟨b8,0,mb,by rw[a1];rfl,λ_=>?_⟩;rw[show qT code=out from by rw[hh,da];unfold qT;exact apP λk hk=>(Rx (λk hk=>pc k (by omega)) (aoQ.1 hk)).symm]
 exact hw.im aP aP
end Go.Proofs.bA
