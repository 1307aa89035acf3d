/- Lemmas for the law WholeComplete. -/
import Derived.Test.YtiknadellddjhaaGreatDoorC16
set_option linter.all false
open Go.Proofs.Tryz
set_option maxHeartbeats 6400000
open Go Go.b9 Go.bM
attribute [local irreducible] Go.wpList Go.Code.wp Go.bodyPost Go.Exit.then Go.Exit.inBlock Go.Calls
namespace Go.bM
theorem YK{ga:Type}[DecidableEq ga](l:List (ga×Value))(x y:ga)(v:Value):(fz (sS l x v) y 0).map (·.2)=if y=x then some v else(fz l y 0).map (·.2):=by
 have key:∀(l:List (ga×Value)) (i j:Nat),(fz l y i).map (·.2)=(fz l y j).map (·.2):=by
  intro l
  induction l with
  | nil=>intro i j;rfl
  | cons p r bP=>intro i j;unfold fz;split;rfl;exact bP _ _
 have main:∀(l:List (ga×Value)) (i:Nat),(match fz l x i with | some (j,_)=>(fz (l.modify (j-i) λ_=>(x,v)) y 0).map (·.2)=if y=x then some v else(fz l y 0).map (·.2) | none=>(fz (l++[(x,v)]) y 0).map (·.2)=if y=x then some v else(fz l y 0).map (·.2)):=by
  intro l
  induction l with
  | nil=>intro i;simp only[fz,apb];split<;>rfl
  | cons p r bP=>
   intro i;by_cases e:x=p.1
   ·rw[show fz (p::r) x i=some (i,p.2) by unfold fz;rw[aou e]];dsimp only;rw[ap0];show(fz ((x,v)::r) y 0).map (·.2)=_;unfold fz;dsimp only;rw[<-e];split<;>rfl
   have aj:fz (p::r) x i=fz r x (i+1):=by conv=>lhs;unfold fz;rw[aot e]
   rw[aj];have:=bP (i+1);cases hf:fz r x (i+1)with
   | none=>
    rw[hf]at this;dsimp only at this⊢;show(fz (p::(r++[(x,v)])) y 0).map (·.2)=_;unfold fz;by_cases q:y=p.1
    ·rw[aou q,aou q,aot λh=>e (h.symm.trans q)]
    rw[aot q,aot q,key _ 1 0,this,key r 1 0]
   | some w=>
    obtain⟨j,u⟩:=w;have ae:=(EP hf).1;rw[hf]at this;dsimp only at this⊢;rw[show j-i=(j-(i+1))+1 by omega];show(fz (p::r.modify (j-(i+1)) λ_=>(x,v)) y 0).map (·.2)=_;unfold fz;by_cases q:y=p.1
    ·rw[aou q,aou q,aot λh=>e (h.symm.trans q)]
    rw[aot q,aot q,key _ 1 0,this,key r 1 0]
 have:=main l 0;unfold sS;cases hf:fz l x 0 with
 | none=>rw[hf]at this;exact this
 | some w=>obtain⟨j,u⟩:=w;rw[hf]at this;exact this
theorem abM{l m:List Int}(aL:l.length=m.length)(h:∀i,i<l.length->l.getD i default=m.getD i default):l=m:=by refine apq aL λi h1 h2=>?_;have:=h i h1;rwa[aor,aor,aov h1,aov h2]at this
def ue(code:List Instr)(l:List (ByteArray×Value))(k:Nat):Prop:=∀s,(fz l s 0).map (·.2)=(lC code s k).map λ(j:Nat)=>Value.int .i64 (j:Int)
theorem ue.put{code:List Instr}{l:List (ByteArray×Value)}{k:Nat}(h:ue code l (k+1))(hk:k<code.length)(bn:(code.getD k default).op=12):ue code (sS l (code.getD k default).label (.int .i64 (k:Int))) k:=λs=>by
 rw[YK,Rk hk];unfold ko;rw[aow bn,apE];by_cases e:s=(code.getD k default).label
 ·rw[aou e,aou (aow e.symm)];rfl
 rw[aot e,aot λq=>e (aqn q).symm];exact h s
theorem ue.skip{code:List Instr}{l:List (ByteArray×Value)}{k:Nat}(h:ue code l (k+1))(hk:k<code.length)(bn:¬(code.getD k default).op=12):ue code l k:=λs=>by rw[Rk hk];unfold ko;rw[aoE bn,apy,aot (by simp)];exact h s
theorem ue.Yg(code:List Instr):ue code [] code.length:=λs=>by rw[xN.2 λq a b=>by omega];rfl
theorem HE{code:List Instr}{s:ByteArray}{k:Nat}:((code.drop k).any (ko s))=(lC code s k).isSome:=by
 cases h:lC code s k with
 | none=>rw[xN]at h;rw[Option.isSome_none,aqp];intro x hx;obtain⟨i,hi,rfl⟩:=pj hx;rw[apG]at hi;have:=h (k+i) (by omega) (by omega);rw[aor]at this⊢;rw[apW,this];simp
 | some j=>rw[wy]at h;rw[Option.isSome_some,apH];refine⟨code.getD j default,?_,h.2.2.1⟩;refine aoM (i:=j-k) ?_;rw[apW,show k+(j-k)=j by omega];exact getD_some h.2.1
end Go.bM
namespace Go.Proofs.bA
theorem ab0(c5:Nat)[aS prog c5](cap:List Value)(p:Instr->Bool)(aK:Value)(xs:List Instr)(w:World)(aj:aZ al w cL 8 aK xs) (hf:∀i I,i<xs.length->Mem [(w,al)] [] I->bl prog c5 ([.agg (cL (xs.getD i default)).toArray]++cap) I λ_ v _=>v=.bool (p (xs.getD i default))): bl prog 298 [aK,.func (.func c5) #[] cap.toArray] w λ_ v _=>∃n:Int,v=.int .i64 n/\decide (0<=n)=xs.any p:=by
 have hle:=aj.le;refine bZ func298 ntmps298 ?_;refine bX (λi:Nat=>i<=xs.length/\∀j,j<i->p (xs.getD j default)=false) (λi=>[(8,true,.int .i64 i),(7,true,.int .i64 xs.length),(1,true,.func (.func c5) #[] cap.toArray),(0,true,aK)]) (λ_=>Mem [(w,al)] []) (λi=>xs.length-i) 0 ⟨aoD _,λj ae=>by omega⟩ ?_ ⟨rfl,rfl,rfl,rfl,trivial⟩ cv
 rintro i ⟨hi,bG⟩;refine a8 (λh1=>?_) λh1=>?_
 ·have bU:i<xs.length:=by rw[an]at h1;omega
  refine U ?_;refine aq (bp (λI hw=>hf i I bU hw) ?_);rintro v bx bc rfl cu;refine a8 (λh2=>?_) λh2=>?_
  ·refine bf λI hw=>?_;exact⟨i,rfl,by rw[aow (by omega)];exact(apH.2 ⟨_,eN bU,h2⟩).symm⟩
  refine U ?_;exact bm (i+1) ⟨by omega,λj ae=>by
   by_cases e:j<i
   ·exact bG j e
   rw[show j=i by omega];exact h2⟩ (by omega) ⟨rfl,rfl,rfl,rfl,trivial⟩ cv
 refine bf λI hw=>?_;refine⟨-1,rfl,?_⟩;rw[aoE (by omega)];refine(aqp.2 λx hx=>?_).symm;obtain⟨j,ae,rfl⟩:=pj hx;rw[bG j (by rw[au]at h1;omega)];simp
theorem Xs(c5:Nat)[aS prog c5](cap:List Value)(p:Instr->Bool)(aK:Value)(xs:List Instr)(w:World)(aj:aZ al w cL 8 aK xs) (hf:∀i I,i<xs.length->Mem [(w,al)] [] I->bl prog c5 ([.agg (cL (xs.getD i default)).toArray]++cap) I λ_ v _=>v=.bool (p (xs.getD i default))): bl prog 226 [aK,.func (.func c5) #[] cap.toArray] w λ_ v _=>v=.bool (xs.any p):=by refine bZ func226 ntmps226 ?_;refine aq (bp (λI hw=>ab0 c5 cap p aK xs I (hw.now aj) λi bY hi ht=>hf i bY hi (KM hw ht (Dj bY))) ?_);rintro v bx bc ⟨n,rfl,bd⟩ cu;refine bf λI hw=>?_;rw[cd,<-bd];rfl
theorem ag8(i j:Instr)(bi:Nat)(w:World)(hb:gQ al w bi (cL i)):bl prog 227 [.agg (cL j).toArray,av bi] w λ_ v _=>v=.bool (ko i.label j):=by refine bZ func227 ntmps227 ?_;refine b7 λdC=>?_;refine bT rfl (.t1 rfl) λI hw=>?_;exact aoI Value.bool (Dg j i)
theorem T5(ad:Value)(code:List Instr)(w:World)(ai:aZ al w cL 8 ad code):bl prog 138 [ad] w (Hr code):=by
 have hle:=ai.le;refine bZ func138 ntmps138 ?_;refine bC (λh1=>?_) λh1=>?_
 ·rw[an]at h1;refine U ?_;refine bT rfl (.tmp rfl (.tmp rfl (.t1 rfl))) λI hw=>?_;exact xO (e:=2) (by unfold lQ;rw[aou (by omega)]) (by decide) rfl
 rw[au]at h1;have h1:¬256<code.length:=by omega
 refine U ?_;refine aq (PA (fI:=Value.string) (ab:=λr=>U ?_));refine aq (gC _ _ _ _ _ _ (ab:=λv20 AJ=>U ?_));refine bX (λs:Nat×List Int=>s.1<=code.length/\s.2.length=code.length/\(∀j,j<s.1->kW (code.getD j default)=true)/\∀j,j<s.1->s.2.getD j default= -1) (λs=>[(23,true,.int .i64 s.1),(22,true,.int .i64 code.length),(21,true,ad),(6,true,v20),(5,true,.map (some r)),(0,true,ad)]) (λs=>Mem [(w,al)] [.own v20 3 1 a7 s.2,qj Value.string r []]) (λs=>code.length-s.1) (0,List.replicate code.length 0) ⟨aoD _,aoX,λj ae=>by omega,λj ae=>by omega⟩ ?_
 rintro⟨i,out⟩ ⟨hi,tC,bG,qN⟩;dsimp only at hi tC bG qN⊢;refine a8 (λh2=>?_) λh2=>?_
 ·have bq:i<code.length:=by rw[an]at h2;omega
  refine U ?_;refine cH λbi=>?_;refine bN 0 ?_;refine aq (bp (λI hw=>T4 (code.getD i default) I) ?_);rintro v bx bc rfl cu;refine a8 (λh3=>?_) λh3=>?_
  ·rw[aoq,au]at h3;have h3:kW (code.getD i default)=false:=aoW.2 λq=>h3 (by rw[aou q]);refine U ?_;refine bT rfl (.tmp rfl (.tmp rfl (.t1 rfl))) λI hw=>?_;exact xO (Ry h1 bq h3) (by decide) rfl
  rw[aos,an]at h3;have h3:kW (code.getD i default)=true:=by
   cases hb:kW (code.getD i default)
   ·rw[hb]at h3;cases h3
   rfl
  refine U ?_;refine aq (fq 1 rfl (-1:Int) (ab:=U ?_));refine bm (i+1,out.set i (-1)) ⟨by dsimp only;omega,by dsimp only;rw[aoU];exact tC,jl bG h3,λj ae=>?_⟩ (by dsimp only;omega) (hA:=bD [1,2]);dsimp only at ae⊢;rw[fU];split
  ·rfl
  exact qN j (by omega)
 have yJ:∀j,j<code.length->kW (code.getD j default)=true:=λj ae=>bG j (by rw[au]at h2;omega);have hm:∀j,j<code.length->out.getD j default= -1:=λj ae=>qN j (by rw[au]at h2;omega);refine U ?_;refine bX (λs:Nat×List (ByteArray×Value)=>s.1<=code.length/\ue code s.2 s.1) (λs=>[(9,true,.int .i64 ((s.1:Int)-1)),(6,true,v20),(5,true,.map (some r)),(0,true,ad)]) (λs=>Mem [(w,al)] [.own v20 3 1 a7 out,qj Value.string r s.2]) (λs=>s.1) (code.length,[]) ⟨aoL _,ue.Yg code⟩ ?_
 rintro⟨k,l⟩ ⟨hk,aL⟩;dsimp only at hk aL⊢;refine a8 (λaA=>?_) λaA=>?_
 ·rw[an]at aA;obtain⟨k,rfl⟩:∃c4,k=c4+1:=⟨k-1,by omega⟩;have bu:(((k+1:Nat):Int)-1)=(k:Int):=by omega
  rw[bu];have fk:k<code.length:=by omega
  refine a8 (λa6=>?_) λa6=>?_
  ·rw[an]at a6;refine U ?_;refine aq (PB (fI:=Value.string) (x:=(code.getD k default).label) (i:=1) (.inl rfl) (hi:=rfl) (ab:=U ?_));exact bm (k,sS l (code.getD k default).label (.int .i64 (k:Int))) ⟨by dsimp only;omega,aL.put fk a6⟩ (by dsimp only;omega)
  rw[au]at a6;refine U ?_;exact bm (k,l) ⟨by dsimp only;omega,aL.skip fk a6⟩ (by dsimp only;omega)
 rw[au]at aA;obtain rfl:k=0:=by omega
 refine U ?_;refine bX (λs:Nat×List Int=>s.1<=code.length/\s.2.length=code.length/\(∀j,j<s.1->kX code j=true)/\∀j,j<code.length->s.2.getD j default=if j<s.1 then mM code j else -1) (λs=>[(58,true,.int .i64 s.1),(57,true,.int .i64 code.length),(56,true,ad),(6,true,v20),(5,true,.map (some r)),(0,true,ad)]) (λs=>Mem [(w,al)] [.own v20 3 1 a7 s.2,qj Value.string r l]) (λs=>code.length-s.1) (0,out) ⟨aoD _,tC,λj ae=>by omega,λj ae=>by rw[aot (by dsimp only;omega)];exact hm j ae⟩ ?_
 rintro⟨k,fZ⟩ ⟨hk,Fu,pc,oa⟩;dsimp only at hk Fu pc oa⊢;refine a8 (λcE=>?_) λcE=>?_
 ·have qJ:k<code.length:=by rw[an]at cE;omega
  refine U ?_;refine cH λbi=>?_;refine bN 0 ?_;obtain⟨a,b,l8,Fz⟩:∃(a:Int) (b:Bool),(bif true then Value.tuple #[((fz l (code.getD k default).label 0).map (·.2)).getD (.int .i64 0),.bool (fz l (code.getD k default).label 0).isSome]else((fz l (code.getD k default).label 0).map (·.2)).getD (.int .i64 0))=.tuple #[.int .i64 a,.bool b]/\ ((b=false/\lC code (code.getD k default).label 0=none)\/(b=true/\∃j:Nat,a=j/\lC code (code.getD k default).label 0=some j)):=by
   have h:=aL (code.getD k default).label;cases hf:fz l (code.getD k default).label 0 with
   | none=>
    rw[hf]at h;refine⟨0,false,rfl,.inl ⟨rfl,?_⟩⟩;cases ba:lC code (code.getD k default).label 0 with
    | none=>rfl
    | some j=>rw[ba]at h;cases h
   | some q=>
    rw[hf]at h;cases ba:lC code (code.getD k default).label 0 with
    | none=>rw[ba]at h;cases h
    | some j=>rw[ba]at h;simp only[aqF,aqj]at h;exact⟨j,true,by simp[h],.inr ⟨rfl,j,rfl,rfl⟩⟩
  refine dh (om (Ti (fI:=Value.string) (x:=(code.getD k default).label) (l:=l) (ok:=true) (hmem:=hy)) l8) (ab:=U ?_);refine bC (λdL=>?_) λdL=>?_
  ·have jw:(code.getD k default).op=12/\¬a=(k:Int):=by rwa[aoo,an,aoq,au]at dL
   refine U ?_;refine bT rfl (.tmp rfl (.tmp rfl (.t1 rfl))) λI hw=>?_;refine xO (F5 h1 yJ qJ ?_) (by decide) rfl;unfold kX;rw[aou jw.1];rcases Fz with⟨_,e⟩ | ⟨_,j,ti,e⟩
   ·rw[e];rfl
   rw[e];refine aoW.2 λq=>jw.2 ?_;rw[ap7,aqj]at q;omega
  refine U ?_;refine vk (h:=Ls (l:=k+1) (xs:=code) (enc:=cL) ⟨_,rfl,λh=>h⟩ ⟨_,rfl,λh=>h⟩ (h:=by assumption) λ_=>by omega) (ab:=U ?_);have ZK:aZ al w cL 8 (gU 8 (k+1) code.length ad) (code.drop (k+1)):=by have:=ai.sub (k+1) code.length (by omega) (aoL _);rwa[aoZ]at this
  refine e1 (h:=ev (bb:=λ_ I hw=>Xs 227 [av bi] (ko (code.getD k default).label) _ (code.drop (k+1)) I (hw.now ZK) λi bY hi ht=>ag8 (code.getD k default) _ bi bY ((hw.eQ aP (S:=al) trivial).mono (ht.base _ aP) λ_=>trivial))) (ab:=U ?_);refine bC (λdZ=>?_) λdZ=>?_
  ·rw[aoo,an,aox,aoq,aoq]at dZ;refine U ?_;refine bT rfl (.tmp rfl (.tmp rfl (.t1 rfl))) λI hw=>?_;refine xO (F5 h1 yJ qJ ?_) (by decide) rfl;unfold kX;rw[aot (by omega),aou dZ.1,<-HE];rcases dZ.2 with e | e
   ·rcases Fz with⟨_,b2⟩ | ⟨b2,_⟩
    ·rw[HE];rw[xN]at b2;rw[xN.2 λq a b=>b2 q (aoD _) b];rfl
    rw[b2]at e;cases e
   exact e
  refine U ?_;have Ja:kX code k=true/\((code.getD k default).op=11->mM code k=a):=by
   unfold kX mM;rw[aoC,au,aoz,aos,aos]at dZ;rw[aoC,au,aos,an]at dL;refine⟨?_,λq=>?_⟩
   ·by_cases Gw:(code.getD k default).op=12
    ·rw[aou Gw];have:=dL.resolve_left λh=>h Gw;rcases Fz with⟨_,e⟩ | ⟨_,j,ti,e⟩
     ·exfalso;rw[xN]at e;have:=e k (aoD _) qJ;unfold ko at this;rw[aow Gw,aow rfl]at this;cases this
     rw[e,ap7];congr 1;omega
    rw[aot Gw];by_cases Ln:(code.getD k default).op=11
    ·rw[aou Ln,<-HE];exact(dZ.resolve_left λh=>h Ln).2
    rw[aot Ln]
   rw[aou q];have:=(dZ.resolve_left λh=>h q).1;rcases Fz with⟨e,_⟩ | ⟨_,j,ti,e⟩
   ·rw[e]at this;cases this
   rw[e];exact ti.symm
  refine bC (λhR=>?_) λhR=>?_
  ·rw[an]at hR;refine U ?_;refine aq (fq 1 rfl a (ab:=U ?_));refine bm (k+1,fZ.set k a) ⟨by dsimp only;omega,by dsimp only;rw[aoU];exact Fu,jl pc Ja.1,λj ae=>?_⟩ (by dsimp only;omega) (hA:=bD [1,2]);dsimp only at ae⊢;rw[fU];by_cases e:j=k
   ·subst e;rw[aou ⟨rfl,by omega⟩,aou (by omega),Ja.2 hR]
   rw[aot λq=>e q.1.symm,oa j ae];by_cases q:j<k
   ·rw[aou q,aou (by omega)]
   rw[aot q,aot (by omega)]
  rw[au]at hR;refine U ?_;refine bm (k+1,fZ) ⟨by dsimp only;omega,Fu,jl pc Ja.1,λj ae=>?_⟩ (by dsimp only;omega) (hA:=bD [1,2]);dsimp only at ae⊢;rw[oa j ae];by_cases e:j=k
  ·subst e;rw[aot (by omega),aou (by omega)];unfold mM;rw[aot hR]
  by_cases q:j<k
  ·rw[aou q,aou (by omega)]
  rw[aot q,aot (by omega)]
 have qJ:k=code.length:=by rw[au]at cE;omega
 refine U ?_;refine bT rfl (.tmp rfl (.tmp rfl (.t1 rfl))) λI hw=>?_;have aal:∀j,j<code.length->kX code j=true:=λj ae=>pc j (by omega);have a1:=Kw h1 yJ aal;refine⟨v20,0,AJ,by rw[a1];rfl,λ_=>?_⟩;rw[show qT code=fZ from by
  refine abM (by unfold qT;simp[Fu]) λj ae=>?_;have ae:j<code.length:=by unfold qT at ae;simpa using ae
  rw[oa j ae,aou (by omega)];unfold qT;rw[aor,ao4,apk ae];rfl]
 exact hw.im aP aP
end Go.Proofs.bA
namespace Go.bM
theorem Po{α:Type}(f:α->Int):∀(l:List α),(∀x,x∈l->f x=0)->lf (l.map f)=0
 | [],_=>rfl
 | x::r,h=>by rw[apg];unfold lf;rw[aou (h x aP)];exact Po f r λy aY=>h y (.tail _ aY)
theorem Pn{α:Type}[Inhabited α](f:α->Int):∀(l:List α) (k:Nat),k<l.length->(∀j,j<k->f (l.getD j default)=0)->f (l.getD k default)≠0->lf (l.map f)=f (l.getD k default)
 | [],k,hk,_,_=>by cases hk
 | x::r,0,_,_,h=>by rw[apg];unfold lf;exact aot h
 | x::r,k+1,hk,h,bd=>by rw[apg];unfold lf;rw[aou (show f x=0 from h 0 (by omega))];exact Pn f r k (Nat.lt_of_succ_lt_succ hk) (λj ae=>h (j+1) (by omega)) bd
theorem HD{α:Type}[Inhabited α]{p:α->Bool}{l:List α}:l.all p=true↔∀i,i<l.length->p (l.getD i default)=true:=by rw[apt];exact⟨λh i hi=>h _ (eN hi),λh x hx=>by obtain⟨i,hi,rfl⟩:=pj hx;exact h i hi⟩
theorem Ej{α:Type}[Inhabited α]{p:α->Bool}{l:List α}:l.any p=false↔∀i,i<l.length->p (l.getD i default)=false:=by rw[aqp];exact⟨λh i hi=>aoW.2 (h _ (eN hi)),λh x hx=>by obtain⟨i,hi,rfl⟩:=pj hx;rw[h i hi];simp⟩
end Go.bM
namespace Go.Proofs.bA
theorem ae7(v:eh)(w:World):bl prog 284 [.agg (dy v).toArray] w λ_ r _=>r=.bool (lY v):=by
 refine bZ func284 ntmps284 ?_;refine b7 λgn=>?_;unfold lY;refine bC (λh1=>?_) λh1=>?_
 ·rw[an]at h1;rw[aou (show v.loc=bg from h1)];refine U ?_;refine aq (bp (λI hw=>Bs _ I) ?_);rintro v bx bc rfl cu;refine bf λI hw=>?_;rfl
 rw[au]at h1;rw[aot (show ¬v.loc=bg from h1)];refine U ?_;refine aq (bp (λI hw=>Br _ I) ?_);rintro v bx bc rfl cu;refine bf λI hw=>?_;rw[cd];rfl
theorem Yv(s:ByteArray)(w:World):bl prog 110 [.string s] w λ_ v _=>v=.bool (p3 s):=by
 refine bZ func110 ntmps110 ?_;refine bC (λh1=>?_) λh1=>?_
 ·rw[an]at h1;refine bf λI hw=>?_;rw[show p3 s=false from by unfold p3;rw[aoE (by omega)];rfl];rfl
 rw[au]at h1;refine U ?_;refine bX (λi:Nat=>i<=s.size/\∀j,j<i->(decide (32<=dO s j)&&decide (dO s j<=126)&&decide (dO s j≠34))=true) (λi=>[(3,true,.int .i64 i),(0,true,.string s)]) (λ_=>Mem [(w,al)] []) (λi=>s.size-i) 0 ⟨by omega,λj ae=>by omega⟩ ?_ ⟨rfl,rfl,trivial⟩ cv
 rintro i ⟨hi,bG⟩;refine a8 (λh2=>?_) λh2=>?_
 ·have bq:i<s.size:=by rw[an]at h2;omega
  refine a8 (λh3=>?_) λh3=>?_
  ·refine bf λI hw=>?_;have h3:=(Bv (lo:=32)).symm.trans h3;rw[aoq]at h3;rw[show p3 s=false from by unfold p3;rw[Mf bq h3];simp];rfl
  have h3:=(Bv (lo:=32)).symm.trans h3;rw[aos]at h3;refine U ?_;exact bm (i+1) ⟨by omega,jl bG h3⟩ (by omega) (hA:=cv)
 rw[au]at h2;have aj:=Me (lo:=32).2 λj ae=>bG j (by omega);by_cases h0:s.size=0
 ·refine bf λI hw=>?_;rw[show p3 s=true from by unfold p3;rw[aj,aow (by omega),aow h0];rfl];rw[show bw ((s.size:Int)=0)=true from by rw[an];omega];rfl
 refine bf λI hw=>?_;refine aoI Value.bool ?_;unfold p3;rw[aj,aow (p:=s.size<=262144) (by omega),aoE h0,show((s.size:Int)-1).toNat=s.size-1 by omega,show(0:Int).toNat=0 from rfl,aoR];simp only[aox,aoo,aoq,an,au,aop,true_and,aqL,false_or];omega
theorem Yx(aC:Int)(i:Instr)(w:World):bl prog 197 [.int .i64 aC,.agg (cL i).toArray] w λ_ v _=>v=.int .i64 (if ng aC i then 0 else 91):=by
 refine bZ func197 ntmps197 ?_;refine b7 λgn=>?_;unfold ng;refine bC (λh1=>?_) λh1=>?_
 ·rw[an]at h1;rw[aou h1];refine U ?_;refine aq (bp (λI hw=>ae6 _ I) ?_);rintro v bx bc rfl cu;refine bf λI hw=>?_;rfl
 rw[au]at h1;rw[aot h1];refine U ?_;refine aq (bp (λI hw=>S9 _ I) ?_);rintro v bx bc rfl cu;refine bf λI hw=>?_;rfl
theorem Yy(t:aV)(x:mu)(ah ad ao:Value)(vs:List Value)(w:World)(h:gW al w ah ad ao vs t)(ay:t.aC=1\/t.aC=2):bl prog 198 [.agg (c6 t ah ad ao).toArray,.agg (o6 x).toArray] w λ_ v _=>v=.bool (tN t x):=by
 obtain⟨s1,s2,cJ⟩:=h.jY;have eA:=h.nX;have iv:=h.nA;have hle:=iv.le;refine bZ func198 ntmps198 ?_;refine b7 λaQ=>?_;refine b7 λcZ=>?_;refine aq (bp (λI hw=>ae7 x.value I) ?_);rintro v bx bc rfl cu;refine a8 (λh0=>?_) λh0=>?_
 ·rw[aoq]at h0;refine bf λI hw=>?_;rw[show tN t x=false from ?_];rfl;unfold tN;split
  ·refine aoW.2 λq=>?_;rw[aoo,aoo,aoo,aop,aop]at q;unfold lY at h0;rw[aou q.1.2,q.2]at h0;cases h0
  rw[h0];simp
 rw[aos]at h0;refine U ?_;unfold tN;refine bC (λh1=>?_) λh1=>?_
 ·rw[an]at h1;rw[aou h1];refine U ?_;refine aq (bp (λI hw=>Br _ I) ?_);rintro v ck bY rfl eZ;refine bf λI hw=>?_;refine aoI Value.bool (aoR.2 ?_);rw[aoo,aoo,aoo,aoo,aoo,an,an,aop,aop];refine⟨λq=>⟨q,?_⟩,λq=>q.1⟩;unfold lY at h0;rwa[aou (show x.value.loc=bg from q.2)]at h0
 rw[au]at h1;rw[aot h1,h0,aqx];refine a8 (λh2=>?_) λh2=>?_
 ·simp only[aox,aoq,an,au]at h2;refine bf λI hw=>?_;have:(decide (0<=x.aH)&&decide (x.aH<t.code.length)&&decide (x.loc=bg))=false:=by
   rcases h2 with(h2 | h2) | h2
   ·rw[aoE (p:=0<=x.aH) (by omega)];rfl
   ·rw[aoE (p:=x.aH<t.code.length) (by omega)];simp
   rw[aoE (p:=x.loc=bg) h2];simp
  rw[this];rfl
 simp only[aoz,aos,an,au]at h2;rw[aow (show 0<=x.aH by omega),aow (show x.aH<t.code.length by omega),aow (show x.loc=bg from h2.2)];refine a8 (λh3=>?_) λh3=>?_
 ·rw[an]at h3;refine bf λI hw=>?_;rw[aot (show ¬t.aC=2 by omega)];unfold nr;rw[cd,cd];rfl
 rw[au]at h3;refine bf λI hw=>?_;rw[aou (show t.aC=2 by omega),cd,cd];rfl
theorem Yw(t:aV)(ah ad ao:Value)(vs:List Value)(w:World)(h:gW al w ah ad ao vs t)(ay:t.aC=1\/t.aC=2):bl prog 112 [.agg (c6 t ah ad ao).toArray] w λ_ v _=>v=.int .i64 (wu t):=by
 obtain⟨s1,s2,cJ⟩:=h.jY;have fs:=h.init;have hle:=fs.le;refine bZ func112 ntmps112 ?_;refine b7 λaQ=>?_;unfold wu;refine bC (λh1=>?_) λh1=>?_
 ·rw[an]at h1;refine bf λI hw=>?_;rw[aou (by omega)];rfl
 rw[au]at h1;rw[aot (by omega)];refine U ?_;refine bX (λi:Nat=>i<=t.init.length/\∀j,j<i->tM t j=true) (λi=>[(3,true,.int .i64 i),(1,true,av aQ)]) (λi=>Mem [(w,al)] [.box aQ (c6 t ah ad ao) 32]) (λi=>t.init.length-i) 0 ⟨aoD _,λj ae=>by omega⟩ ?_
 rintro i ⟨hi,bG⟩;refine a8 (λh2=>?_) λh2=>?_
 ·have bq:i<t.init.length:=by rw[an]at h2;omega
  refine U ?_;refine cH λeQ=>?_;refine bN 0 ?_;refine aq (bp (λI hw=>Yy t (t.init.getD i default) ah ad ao vs I (h.now hw) ay) ?_);rintro v bx bc rfl cu;refine a8 (λh3=>?_) λh3=>?_
  ·rw[aoq]at h3;refine bf λI hw=>?_;rw[hQ bq (show tM t i=false from by unfold tM;rw[h3];rfl)];rfl
  rw[aos]at h3;refine U ?_;refine bX (λk:Nat=>k<=i/\∀j,j<k->¬hv (t.init.getD i default)=hv (t.init.getD j default)) (λk=>[(5,true,.int .i64 k),(4,true,av eQ),(3,true,.int .i64 i),(1,true,av aQ)]) (λ_=>Mem [(w,al)] [.box eQ (o6 (t.init.getD i default)) 72,.box aQ (c6 t ah ad ao) 32]) (λk=>i-k) 0 ⟨aoD _,λj ae=>by omega⟩ ?_ ⟨rfl,rfl,rfl,rfl,trivial⟩ cv
  rintro k ⟨hk,eD⟩;refine a8 (λaA=>?_) λaA=>?_
  ·have da:k<i:=by rw[an]at aA;omega
   refine U ?_;refine cH λakz=>?_;refine bN 0 ?_;have Fo:(bw ((t.init.getD i default).aH=(t.init.getD k default).aH)&&bw ((t.init.getD i default).bo=(t.init.getD k default).bo)&&bw ((t.init.getD i default).loc=(t.init.getD k default).loc))=decide (hv (t.init.getD i default)=hv (t.init.getD k default)):=by rw[cd,cd,cd,<-T9];rfl
   refine bC (λa6=>?_) λa6=>?_
   ·have a6:=Fo.symm.trans a6;rw[aop]at a6;refine bf λI hw=>?_;rw[hQ bq (show tM t i=false from aoW.2 λq=>(F3.1 q).2 k da a6)];rfl
   have a6:=Fo.symm.trans a6;rw[aoA]at a6;refine U ?_;exact bm (k+1) ⟨by omega,λj ae=>by
    by_cases e:j<k
    ·exact eD j e
    rw[show j=k by omega];exact a6⟩ (by omega) ⟨rfl,rfl,rfl,rfl,trivial⟩ (b4 [1,2])
  have da:k=i:=by rw[au]at aA;omega
  refine U ?_;exact bm (i+1) ⟨by omega,jl bG (F3.2 ⟨h3,λj ae=>eD j (by omega)⟩)⟩ (by omega) (hA:=b4 [1])
 have bq:i=t.init.length:=by rw[au]at h2;omega
 refine bf λI hw=>?_;rw[aou (fT.2 λj ae=>bG j (by omega))];rfl
end Go.Proofs.bA
