/- Lemmas for the law WholeSound. -/
import Derived.Test.YtiknadellddjhaaGreatDoorS23
set_option linter.all false
open Go.Proofs.Tryz
set_option maxHeartbeats 6400000
open Go Go.cc Go.bU
attribute [local irreducible] Go.wpList Go.Code.wp Go.bodyPost Go.Exit.then Go.Exit.inBlock Go.Calls
namespace Go.bU
theorem Xx{fU:Type}[DecidableEq fU](l:List (fU×Value))(x y:fU)(v:Value):(fp (sw l x v) y 0).map (·.2)=if y=x then some v else(fp l y 0).map (·.2):=by
 have key:∀(l:List (fU×Value)) (i j:Nat),(fp l y i).map (·.2)=(fp l y j).map (·.2):=by
  intro l
  induction l with
  | nil=>intro i j;rfl
  | cons p r bH=>intro i j;unfold fp;split;rfl;exact bH _ _
 have main:∀(l:List (fU×Value)) (i:Nat),(match fp l x i with | some (j,_)=>(fp (l.modify (j-i) λ_=>(x,v)) y 0).map (·.2)=if y=x then some v else(fp l y 0).map (·.2) | none=>(fp (l++[(x,v)]) y 0).map (·.2)=if y=x then some v else(fp l y 0).map (·.2)):=by
  intro l
  induction l with
  | nil=>intro i;simp only[fp,anf];split<;>rfl
  | cons p r bH=>
   intro i;by_cases e:x=p.1
   ·rw[show fp (p::r) x i=some (i,p.2) by unfold fp;rw[amo e]];dsimp only;rw[aoS];show(fp ((x,v)::r) y 0).map (·.2)=_;unfold fp;dsimp only;rw[<-e];split<;>rfl
   have ag:fp (p::r) x i=fp r x (i+1):=by conv=>lhs;unfold fp;rw[amn e]
   rw[ag];have:=bH (i+1);cases hf:fp r x (i+1)with
   | none=>
    rw[hf]at this;dsimp only at this⊢;show(fp (p::(r++[(x,v)])) y 0).map (·.2)=_;unfold fp;by_cases q:y=p.1
    ·rw[amo q,amo q,amn λh=>e (h.symm.trans q)]
    rw[amn q,amn q,key _ 1 0,this,key r 1 0]
   | some w=>
    obtain⟨j,u⟩:=w;have ad:=(Eb hf).1;rw[hf]at this;dsimp only at this⊢;rw[show j-i=(j-(i+1))+1 by omega];show(fp (p::r.modify (j-(i+1)) λ_=>(x,v)) y 0).map (·.2)=_;unfold fp;by_cases q:y=p.1
    ·rw[amo q,amo q,amn λh=>e (h.symm.trans q)]
    rw[amn q,amn q,key _ 1 0,this,key r 1 0]
 have:=main l 0;unfold sw;cases hf:fp l x 0 with
 | none=>rw[hf]at this;exact this
 | some w=>obtain⟨j,u⟩:=w;rw[hf]at this;exact this
theorem aaz{l m:List Int}(aB:l.length=m.length)(h:∀i,i<l.length->l.getD i default=m.getD i default):l=m:=by refine anw aB λi h1 h2=>?_;have:=h i h1;rwa[aml,aml,amp h1,amp h2]at this
def tJ(code:List Instr)(l:List (ByteArray×Value))(k:Nat):Prop:=∀s,(fp l s 0).map (·.2)=(k6 code s k).map λ(j:Nat)=>Value.int .i64 (j:Int)
theorem tJ.put{code:List Instr}{l:List (ByteArray×Value)}{k:Nat}(h:tJ code l (k+1))(hk:k<code.length)(bm:(code.getD k default).op=12):tJ code (sw l (code.getD k default).label (.int .i64 (k:Int))) k:=λs=>by
 rw[Xx,Qm hk];unfold j8;rw[amq bm,anA];by_cases e:s=(code.getD k default).label
 ·rw[amo e,amo (amq e.symm)];rfl
 rw[amn e,amn λq=>e (aog q).symm];exact h s
theorem tJ.skip{code:List Instr}{l:List (ByteArray×Value)}{k:Nat}(h:tJ code l (k+1))(hk:k<code.length)(bm:¬(code.getD k default).op=12):tJ code l k:=λs=>by rw[Qm hk];unfold j8;rw[amy bm,anT,amn (by simp)];exact h s
theorem tJ.W5(code:List Instr):tJ code [] code.length:=λs=>by rw[xa.2 λq a b=>by omega];rfl
theorem Ha{code:List Instr}{s:ByteArray}{k:Nat}:((code.drop k).any (j8 s))=(k6 code s k).isSome:=by
 cases h:k6 code s k with
 | none=>rw[xa]at h;rw[Option.isSome_none,aoi];intro x hx;obtain⟨i,hi,rfl⟩:=o6 hx;rw[anD]at hi;have:=h (k+i) (by omega) (by omega);rw[aml]at this⊢;rw[anP,this];simp
 | some j=>rw[vK]at h;rw[Option.isSome_some,anl];refine⟨code.getD j default,?_,h.2.2.1⟩;refine amF (i:=j-k) ?_;rw[anP,show k+(j-k)=j by omega];exact getD_some h.2.1
end Go.bU
namespace Go.Proofs.bK
theorem aaN(c3:Nat)[aS prog c3](cap:List Value)(p:Instr->Bool)(aG:Value)(xs:List Instr)(w:World)(ag:aV an w cC 8 aG xs) (hf:∀i I,i<xs.length->Mem [(w,an)] [] I->bj prog c3 ([.agg (cC (xs.getD i default)).toArray]++cap) I λ_ v _=>v=.bool (p (xs.getD i default))): bj prog 298 [aG,.func (.func c3) #[] cap.toArray] w λ_ v _=>∃n:Int,v=.int .i64 n/\decide (0<=n)=xs.any p:=by
 have hle:=ag.le;refine ca func298 ntmps298 ?_;refine b9 (λi:Nat=>i<=xs.length/\∀j,j<i->p (xs.getD j default)=false) (λi=>[(8,true,.int .i64 i),(7,true,.int .i64 xs.length),(1,true,.func (.func c3) #[] cap.toArray),(0,true,aG)]) (λ_=>Mem [(w,an)] []) (λi=>xs.length-i) 0 ⟨amz _,λj ad=>by omega⟩ ?_ ⟨rfl,rfl,rfl,rfl,trivial⟩ c7
 rintro i ⟨hi,bS⟩;refine bg (λh1=>?_) λh1=>?_
 ·have cb:i<xs.length:=by rw[aq]at h1;omega
  refine aa ?_;refine ao (bw (λI hw=>hf i I cb hw) ?_);rintro v bx a6 rfl cA;refine bg (λh2=>?_) λh2=>?_
  ·refine bl λI hw=>?_;exact⟨i,rfl,by rw[amq (by omega)];exact(anl.2 ⟨_,er cb,h2⟩).symm⟩
  refine aa ?_;exact bt (i+1) ⟨by omega,λj ad=>by
   by_cases e:j<i
   ·exact bS j e
   rw[show j=i by omega];exact h2⟩ (by omega) ⟨rfl,rfl,rfl,rfl,trivial⟩ c7
 refine bl λI hw=>?_;refine⟨-1,rfl,?_⟩;rw[amy (by omega)];refine(aoi.2 λx hx=>?_).symm;obtain⟨j,ad,rfl⟩:=o6 hx;rw[bS j (by rw[ar]at h1;omega)];simp
theorem Wh(c3:Nat)[aS prog c3](cap:List Value)(p:Instr->Bool)(aG:Value)(xs:List Instr)(w:World)(ag:aV an w cC 8 aG xs) (hf:∀i I,i<xs.length->Mem [(w,an)] [] I->bj prog c3 ([.agg (cC (xs.getD i default)).toArray]++cap) I λ_ v _=>v=.bool (p (xs.getD i default))): bj prog 226 [aG,.func (.func c3) #[] cap.toArray] w λ_ v _=>v=.bool (xs.any p):=by refine ca func226 ntmps226 ?_;refine ao (bw (λI hw=>aaN c3 cap p aG xs I (hw.now ag) λi bX hi hj=>hf i bX hi (J4 hw hj (FC bX))) ?_);rintro v bx a6 ⟨n,rfl,bh⟩ cA;refine bl λI hw=>?_;rw[ch,<-bh];rfl
theorem afy(i j:Instr)(bi:Nat)(w:World)(hb:gM an w bi (cC i)):bj prog 227 [.agg (cC j).toArray,ax bi] w λ_ v _=>v=.bool (j8 i.label j):=by refine ca func227 ntmps227 ?_;refine ck λdy=>?_;refine bP rfl (.t1 rfl) λI hw=>?_;exact amC Value.bool (CB j i)
theorem S6(ae:Value)(code:List Instr)(w:World)(ai:aV an w cC 8 ae code):bj prog 138 [ae] w (GX code):=by
 have hle:=ai.le;refine ca func138 ntmps138 ?_;refine bA (λh1=>?_) λh1=>?_
 ·rw[aq]at h1;refine aa ?_;refine bP rfl (.tmp rfl (.tmp rfl (.t1 rfl))) λI hw=>?_;exact xb (e:=2) (by unfold lp;rw[amo (by omega)]) (by decide) rfl
 rw[ar]at h1;have h1:¬256<code.length:=by omega
 refine aa ?_;refine ao (OD (gA:=Value.string) (ab:=λr=>aa ?_));refine ao (ix _ _ _ _ _ _ (ab:=λv20 zW=>aa ?_));refine b9 (λs:Nat×List Int=>s.1<=code.length/\s.2.length=code.length/\(∀j,j<s.1->kG (code.getD j default)=true)/\∀j,j<s.1->s.2.getD j default= -1) (λs=>[(23,true,.int .i64 s.1),(22,true,.int .i64 code.length),(21,true,ae),(6,true,v20),(5,true,.map (some r)),(0,true,ae)]) (λs=>Mem [(w,an)] [.own v20 3 1 bd s.2,qc Value.string r []]) (λs=>code.length-s.1) (0,List.replicate code.length 0) ⟨amz _,amS,λj ad=>by omega,λj ad=>by omega⟩ ?_
 rintro⟨i,out⟩ ⟨hi,th,bS,tf⟩;dsimp only at hi th bS tf⊢;refine bg (λh2=>?_) λh2=>?_
 ·have bF:i<code.length:=by rw[aq]at h2;omega
  refine aa ?_;refine cU λbi=>?_;refine bQ 0 ?_;refine ao (bw (λI hw=>S5 (code.getD i default) I) ?_);rintro v bx a6 rfl cA;refine bg (λh3=>?_) λh3=>?_
  ·rw[amk,ar]at h3;have h3:kG (code.getD i default)=false:=amP.2 λq=>h3 (by rw[amo q]);refine aa ?_;refine bP rfl (.tmp rfl (.tmp rfl (.t1 rfl))) λI hw=>?_;exact xb (QA h1 bF h3) (by decide) rfl
  rw[amm,aq]at h3;have h3:kG (code.getD i default)=true:=by
   cases hb:kG (code.getD i default)
   ·rw[hb]at h3;cases h3
   rfl
  refine aa ?_;refine ao (fB 1 rfl (-1:Int) (ab:=aa ?_));refine bt (i+1,out.set i (-1)) ⟨by dsimp only;omega,by dsimp only;rw[amQ];exact th,kq bS h3,λj ad=>?_⟩ (by dsimp only;omega) (hA:=bM [1,2]);dsimp only at ad⊢;rw[fL];split
  ·rfl
  exact tf j (by omega)
 have x9:∀j,j<code.length->kG (code.getD j default)=true:=λj ad=>bS j (by rw[ar]at h2;omega);have hm:∀j,j<code.length->out.getD j default= -1:=λj ad=>tf j (by rw[ar]at h2;omega);refine aa ?_;refine b9 (λs:Nat×List (ByteArray×Value)=>s.1<=code.length/\tJ code s.2 s.1) (λs=>[(9,true,.int .i64 ((s.1:Int)-1)),(6,true,v20),(5,true,.map (some r)),(0,true,ae)]) (λs=>Mem [(w,an)] [.own v20 3 1 bd out,qc Value.string r s.2]) (λs=>s.1) (code.length,[]) ⟨amK _,tJ.W5 code⟩ ?_
 rintro⟨k,l⟩ ⟨hk,aB⟩;dsimp only at hk aB⊢;refine bg (λaC=>?_) λaC=>?_
 ·rw[aq]at aC;obtain⟨k,rfl⟩:∃cF,k=cF+1:=⟨k-1,by omega⟩;have bC:(((k+1:Nat):Int)-1)=(k:Int):=by omega
  rw[bC];have fe:k<code.length:=by omega
  refine bg (λaW=>?_) λaW=>?_
  ·rw[aq]at aW;refine aa ?_;refine ao (OE (gA:=Value.string) (x:=(code.getD k default).label) (i:=1) (.inl rfl) (hi:=rfl) (ab:=aa ?_));exact bt (k,sw l (code.getD k default).label (.int .i64 (k:Int))) ⟨by dsimp only;omega,aB.put fe aW⟩ (by dsimp only;omega)
  rw[ar]at aW;refine aa ?_;exact bt (k,l) ⟨by dsimp only;omega,aB.skip fe aW⟩ (by dsimp only;omega)
 rw[ar]at aC;obtain rfl:k=0:=by omega
 refine aa ?_;refine b9 (λs:Nat×List Int=>s.1<=code.length/\s.2.length=code.length/\(∀j,j<s.1->kH code j=true)/\∀j,j<code.length->s.2.getD j default=if j<s.1 then mg code j else -1) (λs=>[(58,true,.int .i64 s.1),(57,true,.int .i64 code.length),(56,true,ae),(6,true,v20),(5,true,.map (some r)),(0,true,ae)]) (λs=>Mem [(w,an)] [.own v20 3 1 bd s.2,qc Value.string r l]) (λs=>code.length-s.1) (0,out) ⟨amz _,th,λj ad=>by omega,λj ad=>by rw[amn (by dsimp only;omega)];exact hm j ad⟩ ?_
 rintro⟨k,fT⟩ ⟨hk,EU,oW,mC⟩;dsimp only at hk EU oW mC⊢;refine bg (λcM=>?_) λcM=>?_
 ·have qx:k<code.length:=by rw[aq]at cM;omega
  refine aa ?_;refine cU λbi=>?_;refine bQ 0 ?_;obtain⟨a,b,oe,EY⟩:∃(a:Int) (b:Bool),(bif true then Value.tuple #[((fp l (code.getD k default).label 0).map (·.2)).getD (.int .i64 0),.bool (fp l (code.getD k default).label 0).isSome]else((fp l (code.getD k default).label 0).map (·.2)).getD (.int .i64 0))=.tuple #[.int .i64 a,.bool b]/\ ((b=false/\k6 code (code.getD k default).label 0=none)\/(b=true/\∃j:Nat,a=j/\k6 code (code.getD k default).label 0=some j)):=by
   have h:=aB (code.getD k default).label;cases hf:fp l (code.getD k default).label 0 with
   | none=>
    rw[hf]at h;refine⟨0,false,rfl,.inl ⟨rfl,?_⟩⟩;cases aZ:k6 code (code.getD k default).label 0 with
    | none=>rfl
    | some j=>rw[aZ]at h;cases h
   | some q=>
    rw[hf]at h;cases aZ:k6 code (code.getD k default).label 0 with
    | none=>rw[aZ]at h;cases h
    | some j=>rw[aZ]at h;simp only[aoq,aoc]at h;exact⟨j,true,by simp[h],.inr ⟨rfl,j,rfl,rfl⟩⟩
  refine dg (nX (Sk (gA:=Value.string) (x:=(code.getD k default).label) (l:=l) (ok:=true) (hmem:=gC)) oe) (ab:=aa ?_);refine bA (λef=>?_) λef=>?_
  ·have jl:(code.getD k default).op=12/\¬a=(k:Int):=by rwa[ami,aq,amk,ar]at ef
   refine aa ?_;refine bP rfl (.tmp rfl (.tmp rfl (.t1 rfl))) λI hw=>?_;refine xb (Fw h1 x9 qx ?_) (by decide) rfl;unfold kH;rw[amo jl.1];rcases EY with⟨_,e⟩ | ⟨_,j,s0,e⟩
   ·rw[e];rfl
   rw[e];refine amP.2 λq=>jl.2 ?_;rw[an1,aoc]at q;omega
  refine aa ?_;refine uR (h:=KL (l:=k+1) (xs:=code) (enc:=cC) ⟨_,rfl,λh=>h⟩ ⟨_,rfl,λh=>h⟩ (h:=by assumption) λ_=>by omega) (ab:=aa ?_);have Yw:aV an w cC 8 (gU 8 (k+1) code.length ae) (code.drop (k+1)):=by have:=ai.sub (k+1) code.length (by omega) (amK _);rwa[amU]at this
  refine fm (h:=eY (a7:=λ_ I hw=>Wh 227 [ax bi] (j8 (code.getD k default).label) _ (code.drop (k+1)) I (hw.now Yw) λi bX hi hj=>afy (code.getD k default) _ bi bX ((hw.eN aL (S:=an) trivial).mono (hj.base _ aL) λ_=>trivial))) (ab:=aa ?_);refine bA (λdW=>?_) λdW=>?_
  ·rw[ami,aq,amr,amk,amk]at dW;refine aa ?_;refine bP rfl (.tmp rfl (.tmp rfl (.t1 rfl))) λI hw=>?_;refine xb (Fw h1 x9 qx ?_) (by decide) rfl;unfold kH;rw[amn (by omega),amo dW.1,<-Ha];rcases dW.2 with e | e
   ·rcases EY with⟨_,cd⟩ | ⟨cd,_⟩
    ·rw[Ha];rw[xa]at cd;rw[xa.2 λq a b=>cd q (amz _) b];rfl
    rw[cd]at e;cases e
   exact e
  refine aa ?_;have Ix:kH code k=true/\((code.getD k default).op=11->mg code k=a):=by
   unfold kH mg;rw[amx,ar,amt,amm,amm]at dW;rw[amx,ar,amm,aq]at ef;refine⟨?_,λq=>?_⟩
   ·by_cases F2:(code.getD k default).op=12
    ·rw[amo F2];have:=ef.resolve_left λh=>h F2;rcases EY with⟨_,e⟩ | ⟨_,j,s0,e⟩
     ·exfalso;rw[xa]at e;have:=e k (amz _) qx;unfold j8 at this;rw[amq F2,amq rfl]at this;cases this
     rw[e,an1];congr 1;omega
    rw[amn F2];by_cases KG:(code.getD k default).op=11
    ·rw[amo KG,<-Ha];exact(dW.resolve_left λh=>h KG).2
    rw[amn KG]
   rw[amo q];have:=(dW.resolve_left λh=>h q).1;rcases EY with⟨e,_⟩ | ⟨_,j,s0,e⟩
   ·rw[e]at this;cases this
   rw[e];exact s0.symm
  refine bA (λhL=>?_) λhL=>?_
  ·rw[aq]at hL;refine aa ?_;refine ao (fB 1 rfl a (ab:=aa ?_));refine bt (k+1,fT.set k a) ⟨by dsimp only;omega,by dsimp only;rw[amQ];exact EU,kq oW Ix.1,λj ad=>?_⟩ (by dsimp only;omega) (hA:=bM [1,2]);dsimp only at ad⊢;rw[fL];by_cases e:j=k
   ·subst e;rw[amo ⟨rfl,by omega⟩,amo (by omega),Ix.2 hL]
   rw[amn λq=>e q.1.symm,mC j ad];by_cases q:j<k
   ·rw[amo q,amo (by omega)]
   rw[amn q,amn (by omega)]
  rw[ar]at hL;refine aa ?_;refine bt (k+1,fT) ⟨by dsimp only;omega,EU,kq oW Ix.1,λj ad=>?_⟩ (by dsimp only;omega) (hA:=bM [1,2]);dsimp only at ad⊢;rw[mC j ad];by_cases e:j=k
  ·subst e;rw[amn (by omega),amo (by omega)];unfold mg;rw[amn hL]
  by_cases q:j<k
  ·rw[amo q,amo (by omega)]
  rw[amn q,amn (by omega)]
 have qx:k=code.length:=by rw[ar]at cM;omega
 refine aa ?_;refine bP rfl (.tmp rfl (.tmp rfl (.t1 rfl))) λI hw=>?_;have Y5:∀j,j<code.length->kH code j=true:=λj ad=>oW j (by omega);have aY:=JQ h1 x9 Y5;refine⟨v20,0,zW,by rw[aY];rfl,λ_=>?_⟩;rw[show qD code=fT from by
  refine aaz (by unfold qD;simp[EU]) λj ad=>?_;have ad:j<code.length:=by unfold qD at ad;simpa using ad
  rw[mC j ad,amo (by omega)];unfold qD;rw[aml,amZ,ann ad];rfl]
 exact hw.hK aL aL
end Go.Proofs.bK
namespace Go.bU
theorem Oo{α:Type}(f:α->Int):∀(l:List α),(∀x,x∈l->f x=0)->kS (l.map f)=0
 | [],_=>rfl
 | x::r,h=>by rw[am8];unfold kS;rw[amo (h x aL)];exact Oo f r λy aR=>h y (.tail _ aR)
theorem On{α:Type}[Inhabited α](f:α->Int):∀(l:List α) (k:Nat),k<l.length->(∀j,j<k->f (l.getD j default)=0)->f (l.getD k default)≠0->kS (l.map f)=f (l.getD k default)
 | [],k,hk,_,_=>by cases hk
 | x::r,0,_,_,h=>by rw[am8];unfold kS;exact amn h
 | x::r,k+1,hk,h,bh=>by rw[am8];unfold kS;rw[amo (show f x=0 from h 0 (by omega))];exact On f r k (Nat.lt_of_succ_lt_succ hk) (λj ad=>h (j+1) (by omega)) bh
theorem G9{α:Type}[Inhabited α]{p:α->Bool}{l:List α}:l.all p=true↔∀i,i<l.length->p (l.getD i default)=true:=by rw[ank];exact⟨λh i hi=>h _ (er hi),λh x hx=>by obtain⟨i,hi,rfl⟩:=o6 hx;exact h i hi⟩
theorem DG{α:Type}[Inhabited α]{p:α->Bool}{l:List α}:l.any p=false↔∀i,i<l.length->p (l.getD i default)=false:=by rw[aoi];exact⟨λh i hi=>amP.2 (h _ (er hi)),λh x hx=>by obtain⟨i,hi,rfl⟩:=o6 hx;rw[h i hi];simp⟩
end Go.bU
namespace Go.Proofs.bK
theorem adN(v:dY)(w:World):bj prog 284 [.agg (dm v).toArray] w λ_ r _=>r=.bool (lE v):=by
 refine ca func284 ntmps284 ?_;refine ck λhJ=>?_;unfold lE;refine bA (λh1=>?_) λh1=>?_
 ·rw[aq]at h1;rw[amo (show v.loc=a8 from h1)];refine aa ?_;refine ao (bw (λI hw=>K6 _ I) ?_);rintro v bx a6 rfl cA;refine bl λI hw=>?_;rfl
 rw[ar]at h1;rw[amn (show ¬v.loc=a8 from h1)];refine aa ?_;refine ao (bw (λI hw=>C1 _ I) ?_);rintro v bx a6 rfl cA;refine bl λI hw=>?_;rw[ch];rfl
theorem Xi(s:ByteArray)(w:World):bj prog 110 [.string s] w λ_ v _=>v=.bool (pX s):=by
 refine ca func110 ntmps110 ?_;refine bA (λh1=>?_) λh1=>?_
 ·rw[aq]at h1;refine bl λI hw=>?_;rw[show pX s=false from by unfold pX;rw[amy (by omega)];rfl];rfl
 rw[ar]at h1;refine aa ?_;refine b9 (λi:Nat=>i<=s.size/\∀j,j<i->(decide (32<=dM s j)&&decide (dM s j<=126)&&decide (dM s j≠34))=true) (λi=>[(3,true,.int .i64 i),(0,true,.string s)]) (λ_=>Mem [(w,an)] []) (λi=>s.size-i) 0 ⟨by omega,λj ad=>by omega⟩ ?_ ⟨rfl,rfl,trivial⟩ c7
 rintro i ⟨hi,bS⟩;refine bg (λh2=>?_) λh2=>?_
 ·have bF:i<s.size:=by rw[aq]at h2;omega
  refine bg (λh3=>?_) λh3=>?_
  ·refine bl λI hw=>?_;have h3:=(AP (lo:=32)).symm.trans h3;rw[amk]at h3;rw[show pX s=false from by unfold pX;rw[Lp bF h3];simp];rfl
  have h3:=(AP (lo:=32)).symm.trans h3;rw[amm]at h3;refine aa ?_;exact bt (i+1) ⟨by omega,kq bS h3⟩ (by omega) (hA:=c7)
 rw[ar]at h2;have ag:=Lo (lo:=32).2 λj ad=>bS j (by omega);by_cases h0:s.size=0
 ·refine bl λI hw=>?_;rw[show pX s=true from by unfold pX;rw[ag,amq (by omega),amq h0];rfl];rw[show bO ((s.size:Int)=0)=true from by rw[aq];omega];rfl
 refine bl λI hw=>?_;refine amC Value.bool ?_;unfold pX;rw[ag,amq (p:=s.size<=262144) (by omega),amy h0,show((s.size:Int)-1).toNat=s.size-1 by omega,show(0:Int).toNat=0 from rfl,amN];simp only[amr,ami,amk,aq,ar,amj,true_and,aov,false_or];omega
theorem Xk(az:Int)(i:Instr)(w:World):bj prog 197 [.int .i64 az,.agg (cC i).toArray] w λ_ v _=>v=.int .i64 (if mJ az i then 0 else 91):=by
 refine ca func197 ntmps197 ?_;refine ck λhJ=>?_;unfold mJ;refine bA (λh1=>?_) λh1=>?_
 ·rw[aq]at h1;rw[amo h1];refine aa ?_;refine ao (bw (λI hw=>adM _ I) ?_);rintro v bx a6 rfl cA;refine bl λI hw=>?_;rfl
 rw[ar]at h1;rw[amn h1];refine aa ?_;refine ao (bw (λI hw=>Sa _ I) ?_);rintro v bx a6 rfl cA;refine bl λI hw=>?_;rfl
theorem Xl(t:aM)(x:l0)(aj ae ak:Value)(vs:List Value)(w:World)(h:gz an w aj ae ak vs t)(au:t.az=1\/t.az=2):bj prog 198 [.agg (cQ t aj ae ak).toArray,.agg (oO x).toArray] w λ_ v _=>v=.bool (tu t x):=by
 obtain⟨s1,s2,cy⟩:=h.iF;have eE:=h.mZ;have hM:=h.mx;have hle:=hM.le;refine ca func198 ntmps198 ?_;refine ck λaT=>?_;refine ck λcW=>?_;refine ao (bw (λI hw=>adN x.value I) ?_);rintro v bx a6 rfl cA;refine bg (λh0=>?_) λh0=>?_
 ·rw[amk]at h0;refine bl λI hw=>?_;rw[show tu t x=false from ?_];rfl;unfold tu;split
  ·refine amP.2 λq=>?_;rw[ami,ami,ami,amj,amj]at q;unfold lE at h0;rw[amo q.1.2,q.2]at h0;cases h0
  rw[h0];simp
 rw[amm]at h0;refine aa ?_;unfold tu;refine bA (λh1=>?_) λh1=>?_
 ·rw[aq]at h1;rw[amo h1];refine aa ?_;refine ao (bw (λI hw=>C1 _ I) ?_);rintro v cp bX rfl fq;refine bl λI hw=>?_;refine amC Value.bool (amN.2 ?_);rw[ami,ami,ami,ami,ami,aq,aq,amj,amj];refine⟨λq=>⟨q,?_⟩,λq=>q.1⟩;unfold lE at h0;rwa[amo (show x.value.loc=a8 from q.2)]at h0
 rw[ar]at h1;rw[amn h1,h0,aoG];refine bg (λh2=>?_) λh2=>?_
 ·simp only[amr,amk,aq,ar]at h2;refine bl λI hw=>?_;have:(decide (0<=x.aI)&&decide (x.aI<t.code.length)&&decide (x.loc=a8))=false:=by
   rcases h2 with(h2 | h2) | h2
   ·rw[amy (p:=0<=x.aI) (by omega)];rfl
   ·rw[amy (p:=x.aI<t.code.length) (by omega)];simp
   rw[amy (p:=x.loc=a8) h2];simp
  rw[this];rfl
 simp only[amt,amm,aq,ar]at h2;rw[amq (show 0<=x.aI by omega),amq (show x.aI<t.code.length by omega),amq (show x.loc=a8 from h2.2)];refine bg (λh3=>?_) λh3=>?_
 ·rw[aq]at h3;refine bl λI hw=>?_;rw[amn (show ¬t.az=2 by omega)];unfold mS;rw[ch,ch];rfl
 rw[ar]at h3;refine bl λI hw=>?_;rw[amo (show t.az=2 by omega),ch,ch];rfl
theorem Xj(t:aM)(aj ae ak:Value)(vs:List Value)(w:World)(h:gz an w aj ae ak vs t)(au:t.az=1\/t.az=2):bj prog 112 [.agg (cQ t aj ae ak).toArray] w λ_ v _=>v=.int .i64 (vH t):=by
 obtain⟨s1,s2,cy⟩:=h.iF;have fi:=h.init;have hle:=fi.le;refine ca func112 ntmps112 ?_;refine ck λaT=>?_;unfold vH;refine bA (λh1=>?_) λh1=>?_
 ·rw[aq]at h1;refine bl λI hw=>?_;rw[amo (by omega)];rfl
 rw[ar]at h1;rw[amn (by omega)];refine aa ?_;refine b9 (λi:Nat=>i<=t.init.length/\∀j,j<i->tr t j=true) (λi=>[(3,true,.int .i64 i),(1,true,ax aT)]) (λi=>Mem [(w,an)] [.box aT (cQ t aj ae ak) 32]) (λi=>t.init.length-i) 0 ⟨amz _,λj ad=>by omega⟩ ?_
 rintro i ⟨hi,bS⟩;refine bg (λh2=>?_) λh2=>?_
 ·have bF:i<t.init.length:=by rw[aq]at h2;omega
  refine aa ?_;refine cU λeN=>?_;refine bQ 0 ?_;refine ao (bw (λI hw=>Xl t (t.init.getD i default) aj ae ak vs I (h.now hw) au) ?_);rintro v bx a6 rfl cA;refine bg (λh3=>?_) λh3=>?_
  ·rw[amk]at h3;refine bl λI hw=>?_;rw[kx bF (show tr t i=false from by unfold tr;rw[h3];rfl)];rfl
  rw[amm]at h3;refine aa ?_;refine b9 (λk:Nat=>k<=i/\∀j,j<k->¬hl (t.init.getD i default)=hl (t.init.getD j default)) (λk=>[(5,true,.int .i64 k),(4,true,ax eN),(3,true,.int .i64 i),(1,true,ax aT)]) (λ_=>Mem [(w,an)] [.box eN (oO (t.init.getD i default)) 72,.box aT (cQ t aj ae ak) 32]) (λk=>i-k) 0 ⟨amz _,λj ad=>by omega⟩ ?_ ⟨rfl,rfl,rfl,rfl,trivial⟩ c7
  rintro k ⟨hk,e7⟩;refine bg (λaC=>?_) λaC=>?_
  ·have c5:k<i:=by rw[aq]at aC;omega
   refine aa ?_;refine cU λaiR=>?_;refine bQ 0 ?_;have EL:(bO ((t.init.getD i default).aI=(t.init.getD k default).aI)&&bO ((t.init.getD i default).bq=(t.init.getD k default).bq)&&bO ((t.init.getD i default).loc=(t.init.getD k default).loc))=decide (hl (t.init.getD i default)=hl (t.init.getD k default)):=by rw[ch,ch,ch,<-Tb];rfl
   refine bA (λaW=>?_) λaW=>?_
   ·have aW:=EL.symm.trans aW;rw[amj]at aW;refine bl λI hw=>?_;rw[kx bF (show tr t i=false from amP.2 λq=>(Fu.1 q).2 k c5 aW)];rfl
   have aW:=EL.symm.trans aW;rw[amu]at aW;refine aa ?_;exact bt (k+1) ⟨by omega,λj ad=>by
    by_cases e:j<k
    ·exact e7 j e
    rw[show j=k by omega];exact aW⟩ (by omega) ⟨rfl,rfl,rfl,rfl,trivial⟩ (bV [1,2])
  have c5:k=i:=by rw[ar]at aC;omega
  refine aa ?_;exact bt (i+1) ⟨by omega,kq bS (Fu.2 ⟨h3,λj ad=>e7 j (by omega)⟩)⟩ (by omega) (hA:=bV [1])
 have bF:i=t.init.length:=by rw[ar]at h2;omega
 refine bl λI hw=>?_;rw[amo (fX.2 λj ad=>bS j (by omega))];rfl
end Go.Proofs.bK
