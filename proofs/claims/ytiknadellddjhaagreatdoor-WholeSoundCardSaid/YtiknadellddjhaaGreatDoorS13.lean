/- Lemmas for the law WholeSound. -/
import Derived.Test.YtiknadellddjhaaGreatDoorS09
import Derived.Test.YtiknadellddjhaaGreatDoorS12
set_option linter.all false
open Go.Proofs.Tryz
set_option maxHeartbeats 1600000
open Go Go.cc Go.bU
namespace Go.cc
open Go Go.RowKit
theorem Mem.Ke{bs:List dr}{H:List aA}{S:Nat->Prop}{B I:World}{v:Value}{xss:List (List Int)}(hw:Mem bs H I)(h:wB S B v xss)(hB:(B,S)∈bs:=by repeat (first | exact List.Mem.head _ | refine List.Mem.tail _ ?_)):wB an I v xss:=by obtain⟨vs,h1,h2,h3⟩:=h;exact⟨vs,hw.now h1 hB,h2,λi hi=>hw.now (h3 i hi) hB⟩
end Go.cc
namespace Go.bU
structure cv where
 br:List Int
 co:List (List Int)
structure jW(S:Nat->Prop)(w:World)(cz ae:Value)(c:cv):Prop where
 br:aV S w bd 1 cz c.br
 co:wB S w ae c.co
 M3:∀i,i<c.co.length->(c.co.getD i default).length* 8<=140737488351232
theorem jW.now{S:Nat->Prop}{B I:World}{cz ae:Value}{c:cv}{bs:List dr}{H:List aA}(h:jW S B cz ae c)(hw:Mem bs H I)(hB:(B,S)∈bs:=by repeat (first | exact List.Mem.head _ | refine List.Mem.tail _ ?_)):jW an I cz ae c:=⟨hw.now h.br hB,hw.Ke h.co hB,h.M3⟩
def s6(rs ws:List (List Int))(c:cv):Bool:=decide (c.br.length=rs.length)&&decide (c.co.length=ws.length)&&((List.range c.br.length).all λi=>decide (c.br.getD i default∈rs.getD i default))&&(List.range c.co.length).all λk=>decide (pK (c.co.getD k default)=ws.getD k default)
def oc(t:a1)(c:cv):Bool:=s6 (uD t) (n1 t) c
def fc(t:a1)(c:cv):Int:=if gL t=true then if oc t c=true then 0 else 160 else 1
end Go.bU
namespace Go.Proofs.bK
attribute [local irreducible] wpList Code.wp bodyPost Exit.then Exit.inBlock Calls
theorem V9(aJ iU cz ae:Value)(rs ws:List (List Int))(c:cv)(w:World)(aH:wB an w aJ rs)(hj:wB an w iU ws)(ai:jW an w cz ae c): bj prog 96 [.agg #[aJ,iU],.agg #[cz,ae]] w λ_ v _=>v=.bool (s6 rs ws c):=by
 obtain⟨afN,fv,eP,PK⟩:=aH;obtain⟨aix,oZ,oo,aai⟩:=hj;have hF:=ai.br;obtain⟨Hv,hM,eE,Yo⟩:=ai.co;have X0:=hF.le;have aj3:=fv.le;have akn:=oZ.le;have Yr:=hM.le;have ig:=fv.aG;have akm:=oZ.aG;have k2:=hF.aG;have fC:=hM.aG;refine ca func96 ntmps96 ?_;refine ck λhc=>?_;refine ck λeN=>?_;refine bA (λh1=>?_) λh1=>?_
 ·refine bl λI hw=>?_;have:s6 rs ws c=false:=by simp only[amr,amk,ar]at h1;simp only[s6,amx,amu];omega
  rw[this];rfl
 simp only[amt,amm,aq]at h1;have uf:c.br.length=rs.length:=by omega
 have r4:c.co.length=ws.length:=by omega
 refine aa ?_;refine b9 (λi:Nat=>i<=c.br.length/\∀j,j<i->decide (c.br.getD j default∈rs.getD j default)=true) (λs=>[(28,true,.int .i64 s),(27,true,.int .i64 c.br.length),(26,true,cz),(3,true,ax eN),(2,true,ax hc)]) (λs=>Mem [(w,an)] [.box eN [cz,ae] 53,.box hc [aJ,iU] 142]) (λs=>c.br.length-s) (0) ⟨amz _,λj ad=>absurd ad (anp _)⟩ ?_ ⟨rfl,rfl,rfl,rfl,rfl,trivial⟩ c7
 rintro i ⟨hi,bS⟩;refine bg (λh2=>?_) λh2=>?_
 ·have bF:i<c.br.length:=by rw[aq]at h2;omega
  refine aa ?_;refine ao (iJ (a7:=λI hw=>afU (afN.getD i default) (c.br.getD i default) I (rs.getD i default) (hw.now (PK i (by omega)) aL)) (ab:=?_));rintro v bx a6 rfl cA;refine bg (λh3=>?_) λh3=>?_
  ·rw[amk]at h3;refine bl λI hw=>?_;have:s6 rs ws c=false:=by unfold s6;rw[kx bF h3];simp
   rw[this];rfl
  rw[amm]at h3;refine aa ?_;exact bt (i+1) ⟨by omega,kq bS h3⟩ (by omega) (hA:=c7)
 have hy:i=c.br.length:=by rw[ar]at h2;omega
 refine aa ?_;refine b9 (λk:Nat=>k<=c.co.length/\∀j,j<k->decide (pK (c.co.getD j default)=ws.getD j default)=true) (λs=>[(45,true,.int .i64 s),(44,true,.int .i64 Hv.length),(43,true,ae),(2,true,ax hc)]) (λs=>Mem [(w,an)] [.box eN [cz,ae] 53,.box hc [aJ,iU] 142]) (λs=>c.co.length-s) (0) ⟨amz _,λj ad=>absurd ad (anp _)⟩ ?_ ⟨rfl,rfl,rfl,rfl,trivial⟩ c7
 rintro k ⟨hk,OS⟩;refine bg (λaC=>?_) λaC=>?_
 ·have c5:k<c.co.length:=by rw[aq]at aC;omega
  have nO:=Yo k c5;refine aa ?_;refine cV [0,3,4,5,6,7,1,2,8,9] mixed ?_;refine aP ?_;refine bL _ (h:=gr (λI hw=>agQ (Hv.getD k default) I nO.aG) ?_);rintro v cp es bX ⟨b,rfl,rfl⟩;refine aF (aP ?_) (bM [1,2]);refine bL _ (h:=gr (λI hw=>ags b (Hv.getD k default) (c.co.getD k default) I (ai.M3 k c5) (xD (hw.own _ aL) rfl) (hw.now nO)) ?_);rintro v hD es gb ⟨aw,rfl⟩;refine aF (aP ?_) (bM [2,3]);refine bL _ (h:=iJ (a7:=λI hw=>af7 v (aix.getD k default) I (pK (c.co.getD k default)) (ws.getD k default) (hw.ed) (hw.now (aai k (by omega)) gC)) (ab:=?_));rintro v jI jJ rfl zQ;refine aF (aP ?_) (bM [2,3]);refine bg (λaW=>?_) λaW=>?_
  ·rw[amk]at aW;refine bl λI hw=>?_;have:s6 rs ws c=false:=by unfold s6;rw[kx c5 aW];simp
   rw[this];rfl
  rw[amm]at aW;refine aa ?_;exact bt (k+1) ⟨by omega,kq OS aW⟩ (by omega) (hA:=bM [2,3])
 have gY:k=c.co.length:=by rw[ar]at aC;omega
 refine bl λI hw=>?_;have:s6 rs ws c=true:=by unfold s6;rw[amq uf,amq r4,fX.2 λj ad=>bS j (by omega),fX.2 λj ad=>OS j (by omega)];rfl
 rw[this];rfl
theorem xG{lv aj aN bv aK aX ae aU bE:Value}{t:a1}(cz b1:Value)(c:cv)(w:World)(h:ha an w lv aj aN bv aK aX ae aU bE t)(ai:jW an w cz b1 c): bj prog 35 [.agg #[lv,aj,aN,bv,aK,aX,ae,aU,bE],.agg #[cz,b1]] w λ_ v _=>v=.int .i64 (fc t c):=by
 have k2:=ai.br.aG;obtain⟨_,kB,_,_⟩:=ai.co;have mE:=kB.aG;refine ca func35 ntmps35 ?_;refine ck λaT=>?_;refine ck λhc=>?_;refine ao (bw (λI hw=>TR I (h.now hw)) ?_);rintro v bx a6 rfl cA;refine bg (λh1=>?_) λh1=>?_
 ·rw[A1,amk]at h1;refine bl λI hw=>?_;unfold fc pN;rw[h1];rfl
 rw[A1,amm]at h1;refine aa ?_;refine cV [0,2,1,3,4] mixed ?_;refine aP ?_;refine bL _ (h:=bw (λI hw=>Wx I (h.now hw) h1) ?_);rintro v cp bX ⟨aJ,iU,rfl,fv,oZ⟩ fq;refine aF (aP ?_) eS;refine bL _ (h:=bw (λI hw=>V9 aJ iU cz b1 (uD t) (n1 t) c I (hw.Ke fv) (hw.Ke oZ) (ai.now hw)) ?_);rintro v hD gb rfl nj;refine aF (aP ?_) λ_ h=>h.cI.cI;refine bg (λh2=>?_) λh2=>?_
 ·rw[amk]at h2;refine bl λI hw=>?_;unfold fc oc;rw[h1,h2];rfl
 rw[amm]at h2;refine bl λI hw=>?_;unfold fc oc;rw[h1,h2];rfl
end Go.Proofs.bK
namespace Go.bU
def AG(t:a1)(c:cv)(i:Nat):Bool:=decide (c.br.getD i default= -1)||(decide ((t.J.getD i default).dir=1)&&decide (c.br.getD i default∈wr t (t.J.getD i default).loc))
def UG(t:a1)(c:cv)(k q:Nat):Bool:=decide ((wr t (k:Int)).getD q default∈c.co.getD k default)
def L5(t:a1)(c:cv)(k:Nat):Bool:=decide ((c.co.getD k default).length=(wr t (k:Int)).length)&&(List.range (wr t (k:Int)).length).all (UG t c k)
theorem Sz(t:a1)(c:cv)(i:Nat):AG t c i=decide (c.br.getD i default∈rr t i):=by
 unfold AG rr;by_cases h:(t.J.getD i default).dir=1
 ·rw[amo h,amN];simp only[amr,ami,amj,amG,h,true_and]
 rw[amn h,amN];simp only[amr,ami,amj,amG,aoH,h,false_and,or_false]
theorem RR{a:Int}:∀{l m:List Int},l.Nodup->(∀x,x∈l->x∈m)->m.length<=l.length->m.Perm l
 | [],m,_,_,aB=>by have:m=[]:=amO (by simpa using aB);subst this;exact .refl _
 | b::l,m,bh,ag,aB=>by
  have hb:b∈m:=ag b aL;have hp:=List.perm_cons_erase hb;refine hp.trans (.cons b (RR (a:=a) (List.nodup_cons.1 bh).2 (λx hx=>?_) ?_))
  ·have E8:x≠b:=λe=>(List.nodup_cons.1 bh).1 (e▸hx);exact(List.mem_erase_of_ne E8).2 (ag x (.tail _ hx))
  have:=List.length_erase_of_mem hb;simp at aB;omega
def y7(l:List Int):Prop:=l.Pairwise (· <·)
theorem L4(t:a1)(loc:Int)(n:Nat):y7 (rH t loc n):=by unfold y7 rH;rw[anz];refine anV (λ{a b} h=>?_) (anC _ (aoL (n:=n)));omega
theorem y7.nodup{l:List Int}(h:y7 l):l.Nodup:=anV (λ{a b} h=>by omega) h
theorem agk(l:List Int):(pK l).Pairwise (· <=·):=by have:=aol (le:=λx y:Int=>decide (x<=y)) (λa b c h1 h2=>by simp at *;omega) (λa b=>by simp;omega) l;exact anV (λ{a b} h=>by simpa using h) this
theorem TB{l m:List Int}(hp:l.Perm m)(hm:y7 m):pK l=m:=((Gr l).trans hp).eq_of_pairwise (le:=λa b=>a<=b) (λa b _ _ h1 h2=>by omega) (agk l) (anV (λ{a b} h=>by omega) hm)
theorem Dm(t:a1)(c:cv)(k:Nat):L5 t c k=decide (pK (c.co.getD k default)=wr t (k:Int)):=by
 rw[amN];simp only[L5,ami,amj,fX,UG];have aH:y7 (wr t (k:Int)):=L4 t _ _;constructor
 ·rintro⟨h1,h2⟩;refine TB (RR (a:=0) aH.nodup (λx hx=>?_) (by omega)) aH;obtain⟨q,aZ,rfl⟩:=se.1 hx;exact h2 q aZ
 intro h;have hp:(c.co.getD k default).Perm (wr t (k:Int)):=h▸(Gr _).symm;exact⟨hp.length_eq,λq aZ=>hp.mem_iff.2 (se.2 ⟨q,aZ,rfl⟩)⟩
theorem aeZ(t:a1):(uD t).length=t.J.length:=by simp[uD]
theorem aiq(t:a1):(n1 t).length=t.bb.length:=by simp[n1]
theorem SA(t:a1){i:Nat}(h:i<t.J.length):(uD t).getD i default=rr t i:=by unfold uD;rw[aml,amZ,ann h];rfl
theorem UH(t:a1){k:Nat}(h:k<t.bb.length):(n1 t).getD k default=wr t (k:Int):=by unfold n1;rw[aml,amZ,ann h];rfl
theorem q2(t:a1)(c:cv):oc t c=true↔c.br.length=t.J.length/\c.co.length=t.bb.length/\(∀i,i<t.J.length->AG t c i=true)/\∀k,k<t.bb.length->L5 t c k=true:=by
 simp only[oc,s6,ami,amj,fX,aeZ,aiq];constructor
 ·rintro⟨⟨⟨h1,h2⟩,h3⟩,aC⟩;refine⟨h1,h2,λi hi=>?_,λk hk=>?_⟩
  ·rw[Sz,<-SA t hi];exact amq (h3 i (by omega))
  rw[Dm,<-UH t hk];exact amq (aC k (by omega))
 rintro⟨h1,h2,h3,aC⟩;refine⟨⟨⟨h1,h2⟩,λi hi=>?_⟩,λk hk=>?_⟩
 ·have:=h3 i (by omega);rw[Sz,<-SA t (by omega)]at this;exact aog this
 have:=aC k (by omega);rw[Dm,<-UH t (by omega)]at this;exact aog this
end Go.bU
namespace Go.cc
open Go Go.RowKit
def fp{fU:Type}[DecidableEq fU]:List (fU×Value)->fU->Nat->Option (Nat×Value)
 | [],_,_=>none
 | p::r,x,i=>if x=p.1 then some (i,p.2)else fp r x (i+1)
def sw{fU:Type}[DecidableEq fU](l:List (fU×Value))(x:fU)(v:Value):List (fU×Value):=match fp l x 0 with
 | some (i,_)=>l.modify i λ_=>(x,v)
 | none=>l++[(x,v)]
class Dz(P:Program)(lO:TypeId){fU:outParam Type}(gA:outParam (fU->Value))[DecidableEq fU]:Prop where
 zj:∀(e:Bool) (x:fU) (w:World),(Instr.checkKey e 10000 lO (gA x)).run P w=.ok () w
 Ec:∀(es:List MapEntry) (l:List (fU×Value)) (x:fU) (w:World),es.map (λe=>(e.key,e.val))=l.map (λp=>(gA p.1,p.2))->(Instr.findKey lO (gA x) es).run P w=.ok (fp l x 0) w
 fl:∀x:fU,Instr.sameBits 10000 (gA x) (gA x)=true
def GY{fU:Type}(gA:fU->Value)(r:Nat)(l:List (fU×Value))(w:World):Prop:=∃es k,w.heap[r]?=some (.map es k)/\es.toList.map (λe=>(e.key,e.val))=l.map (λp=>(gA p.1,p.2))
def qc{fU:Type}(gA:fU->Value)(r:Nat)(l:List (fU×Value)):aA:=.gen [r] (GY gA r l)
theorem QU{fU:Type}{gA:fU->Value}{r:Nat}{l:List (fU×Value)}{w:World}(h:GY gA r l w):(qc gA r l).ok w:=λI cr=>by obtain⟨es,k,h1,h2⟩:=h;exact⟨es,k,(cr r (by simp)).trans h1,h2⟩
theorem QT{fU:Type}{gA:fU->Value}{r:Nat}{l:List (fU×Value)}{w:World}(h:(qc gA r l).ok w):GY gA r l w:=h w λ_ _=>rfl
theorem Eb{fU:Type}[DecidableEq fU]:∀{l:List (fU×Value)} {x:fU} {i j:Nat} {v:Value},fp l x i=some (j,v)->i<=j/\j<i+l.length
 | p::r,x,i,j,v,h=>by
  unfold fp at h;split at h
  ·injection h with h;injection h with h1 h2;subst h1;simp
  have:=Eb h;simp;omega
section
variable {P:Program} {N:Nat} {tm:dU} {bs:List dr} {H:List aA} {K:Act->World->Prop} {Q:Exit->Act->World->Prop} {c:Bool}
theorem OD{fU:Type}{gA:fU->Value}{d:Nat}{t:TypeId}(hd:Nat.blt d N=true:=by rfl) (ab:∀r,cL N K ((d,true,.map (some r))::tm) (Mem bs (qc gA r []::H))):gq P N (.makeMap t none) (some d) Q tm (Mem bs H) K:=by
 unfold gq cL at *;intro a w ty pos cR g ag hw;unfold Oper.wp;have aH:(execOp a.eval ⟨some d,.makeMap t none,ty,pos,cR,g⟩).run P w=.ok (.value (.map (some w.heap.size))) (w.alloc (.map #[] 0)):=by simp only[execOp,Option.map_none,Sem.run_bind,S2,Result.andThen];rfl
 rw[aH];refine ab _ _ _ (by simpa using ag.put (anm.mp hd) true _) (hw.new rfl rfl rfl (by simp) (λk hk=>heap_alloc_old w _ hk) (QU ⟨#[],0,heap_alloc_new w _,rfl⟩) (λk hk=>?_) λk hk=>?_)
 ·simp only[qc,aA.cX,amv]at hk;subst hk;simp
 simp only[qc,aA.cX,amv]at hk;omega
theorem OE{fU:Type}{gA:fU->Value}[DecidableEq fU]{t lO wO r i:Nat}{x:fU}{v:Value}{l:List (fU×Value)}{m y z:Operand}{op:Op}[aE:jg P t (.map lO wO)][hk:Dz P lO gA](mb:op=.mapUpdate t m y z\/op=.insert t m y z) (hm:bo tm true m (.map (some r)):=by exact(bY rfl)) (hx:bo tm true y (gA x):=by exact(bY rfl)) (aR:bo tm true z v:=by exact(bY rfl)) (hi:H[i]?=some (qc gA r l)) (ab:cL N K tm (Mem bs (H.set i (qc gA r (sw l x v))))):gq P N op none Q tm (Mem bs H) K:=by
 unfold gq cL at *;intro a w ty pos cR g ag hw;unfold Oper.wp;obtain⟨es,k,hb,he⟩:=QT (hw.own _ (amF hi));have eP:r<w.heap.size:=by
  rcases amY r w.heap.size with q | q
  ·exact q
  rw[anu q]at hb;cases hb
 have vr:=hk.Ec es.toList l x w he;have bG:es.size=l.length:=by have:=amC List.length he;simpa using this
 have main:∀fF cF,(execOp a.eval ⟨none,op,ty,pos,cR,g⟩).run P w=.ok .skip {w with heap:=w.heap.setIfInBounds r (.map fF cF)}->fF.toList.map (λe=>(e.key,e.val))=(sw l x v).map (λp=>(gA p.1,p.2))-> (match(execOp a.eval ⟨none,op,ty,pos,cR,g⟩).run P w with | .ok .skip I=>K a I | _=>False):=λfF cF aH gX=>by
  rw[aH];refine ab a _ ag (hw.rC hi rfl rfl rfl (by simp) (λj _ ad=>?_) (QU ⟨fF,cF,?_,gX⟩) (λj ad=>?_) λj ad=>.inl ad)
  ·simp only[qc,aA.cX,amv]at ad;simp[Array.getElem?_setIfInBounds,show ¬r=j from λe=>ad e.symm]
  ·simp[eP]
  simp only[qc,aA.cX,amv]at ad;subst ad;simpa using eP
 have kl:∃fF cF,(execOp a.eval ⟨none,op,ty,pos,cR,g⟩).run P w=.ok .skip {w with heap:=w.heap.setIfInBounds r (.map fF cF)}/\fF.toList.map (λe=>(e.key,e.val))=(sw l x v).map (λp=>(gA p.1,p.2)):=by
  cases hf:fp l x 0 with
  | none=>
   rw[hf]at vr;refine⟨es.push ⟨gA x,v,k⟩,k+1,?_,?_⟩
   ·rcases mb with rfl | rfl<;>simp[execOp,hm.get ag rfl,hx.get ag rfl,aR.get ag rfl,Instr.mapUpdate,run_underlying aE.h,AN hb,hk.zj,vr,Le _ hb,Result.andThen]
   unfold sw;rw[hf];simp[he]
  | some q=>
   obtain⟨j,u⟩:=q;rw[hf]at vr;have ad:=(Eb hf).2;have qz:j<es.size:=by omega
   have EL:es[j].key=gA (l[j]'(by omega)).1:=by
    have h1:(es.toList.map λe=>(e.key,e.val))[j]?=(l.map λp=>(gA p.1,p.2))[j]?:=by rw[he]
    simp[qz,show j<l.length by omega]at h1;exact h1.1
   have nm:x=(l[j]'(by omega)).1:=by
    have key:∀(l:List (fU×Value)) (i j:Nat) (u:Value) (h:fp l x i=some (j,u)) (ad:j-i<l.length),x=(l[j-i]'ad).1:=by
     intro l
     induction l with
     | nil=>intro i j u h;cases h
     | cons p r bH=>
      intro i j u h ad;unfold fp at h;split at h
      ·rename_i e;injection h with h;injection h with h1 h2;subst h1;simpa using e
      have h1:=Eb h;have h2:=bH (i+1) j u h (by omega);have e:j-i=(j-(i+1))+1:=by omega
      simp only[e,List.getElem_cons_succ];exact h2
    have:=key l 0 j u hf (by omega);simpa using this
   refine⟨es.modify j λe=>{e with key:=gA x,val:=v},k,?_,?_⟩
   ·rcases mb with rfl | rfl<;>simp[execOp,hm.get ag rfl,hx.get ag rfl,aR.get ag rfl,Instr.mapUpdate,run_underlying aE.h,AN hb,hk.zj,vr,Le _ hb,Result.andThen,Instr.keyThatStays,qz,EL,<-nm,hk.fl]
   unfold sw;rw[hf];simp only[Array.toList_modify];refine aof λn=>?_;have h1:(es.toList.map λe=>(e.key,e.val))[n]?=(l.map λp=>(gA p.1,p.2))[n]?:=by rw[he]
   simp only[amZ,List.getElem?_modify]at h1⊢;by_cases e:j=n
   ·subst e;simp[qz,show j<l.length by omega]
   simp[e];simpa using h1
 obtain⟨fF,cF,h1,h2⟩:=kl;have:=main fF cF h1 h2;rw[h1]at this⊢;exact this
theorem Sk{fU:Type}{gA:fU->Value}[DecidableEq fU]{t lO wO r sz b:Nat}{x:fU}{z:Value}{l:List (fU×Value)}{m y:Operand}{ok:Bool}[aE:jg P t (.map lO wO)][hk:Dz P lO gA][cP:dh P wO sz b z] (hm:bo tm c m (.map (some r)):=by exact b7) (hx:bo tm c y (gA x):=by exact b7) (hmem:qc gA r l∈H:=by exact ox): bR P N (.lookup t m y ok) tm (Mem bs H) c (bif ok then .tuple #[((fp l x 0).map (·.2)).getD z,.bool (fp l x 0).isSome]else((fp l x 0).map (·.2)).getD z):=by
 unfold bR;intro ai a w d ty pos cR g cn hw;obtain⟨es,k,hb,he⟩:=QT (hw.own _ hmem);have vr:=hk.Ec es.toList l x w he;obtain⟨i,hi,_,_,aY⟩:=cP.h;simp only[execOp,hm.get cn ai,hx.get cn ai];refine hG ?_;cases hf:fp l x 0 with
 | none=>rw[hf]at vr;cases ok<;>simp[Instr.lookup,run_underlying aE.h,AN hb,hk.zj,vr,Result.andThen,zeroValue,typeInfo,hi,aY]
 | some q=>rw[hf]at vr;cases ok<;>simp[Instr.lookup,run_underlying aE.h,AN hb,hk.zj,vr,Result.andThen]
end
end Go.cc
namespace Go.Proofs.bK
instance:jg prog 235 (.map 25 3):=⟨underlying235⟩
instance:jg prog 318 (.map 9 3):=⟨underlying318⟩
theorem Hf(a b:ByteArray):(a==b)=decide (a=b):=by rw[<-DL,beq_toListBytes]
instance:Dz prog 9 Value.string where
 zj e x w:=by
  show(Instr.checkKey e (9999+1) _ _).run _ _=_
  unfold Instr.checkKey
  simp only[Sem.run_bind,run_underlying underlying9,Result.andThen]
  rfl
 Ec es l x w he:=by
  have key:∀(l:List (ByteArray×Value)) (es:List MapEntry) (i:Nat),es.map (λe=>(e.key,e.val))=l.map (λp=>(Value.string p.1,p.2))->Instr.findNow .string (.string x) es i=some (fp l x i):=by
   intro l
   induction l with
   | nil=>intro es i h;exact(by simpa using h:es=[])▸rfl
   | cons p r bH=>
    intro es i h
    cases es with
    | nil=>simp at h
    | cons e es=>
     simp only[am8,aoB,Prod.mk.injEq]at h
     unfold Instr.findNow fp
     rw[h.1.1]
     show(match some (x==p.1)with | some true=>_ | some false=>_ | none=>_)=_
     rw[Hf]
     by_cases q:x=p.1
     ·rw[amq q,amo q,h.1.2]
     rw[amy q,amn q];exact bH es (i+1) h.2
  simp[Instr.findKey,run_underlying underlying9,Result.andThen,key l es 0 he]
 fl x:=by unfold Instr.sameBits;rw[Hf];simp
def s3(x:cE):Value:=.agg (ev x).toArray
instance:Dz prog 25 s3 where
 zj e x w:=by
  obtain⟨a,b,c⟩:=x
  show(Instr.checkKey e (9998+1+1) _ (.agg #[.int .i64 a,.int .i64 b,.string c])).run _ _=_
  have ci:∀v:Int,(Instr.checkKey e (9998+1) 3 (.int .i64 v)).run prog w=.ok () w:=λv=>by unfold Instr.checkKey;simp only[Sem.run_bind,run_underlying underlying3,Result.andThen];rfl
  have cs:∀v:ByteArray,(Instr.checkKey e (9998+1) 9 (.string v)).run prog w=.ok () w:=λv=>by unfold Instr.checkKey;simp only[Sem.run_bind,run_underlying underlying9,Result.andThen];rfl
  unfold Instr.checkKey
  simp only[Sem.run_bind,run_underlying underlying25,Result.andThen]
  simp[part,isAgg,run_underlying underlying3,run_underlying underlying9,ci,cs,Result.andThen]
 Ec es l x w he:=by
  have hd:prog.underlying 25=some (.struct (prog.fieldsOf 25)):=by rw[Program.fieldsOf,underlying25]
  have ask:∀(l:List (cE×Value)) (es:List MapEntry) (i:Nat),es.map (λe=>(e.key,e.val))=l.map (λp=>(s3 p.1,p.2))->(Instr.findAsking 25 (s3 x) es i).run prog w=.ok (fp l x i) w:=by
   intro l
   induction l with
   | nil=>intro es i h;exact(by simpa using h:es=[])▸rfl
   | cons p r bH=>
    intro es i h
    cases es with
    | nil=>simp at h
    | cons e es=>
     simp only[am8,aoB,Prod.mk.injEq]at h
     unfold Instr.findAsking fp
     rw[h.1.1]
     have aZ:=xv.h (P:=prog) (t:=25) (enc:=ev) x p.1 w
     simp only[Sem.run_bind,show Op.equal 25 (s3 x) (s3 p.1)=Op.equalIn 10000 25 (.agg (ev x).toArray) (.agg (ev p.1).toArray)from rfl,aZ,Result.andThen]
     by_cases q:x=p.1
     ·rw[amq q,amo q,h.1.2];rfl
     rw[amy q,amn q];exact bH es (i+1) h.2
  cases es with
  | nil=>
   have:l=[]:=by simpa using he.symm
   subst this
   simp[Instr.findKey,run_underlying hd,Result.andThen,Instr.findNow,fp]
  | cons e es=>
   have h1:=ask l (e::es) 0 he
   have h2:Instr.findNow (.struct (prog.fieldsOf 25)) (s3 x) (e::es) 0=none:=by
    unfold Instr.findNow
    rfl
   simp[Instr.findKey,run_underlying hd,Result.andThen,h2,h1]
 fl x:=by
  obtain⟨a,b,c⟩:=x
  show Instr.sameBits (9999+1) (.agg #[.int .i64 a,.int .i64 b,.string c]) (.agg #[.int .i64 a,.int .i64 b,.string c])=true
  simp[Instr.sameBits,Hf]
end Go.Proofs.bK
