/- Lemmas for the law WholeComplete. -/
import Derived.Test.YtiknadellddjhaaGreatDoorC09
import Derived.Test.YtiknadellddjhaaGreatDoorC11
set_option linter.all false
open Go.Proofs.Tryz
set_option maxHeartbeats 1600000
open Go Go.b9 Go.bM
namespace Go.b9
open Go Go.RowKit
theorem Mem.zi{bs:List dm}{H:List aB}{S:Nat->Prop}{B I:World}{v:Value}{xss:List (List Int)}(hw:Mem bs H I)(h:o0 S B v xss)(hB:(B,S)∈bs:=by repeat (first | exact List.Mem.head _ | refine List.Mem.tail _ ?_)):o0 al I v xss:=by obtain⟨vs,h1,h2,h3⟩:=h;exact⟨vs,hw.now h1 hB,h2,λi hi=>hw.now (h3 i hi) hB⟩
end Go.b9
namespace Go.bM
structure cw where
 bE:List Int
 co:List (List Int)
structure ke(S:Nat->Prop)(w:World)(cI ad:Value)(c:cw):Prop where
 bE:aZ S w a7 1 cI c.bE
 co:o0 S w ad c.co
 En:∀i,i<c.co.length->(c.co.getD i default).length* 8<=140737488351232
theorem ke.now{S:Nat->Prop}{B I:World}{cI ad:Value}{c:cw}{bs:List dm}{H:List aB}(h:ke S B cI ad c)(hw:Mem bs H I)(hB:(B,S)∈bs:=by repeat (first | exact List.Mem.head _ | refine List.Mem.tail _ ?_)):ke al I cI ad c:=⟨hw.now h.bE hB,hw.zi h.co hB,h.En⟩
def tn(rs ws:List (List Int))(c:cw):Bool:=decide (c.bE.length=rs.length)&&decide (c.co.length=ws.length)&&((List.range c.bE.length).all λi=>decide (c.bE.getD i default∈rs.getD i default))&&(List.range c.co.length).all λk=>decide (pS (c.co.getD k default)=ws.getD k default)
def oD(t:aW)(c:cw):Bool:=tn (qp t) (lZ t) c
def fj(t:aW)(c:cw):Int:=if e0 t=true then if oD t c=true then 0 else 160 else 1
end Go.bM
namespace Go.Proofs.bA
attribute [local irreducible] wpList Code.wp bodyPost Exit.then Exit.inBlock Calls
theorem Xj(aE gB cI ad:Value)(rs ws:List (List Int))(c:cw)(w:World)(aM:o0 al w aE rs)(ht:o0 al w gB ws)(ai:ke al w cI ad c): bl prog 96 [.agg #[aE,gB],.agg #[cI,ad]] w λ_ v _=>v=.bool (tn rs ws c):=by
 obtain⟨wP,eo,ep,tG⟩:=aM;obtain⟨w1,lP,jU,uP⟩:=ht;have hF:=ai.bE;obtain⟨H3,iv,eA,ZB⟩:=ai.co;have Ze:=hF.le;have QG:=eo.le;have Q0:=lP.le;have ZE:=iv.le;have iz:=eo.aK;have FJ:=lP.aK;have lv:=hF.aK;have fP:=iv.aK;refine bZ func96 ntmps96 ?_;refine b7 λfy=>?_;refine b7 λeQ=>?_;refine bC (λh1=>?_) λh1=>?_
 ·refine bf λI hw=>?_;have:tn rs ws c=false:=by simp only[aox,aoq,au]at h1;simp only[tn,aoC,aoA];omega
  rw[this];rfl
 simp only[aoz,aos,an]at h1;have uI:c.bE.length=rs.length:=by omega
 have sm:c.co.length=ws.length:=by omega
 refine U ?_;refine bX (λi:Nat=>i<=c.bE.length/\∀j,j<i->decide (c.bE.getD j default∈rs.getD j default)=true) (λs=>[(28,true,.int .i64 s),(27,true,.int .i64 c.bE.length),(26,true,cI),(3,true,av eQ),(2,true,av fy)]) (λs=>Mem [(w,al)] [.box eQ [cI,ad] 53,.box fy [aE,gB] 142]) (λs=>c.bE.length-s) (0) ⟨aoD _,λj ae=>absurd ae (apw _)⟩ ?_ ⟨rfl,rfl,rfl,rfl,rfl,trivial⟩ cv
 rintro i ⟨hi,bG⟩;refine a8 (λh2=>?_) λh2=>?_
 ·have bq:i<c.bE.length:=by rw[an]at h2;omega
  refine U ?_;refine aq (hq (bb:=λI hw=>ahA (wP.getD i default) (c.bE.getD i default) I (rs.getD i default) (hw.now (tG i (by omega)) aP)) (ab:=?_));rintro v bx bc rfl cu;refine a8 (λh3=>?_) λh3=>?_
  ·rw[aoq]at h3;refine bf λI hw=>?_;have:tn rs ws c=false:=by unfold tn;rw[hQ bq h3];simp
   rw[this];rfl
  rw[aos]at h3;refine U ?_;exact bm (i+1) ⟨by omega,jl bG h3⟩ (by omega) (hA:=cv)
 have gY:i=c.bE.length:=by rw[au]at h2;omega
 refine U ?_;refine bX (λk:Nat=>k<=c.co.length/\∀j,j<k->decide (pS (c.co.getD j default)=ws.getD j default)=true) (λs=>[(45,true,.int .i64 s),(44,true,.int .i64 H3.length),(43,true,ad),(2,true,av fy)]) (λs=>Mem [(w,al)] [.box eQ [cI,ad] 53,.box fy [aE,gB] 142]) (λs=>c.co.length-s) (0) ⟨aoD _,λj ae=>absurd ae (apw _)⟩ ?_ ⟨rfl,rfl,rfl,rfl,trivial⟩ cv
 rintro k ⟨hk,PM⟩;refine a8 (λaA=>?_) λaA=>?_
 ·have da:k<c.co.length:=by rw[an]at aA;omega
  have mX:=ZB k da;refine U ?_;refine cz [0,3,4,5,6,7,1,2,8,9] mixed ?_;refine aN ?_;refine bO _ (h:=gi (λI hw=>aiB (H3.getD k default) I mX.aK) ?_);rintro v ck es bY ⟨b,rfl,rfl⟩;refine aF (aN ?_) (bD [1,2]);refine bO _ (h:=gi (λI hw=>aic b (H3.getD k default) (c.co.getD k default) I (ai.En k da) (yc (hw.own _ aP) rfl) (hw.now mX)) ?_);rintro v hj es fW ⟨ax,rfl⟩;refine aF (aN ?_) (bD [2,3]);refine bO _ (h:=hq (bb:=λI hw=>ahQ v (w1.getD k default) I (pS (c.co.getD k default)) (ws.getD k default) (hw.dX) (hw.now (uP k (by omega)) hy)) (ab:=?_));rintro v ia ig rfl xD;refine aF (aN ?_) (bD [2,3]);refine a8 (λa6=>?_) λa6=>?_
  ·rw[aoq]at a6;refine bf λI hw=>?_;have:tn rs ws c=false:=by unfold tn;rw[hQ da a6];simp
   rw[this];rfl
  rw[aos]at a6;refine U ?_;exact bm (k+1) ⟨by omega,jl PM a6⟩ (by omega) (hA:=bD [2,3])
 have hg:k=c.co.length:=by rw[au]at aA;omega
 refine bf λI hw=>?_;have:tn rs ws c=true:=by unfold tn;rw[aow uI,aow sm,fT.2 λj ae=>bG j (by omega),fT.2 λj ae=>PM j (by omega)];rfl
 rw[this];rfl
theorem yf{ak ah aI bv aG aR ad aT bj:Value}{t:aW}(cI b8:Value)(c:cw)(w:World)(h:fB al w ak ah aI bv aG aR ad aT bj t)(ai:ke al w cI b8 c): bl prog 35 [.agg #[ak,ah,aI,bv,aG,aR,ad,aT,bj],.agg #[cI,b8]] w λ_ v _=>v=.int .i64 (fj t c):=by
 have lv:=ai.bE.aK;obtain⟨_,mb,_,_⟩:=ai.co;have nb:=mb.aK;refine bZ func35 ntmps35 ?_;refine b7 λaQ=>?_;refine b7 λfy=>?_;refine aq (bp (λI hw=>Mp I (h.now hw)) ?_);rintro v bx bc rfl cu;refine a8 (λh1=>?_) λh1=>?_
 ·rw[ve,aoq]at h1;refine bf λI hw=>?_;unfold fj nt;rw[h1];rfl
 rw[ve,aos]at h1;refine U ?_;refine cz [0,2,1,3,4] mixed ?_;refine aN ?_;refine bO _ (h:=bp (λI hw=>Ot I (h.now hw) h1) ?_);rintro v ck bY ⟨aE,gB,rfl,eo,lP⟩ eZ;refine aF (aN ?_) ek;refine bO _ (h:=bp (λI hw=>Xj aE gB cI b8 (qp t) (lZ t) c I (hw.zi eo) (hw.zi lP) (ai.now hw)) ?_);rintro v hj fW rfl nG;refine aF (aN ?_) λ_ h=>h.cX.cX;refine a8 (λh2=>?_) λh2=>?_
 ·rw[aoq]at h2;refine bf λI hw=>?_;unfold fj oD;rw[h1,h2];rfl
 rw[aos]at h2;refine bf λI hw=>?_;unfold fj oD;rw[h1,h2];rfl
end Go.Proofs.bA
namespace Go.bM
def DE(t:aW)(c:cw)(i:Nat):Bool:=decide (c.bE.getD i default= -1)||(decide ((t.J.getD i default).dir=1)&&decide (c.bE.getD i default∈wr t (t.J.getD i default).loc))
def VF(t:aW)(c:cw)(k q:Nat):Bool:=decide ((wr t (k:Int)).getD q default∈c.co.getD k default)
def MW(t:aW)(c:cw)(k:Nat):Bool:=decide ((c.co.getD k default).length=(wr t (k:Int)).length)&&(List.range (wr t (k:Int)).length).all (VF t c k)
theorem Lw(t:aW)(c:cw)(i:Nat):DE t c i=decide (c.bE.getD i default∈jj t i):=by
 unfold DE jj;by_cases h:(t.J.getD i default).dir=1
 ·rw[aou h,aoR];simp only[aox,aoo,aop,aoO,h,true_and]
 rw[aot h,aoR];simp only[aox,aoo,aop,aoO,aq2,h,false_and,or_false]
theorem SM{a:Int}:∀{l m:List Int},l.Nodup->(∀x,x∈l->x∈m)->m.length<=l.length->m.Perm l
 | [],m,_,_,aL=>by have:m=[]:=aoY (by simpa using aL);subst this;exact .refl _
 | b::l,m,bd,aj,aL=>by
  have hb:b∈m:=aj b aP;have hp:=List.perm_cons_erase hb;refine hp.trans (.cons b (SM (a:=a) (List.nodup_cons.1 bd).2 (λx hx=>?_) ?_))
  ·have FK:x≠b:=λe=>(List.nodup_cons.1 bd).1 (e▸hx);exact(List.mem_erase_of_ne FK).2 (aj x (.tail _ hx))
  have:=List.length_erase_of_mem hb;simp at aL;omega
def zP(l:List Int):Prop:=l.Pairwise (· <·)
theorem MV(t:aW)(loc:Int)(n:Nat):zP (rf t loc n):=by unfold zP rf;rw[apI];refine ap1 (λ{a b} h=>?_) (apL _ (aq6 (n:=n)));omega
theorem zP.nodup{l:List Int}(h:zP l):l.Nodup:=ap1 (λ{a b} h=>by omega) h
theorem ah5(l:List Int):(pS l).Pairwise (· <=·):=by have:=aqy (le:=λx y:Int=>decide (x<=y)) (λa b c h1 h2=>by simp at *;omega) (λa b=>by simp;omega) l;exact ap1 (λ{a b} h=>by simpa using h) this
theorem Uw{l m:List Int}(hp:l.Perm m)(hm:zP m):pS l=m:=((G0 l).trans hp).eq_of_pairwise (le:=λa b=>a<=b) (λa b _ _ h1 h2=>by omega) (ah5 l) (ap1 (λ{a b} h=>by omega) hm)
theorem D0(t:aW)(c:cw)(k:Nat):MW t c k=decide (pS (c.co.getD k default)=wr t (k:Int)):=by
 rw[aoR];simp only[MW,aoo,aop,fT,VF];have aM:zP (wr t (k:Int)):=MV t _ _;constructor
 ·rintro⟨h1,h2⟩;refine Uw (SM (a:=0) aM.nodup (λx hx=>?_) (by omega)) aM;obtain⟨q,ba,rfl⟩:=uX.1 hx;exact h2 q ba
 intro h;have hp:(c.co.getD k default).Perm (wr t (k:Int)):=h▸(G0 _).symm;exact⟨hp.length_eq,λq ba=>hp.mem_iff.2 (uX.2 ⟨q,ba,rfl⟩)⟩
theorem LB(t:aW):(qp t).length=t.J.length:=by simp[qp]
theorem MY(t:aW):(lZ t).length=t.aO.length:=by simp[lZ]
theorem GG(t:aW){i:Nat}(h:i<t.J.length):(qp t).getD i default=jj t i:=by unfold qp;rw[aor,ao4,apk h];rfl
theorem Hn(t:aW){k:Nat}(h:k<t.aO.length):(lZ t).getD k default=wr t (k:Int):=by unfold lZ;rw[aor,ao4,apk h];rfl
theorem r6(t:aW)(c:cw):oD t c=true↔c.bE.length=t.J.length/\c.co.length=t.aO.length/\(∀i,i<t.J.length->DE t c i=true)/\∀k,k<t.aO.length->MW t c k=true:=by
 simp only[oD,tn,aoo,aop,fT,LB,MY];constructor
 ·rintro⟨⟨⟨h1,h2⟩,h3⟩,aA⟩;refine⟨h1,h2,λi hi=>?_,λk hk=>?_⟩
  ·rw[Lw,<-GG t hi];exact aow (h3 i (by omega))
  rw[D0,<-Hn t hk];exact aow (aA k (by omega))
 rintro⟨h1,h2,h3,aA⟩;refine⟨⟨⟨h1,h2⟩,λi hi=>?_⟩,λk hk=>?_⟩
 ·have:=h3 i (by omega);rw[Lw,<-GG t (by omega)]at this;exact aqn this
 have:=aA k (by omega);rw[D0,<-Hn t (by omega)]at this;exact aqn this
end Go.bM
namespace Go.b9
open Go Go.RowKit
def fz{ga:Type}[DecidableEq ga]:List (ga×Value)->ga->Nat->Option (Nat×Value)
 | [],_,_=>none
 | p::r,x,i=>if x=p.1 then some (i,p.2)else fz r x (i+1)
def sS{ga:Type}[DecidableEq ga](l:List (ga×Value))(x:ga)(v:Value):List (ga×Value):=match fz l x 0 with
 | some (i,_)=>l.modify i λ_=>(x,v)
 | none=>l++[(x,v)]
class Ed(P:Program)(mg:TypeId){ga:outParam Type}(fI:outParam (ga->Value))[DecidableEq ga]:Prop where
 z7:∀(e:Bool) (x:ga) (w:World),(Instr.checkKey e 10000 mg (fI x)).run P w=.ok () w
 ER:∀(es:List MapEntry) (l:List (ga×Value)) (x:ga) (w:World),es.map (λe=>(e.key,e.val))=l.map (λp=>(fI p.1,p.2))->(Instr.findKey mg (fI x) es).run P w=.ok (fz l x 0) w
 eX:∀x:ga,Instr.sameBits 10000 (fI x) (fI x)=true
def Hs{ga:Type}(fI:ga->Value)(r:Nat)(l:List (ga×Value))(w:World):Prop:=∃es k,w.heap[r]?=some (.map es k)/\es.toList.map (λe=>(e.key,e.val))=l.map (λp=>(fI p.1,p.2))
def qj{ga:Type}(fI:ga->Value)(r:Nat)(l:List (ga×Value)):aB:=.gen [r] (Hs fI r l)
theorem RR{ga:Type}{fI:ga->Value}{r:Nat}{l:List (ga×Value)}{w:World}(h:Hs fI r l w):(qj fI r l).ok w:=λI cm=>by obtain⟨es,k,h1,h2⟩:=h;exact⟨es,k,(cm r (by simp)).trans h1,h2⟩
theorem RQ{ga:Type}{fI:ga->Value}{r:Nat}{l:List (ga×Value)}{w:World}(h:(qj fI r l).ok w):Hs fI r l w:=h w λ_ _=>rfl
theorem EP{ga:Type}[DecidableEq ga]:∀{l:List (ga×Value)} {x:ga} {i j:Nat} {v:Value},fz l x i=some (j,v)->i<=j/\j<i+l.length
 | p::r,x,i,j,v,h=>by
  unfold fz at h;split at h
  ·injection h with h;injection h with h1 h2;subst h1;simp
  have:=EP h;simp;omega
section
variable {P:Program} {N:Nat} {tm:dY} {bs:List dm} {H:List aB} {K:Act->World->Prop} {Q:Exit->Act->World->Prop} {c:Bool}
theorem PA{ga:Type}{fI:ga->Value}{d:Nat}{t:TypeId}(hd:Nat.blt d N=true:=by rfl) (ab:∀r,cR N K ((d,true,.map (some r))::tm) (Mem bs (qj fI r []::H))):gz P N (.makeMap t none) (some d) Q tm (Mem bs H) K:=by
 unfold gz cR at *;intro a w ty pos cV g aj hw;unfold Oper.wp;have aM:(execOp a.eval ⟨some d,.makeMap t none,ty,pos,cV,g⟩).run P w=.ok (.value (.map (some w.heap.size))) (w.alloc (.map #[] 0)):=by simp only[execOp,Option.map_none,Sem.run_bind,T1,Result.andThen];rfl
 rw[aM];refine ab _ _ _ (by simpa using aj.put (apv.mp hd) true _) (hw.new rfl rfl rfl (by simp) (λk hk=>heap_alloc_old w _ hk) (RR ⟨#[],0,heap_alloc_new w _,rfl⟩) (λk hk=>?_) λk hk=>?_)
 ·simp only[qj,aB.cN,aoB]at hk;subst hk;simp
 simp only[qj,aB.cN,aoB]at hk;omega
theorem PB{ga:Type}{fI:ga->Value}[DecidableEq ga]{t mg xj r i:Nat}{x:ga}{v:Value}{l:List (ga×Value)}{m y z:Operand}{op:Op}[aJ:jr P t (.map mg xj)][hk:Ed P mg fI](mG:op=.mapUpdate t m y z\/op=.insert t m y z) (hm:bt tm true m (.map (some r)):=by exact(b3 rfl)) (hx:bt tm true y (fI x):=by exact(b3 rfl)) (aY:bt tm true z v:=by exact(b3 rfl)) (hi:H[i]?=some (qj fI r l)) (ab:cR N K tm (Mem bs (H.set i (qj fI r (sS l x v))))):gz P N op none Q tm (Mem bs H) K:=by
 unfold gz cR at *;intro a w ty pos cV g aj hw;unfold Oper.wp;obtain⟨es,k,hb,he⟩:=RQ (hw.own _ (aoM hi));have ep:r<w.heap.size:=by
  rcases ao6 r w.heap.size with q | q
  ·exact q
  rw[apD q]at hb;cases hb
 have vY:=hk.ER es.toList l x w he;have bH:es.size=l.length:=by have:=aoI List.length he;simpa using this
 have main:∀fN c4,(execOp a.eval ⟨none,op,ty,pos,cV,g⟩).run P w=.ok .skip {w with heap:=w.heap.setIfInBounds r (.map fN c4)}->fN.toList.map (λe=>(e.key,e.val))=(sS l x v).map (λp=>(fI p.1,p.2))-> (match(execOp a.eval ⟨none,op,ty,pos,cV,g⟩).run P w with | .ok .skip I=>K a I | _=>False):=λfN c4 aM ft=>by
  rw[aM];refine ab a _ aj (hw.q9 hi rfl rfl rfl (by simp) (λj _ ae=>?_) (RR ⟨fN,c4,?_,ft⟩) (λj ae=>?_) λj ae=>.inl ae)
  ·simp only[qj,aB.cN,aoB]at ae;simp[Array.getElem?_setIfInBounds,show ¬r=j from λe=>ae e.symm]
  ·simp[ep]
  simp only[qj,aB.cN,aoB]at ae;subst ae;simpa using ep
 have kE:∃fN c4,(execOp a.eval ⟨none,op,ty,pos,cV,g⟩).run P w=.ok .skip {w with heap:=w.heap.setIfInBounds r (.map fN c4)}/\fN.toList.map (λe=>(e.key,e.val))=(sS l x v).map (λp=>(fI p.1,p.2)):=by
  cases hf:fz l x 0 with
  | none=>
   rw[hf]at vY;refine⟨es.push ⟨fI x,v,k⟩,k+1,?_,?_⟩
   ·rcases mG with rfl | rfl<;>simp[execOp,hm.get aj rfl,hx.get aj rfl,aY.get aj rfl,Instr.mapUpdate,run_underlying aJ.h,Bu hb,hk.z7,vY,L2 _ hb,Result.andThen]
   unfold sS;rw[hf];simp[he]
  | some q=>
   obtain⟨j,u⟩:=q;rw[hf]at vY;have ae:=(EP hf).2;have qM:j<es.size:=by omega
   have Fo:es[j].key=fI (l[j]'(by omega)).1:=by
    have h1:(es.toList.map λe=>(e.key,e.val))[j]?=(l.map λp=>(fI p.1,p.2))[j]?:=by rw[he]
    simp[qM,show j<l.length by omega]at h1;exact h1.1
   have jV:x=(l[j]'(by omega)).1:=by
    have key:∀(l:List (ga×Value)) (i j:Nat) (u:Value) (h:fz l x i=some (j,u)) (ae:j-i<l.length),x=(l[j-i]'ae).1:=by
     intro l
     induction l with
     | nil=>intro i j u h;cases h
     | cons p r bP=>
      intro i j u h ae;unfold fz at h;split at h
      ·rename_i e;injection h with h;injection h with h1 h2;subst h1;simpa using e
      have h1:=EP h;have h2:=bP (i+1) j u h (by omega);have e:j-i=(j-(i+1))+1:=by omega
      simp only[e,List.getElem_cons_succ];exact h2
    have:=key l 0 j u hf (by omega);simpa using this
   refine⟨es.modify j λe=>{e with key:=fI x,val:=v},k,?_,?_⟩
   ·rcases mG with rfl | rfl<;>simp[execOp,hm.get aj rfl,hx.get aj rfl,aY.get aj rfl,Instr.mapUpdate,run_underlying aJ.h,Bu hb,hk.z7,vY,L2 _ hb,Result.andThen,Instr.keyThatStays,qM,Fo,<-jV,hk.eX]
   unfold sS;rw[hf];simp only[Array.toList_modify];refine aqm λn=>?_;have h1:(es.toList.map λe=>(e.key,e.val))[n]?=(l.map λp=>(fI p.1,p.2))[n]?:=by rw[he]
   simp only[ao4,List.getElem?_modify]at h1⊢;by_cases e:j=n
   ·subst e;simp[qM,show j<l.length by omega]
   simp[e];simpa using h1
 obtain⟨fN,c4,h1,h2⟩:=kE;have:=main fN c4 h1 h2;rw[h1]at this⊢;exact this
theorem Ti{ga:Type}{fI:ga->Value}[DecidableEq ga]{t mg xj r sz b:Nat}{x:ga}{z:Value}{l:List (ga×Value)}{m y:Operand}{ok:Bool}[aJ:jr P t (.map mg xj)][hk:Ed P mg fI][cF:dn P xj sz b z] (hm:bt tm c m (.map (some r)):=by exact cb) (hx:bt tm c y (fI x):=by exact cb) (hmem:qj fI r l∈H:=by exact oR): bW P N (.lookup t m y ok) tm (Mem bs H) c (bif ok then .tuple #[((fz l x 0).map (·.2)).getD z,.bool (fz l x 0).isSome]else((fz l x 0).map (·.2)).getD z):=by
 unfold bW;intro ai a w d ty pos cV g cy hw;obtain⟨es,k,hb,he⟩:=RQ (hw.own _ hmem);have vY:=hk.ER es.toList l x w he;obtain⟨i,hi,_,_,a1⟩:=cF.h;simp only[execOp,hm.get cy ai,hx.get cy ai];refine hX ?_;cases hf:fz l x 0 with
 | none=>rw[hf]at vY;cases ok<;>simp[Instr.lookup,run_underlying aJ.h,Bu hb,hk.z7,vY,Result.andThen,zeroValue,typeInfo,hi,a1]
 | some q=>rw[hf]at vY;cases ok<;>simp[Instr.lookup,run_underlying aJ.h,Bu hb,hk.z7,vY,Result.andThen]
end
end Go.b9
namespace Go.Proofs.bA
instance:jr prog 235 (.map 25 3):=⟨underlying235⟩
instance:jr prog 318 (.map 9 3):=⟨underlying318⟩
theorem HK(a b:ByteArray):(a==b)=decide (a=b):=by rw[<-Er,beq_toListBytes]
instance:Ed prog 9 Value.string where
 z7 e x w:=by
  show(Instr.checkKey e (9999+1) _ _).run _ _=_
  unfold Instr.checkKey
  simp only[Sem.run_bind,run_underlying underlying9,Result.andThen]
  rfl
 ER es l x w he:=by
  have key:∀(l:List (ByteArray×Value)) (es:List MapEntry) (i:Nat),es.map (λe=>(e.key,e.val))=l.map (λp=>(Value.string p.1,p.2))->Instr.findNow .string (.string x) es i=some (fz l x i):=by
   intro l
   induction l with
   | nil=>intro es i h;exact(by simpa using h:es=[])▸rfl
   | cons p r bP=>
    intro es i h
    cases es with
    | nil=>simp at h
    | cons e es=>
     simp only[apg,aqT,Prod.mk.injEq]at h
     unfold Instr.findNow fz
     rw[h.1.1]
     show(match some (x==p.1)with | some true=>_ | some false=>_ | none=>_)=_
     rw[HK]
     by_cases q:x=p.1
     ·rw[aow q,aou q,h.1.2]
     rw[aoE q,aot q];exact bP es (i+1) h.2
  simp[Instr.findKey,run_underlying underlying9,Result.andThen,key l es 0 he]
 eX x:=by unfold Instr.sameBits;rw[HK];simp
def tj(x:cK):Value:=.agg (eH x).toArray
instance:Ed prog 25 tj where
 z7 e x w:=by
  obtain⟨a,b,c⟩:=x
  show(Instr.checkKey e (9998+1+1) _ (.agg #[.int .i64 a,.int .i64 b,.string c])).run _ _=_
  have ci:∀v:Int,(Instr.checkKey e (9998+1) 3 (.int .i64 v)).run prog w=.ok () w:=λv=>by unfold Instr.checkKey;simp only[Sem.run_bind,run_underlying underlying3,Result.andThen];rfl
  have cs:∀v:ByteArray,(Instr.checkKey e (9998+1) 9 (.string v)).run prog w=.ok () w:=λv=>by unfold Instr.checkKey;simp only[Sem.run_bind,run_underlying underlying9,Result.andThen];rfl
  unfold Instr.checkKey
  simp only[Sem.run_bind,run_underlying underlying25,Result.andThen]
  simp[part,isAgg,run_underlying underlying3,run_underlying underlying9,ci,cs,Result.andThen]
 ER es l x w he:=by
  have hd:prog.underlying 25=some (.struct (prog.fieldsOf 25)):=by rw[Program.fieldsOf,underlying25]
  have ask:∀(l:List (cK×Value)) (es:List MapEntry) (i:Nat),es.map (λe=>(e.key,e.val))=l.map (λp=>(tj p.1,p.2))->(Instr.findAsking 25 (tj x) es i).run prog w=.ok (fz l x i) w:=by
   intro l
   induction l with
   | nil=>intro es i h;exact(by simpa using h:es=[])▸rfl
   | cons p r bP=>
    intro es i h
    cases es with
    | nil=>simp at h
    | cons e es=>
     simp only[apg,aqT,Prod.mk.injEq]at h
     unfold Instr.findAsking fz
     rw[h.1.1]
     have ba:=s3.h (P:=prog) (t:=25) (enc:=eH) x p.1 w
     simp only[Sem.run_bind,show Op.equal 25 (tj x) (tj p.1)=Op.equalIn 10000 25 (.agg (eH x).toArray) (.agg (eH p.1).toArray)from rfl,ba,Result.andThen]
     by_cases q:x=p.1
     ·rw[aow q,aou q,h.1.2];rfl
     rw[aoE q,aot q];exact bP es (i+1) h.2
  cases es with
  | nil=>
   have:l=[]:=by simpa using he.symm
   subst this
   simp[Instr.findKey,run_underlying hd,Result.andThen,Instr.findNow,fz]
  | cons e es=>
   have h1:=ask l (e::es) 0 he
   have h2:Instr.findNow (.struct (prog.fieldsOf 25)) (tj x) (e::es) 0=none:=by
    unfold Instr.findNow
    rfl
   simp[Instr.findKey,run_underlying hd,Result.andThen,h2,h1]
 eX x:=by
  obtain⟨a,b,c⟩:=x
  show Instr.sameBits (9999+1) (.agg #[.int .i64 a,.int .i64 b,.string c]) (.agg #[.int .i64 a,.int .i64 b,.string c])=true
  simp[Instr.sameBits,HK]
end Go.Proofs.bA
