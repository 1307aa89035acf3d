/- Lemmas for the law WholeComplete. -/
import Derived.ArgAppend
import Derived.Test.YtiknadellddjhaaGreatDoorC31
set_option linter.all false
open Go.Proofs.Tryz
set_option maxHeartbeats 12800000
open Go Go.b9 Go.bM
namespace Go.b9
open Go Go.RowKit
def rS{aX:Type}(v:Value)(t:TypeId)(sz:Nat)(enc:aX->List Value)(xs:List aX)(w:World):Prop:=(v=aa/\xs=[])\/∃g off cap cur,v=.slice (some ⟨g,off,none⟩) xs.length cap/\w.heap[g]?=some (.cells cur t (0,0))/\xs.length<=cap/\cap<=maxLen/\(0<cap->off+cap* sz<=cur.size)/\(0<cap->(cur.toList.drop off).take (xs.length* sz)=xs.flatMap enc)
def k3{aX:Type}(v:Value)(t:TypeId)(sz:Nat)(enc:aX->List Value)(xs:List aX):aB:=.gen v.ownBlock.toList (rS v t sz enc xs)
section
variable {aX:Type} {v:Value} {t sz:Nat} {enc:aX->List Value} {xs:List aX} {bs:List dm} {H:List aB}
theorem aiT{w I:World}(h:rS v t sz enc xs w)(aj:∀k,k∈v.ownBlock.toList->I.heap[k]?=w.heap[k]?):rS v t sz enc xs I:=by
 rcases h with h | ⟨g,off,cap,cur,rfl,h1,h2,h3,aA,a6⟩
 ·exact .inl h
 exact .inr ⟨g,off,cap,cur,rfl,by rw[aj g (by simp[Value.ownBlock])];exact h1,h2,h3,aA,a6⟩
theorem Mu{w:World}(h:rS v t sz enc xs w):(k3 v t sz enc xs).ok w:=λ_ aj=>aiT h aj
theorem DR{w:World}(h:(k3 v t sz enc xs).ok w):rS v t sz enc xs w:=h w λ_ _=>rfl
theorem UW{w:World}(h:rS v t sz enc xs w):∀k,k∈v.ownBlock.toList->k<w.heap.size:=λk hk=>by
 rcases h with⟨rfl,_⟩ | ⟨g,off,cap,cur,rfl,h1,_⟩
 ·simp[Value.ownBlock]at hk
 simp[Value.ownBlock]at hk;subst hk;exact(aqe.1 h1).1
theorem Mem.aiX{w:World}(t sz:Nat)(enc:aX->List Value)(hw:Mem bs H w):Mem bs (k3 aa t sz enc []::H) w:=hw.new rfl rfl rfl (aoL _) (λ_ _=>rfl) (Mu (.inl ⟨rfl,rfl⟩)) (λk hk=>by simp[aB.cN,k3,Value.ownBlock]at hk) (λk hk=>by simp[aB.cN,k3,Value.ownBlock]at hk)
theorem G8[he:eg enc sz]{w:World}(h:rS v t sz enc xs w){i j:Nat}{x:aX}{u:Value}(hi:xs[i]?=some x)(ae:(enc x)[j]?=some u):w.cell? (gT v sz i j)=some u:=by
 have gJ:i<xs.length:=(ao2.1 hi).1;have gD:j<sz:=by have:=(ao2.1 ae).1;rwa[he.len]at this
 rcases h with⟨_,rfl⟩ | ⟨g,off,cap,cur,rfl,h1,h2,h3,aA,a6⟩
 ·cases hi
 have ai:0<cap:=by omega
 have aA:=aA ai;have a6:=a6 ai;have gY:i* sz+sz<=xs.length* sz:=by rw[<-aqD];exact apo _ gJ
 have xw:xs.length* sz<=cap* sz:=apo _ h2;have hf:(xs.flatMap enc)[i* sz+j]?=some u:=by
  have J2:xs=xs.take i++(x::xs.drop (i+1)):=by have:x=xs[i]:=(ao2.1 hi).2.symm;rw[this];simp
  rw[J2,apc,ao8];have mc:((xs.take i).flatMap enc).length=i* sz:=by rw[n2,ao3,aqS (by omega)]
  rw[aoS (by omega),mc,aqz,aoT (by rw[he.len];exact gD)];exact ae
 rw[<-a6,apV,aou (by omega),apW]at hf;have bu:gT (.slice (some ⟨g,off,none⟩) xs.length cap) sz i j=⟨g,off+(i* sz+j),none⟩:=by
  simp only[gT,add_add];unfold Addr.add;split
  ·rename_i h0;rw[h0];rfl
  simp
 rw[bu];simp[World.cell?,h1];rw[<-aqP];exact hf
theorem G9{w:World}(h:rS v t sz enc xs w):∃a cap,v=.slice a xs.length cap/\(0<xs.length->a.isSome=true)/\xs.length<=cap/\cap<=maxLen:=by
 rcases h with⟨rfl,rfl⟩ | ⟨g,off,cap,cur,rfl,h1,h2,h3,_⟩
 ·exact⟨none,0,rfl,λh=>by simp at h,by simp,by unfold maxLen;omega⟩
 exact⟨_,cap,rfl,λ_=>rfl,h2,h3⟩
theorem Mem.acW[he:eg enc sz]{w:World}(hw:Mem bs H w)(hm:k3 v t sz enc xs∈H):aZ al w enc sz v xs:=by have bn:=DR (hw.own _ hm);refine⟨?_,λi x j u hi ae=>G8 bn hi ae,λa n cap ax oJ=>trivial⟩;obtain⟨a,cap,ax,h1,h2,h3⟩:=G9 bn;exact⟨a,_,cap,ax,rfl,h2,h3,h1⟩
theorem Mem.aiS[he:eg enc sz]{w:World}{es:List aB}(hw:Mem bs (es++H) w)(hm:k3 v t sz enc xs∈H):aZ (bJ es) w enc sz v xs:=by have bn:=DR (hw.own _ (apA _ hm));refine⟨?_,λi x j u hi ae=>G8 bn hi ae,λa n cap ax oJ e he nE=>hw.xf he hm nE (by show _∈v.ownBlock.toList;rw[ax];simp[Value.ownBlock])⟩;obtain⟨a,cap,ax,h1,h2,h3⟩:=G9 bn;exact⟨a,_,cap,ax,rfl,h2,h3,h1⟩
theorem aiU[he:eg enc sz]{x:aX}{w:World}(h:rS v t sz enc (x::xs) w):rS (gU sz 1 (x::xs).length v) t sz enc xs w:=by
 rcases h with⟨_,h⟩ | ⟨g,off,cap,cur,rfl,h1,h2,h3,aA,a6⟩
 ·cases h
 rw[aoN]at h2;have ai:0<cap:=by omega
 have aA:=aA ai;have a6:=a6 ai;have fP:cap* sz=(cap-1)* sz+sz:=by rw[<-aqD];congr 1;omega
 refine .inr ⟨g,if cap=1 then off else off+sz,cap-1,cur,?_,h1,by omega,by omega,λhp=>?_,λhp=>?_⟩
 ·unfold gU;dsimp only;have e:(x::xs).length-1=xs.length:=by simp
  rw[e];split
  ·rfl
  have a1:Addr.add ⟨g,off,none⟩ (1* sz)=⟨g,off+sz,none⟩:=by
   unfold Addr.add;split
   ·rename_i h0;rw[Nat.one_mul]at h0;rw[h0];rfl
   simp
  simp only[aqF,a1]
 ·rw[aot (by omega)];omega
 rw[aot (by omega)];rw[aoN,ao8,aqD,Nat.add_comm]at a6;have aL:(enc x).length=sz:=he.len x;have cE:(cur.toList.drop off).take (sz+xs.length* sz)=(cur.toList.drop off).take sz++((cur.toList.drop off).drop sz).take (xs.length* sz):=List.take_add;rw[cE]at a6;have bH:((cur.toList.drop off).take sz).length=(enc x).length:=by rw[ao3,apG,aL];have:cur.toList.length=cur.size:=aqE;omega
 have:=(List.append_inj a6 bH).2;rwa[List.drop_drop]at this
theorem Mem.XV[he:eg enc sz]{x:aX}{w:World}(hw:Mem bs (k3 v t sz enc (x::xs)::H) w):Mem bs (k3 (gU sz 1 (x::xs).length v) t sz enc xs::H) w:=by
 have bn:=DR (hw.own _ aP);have hb:(gU sz 1 (x::xs).length v).ownBlock=v.ownBlock:=by
  rcases bn with⟨_,h⟩ | ⟨g,off,cap,cur,rfl,_⟩
  ·cases h
  unfold gU;dsimp only;split
  ·rfl
  simp only[aqF,Value.ownBlock];unfold Addr.add;split<;>rfl
 have:=hw.q9 (i:=0) (e':=k3 (gU sz 1 (x::xs).length v) t sz enc xs) rfl rfl rfl rfl (aoL _) (λ_ _ _=>rfl) (Mu (aiU bn)) (λk hk=>?_) λk hk=>?_
 ·exact this
 ·exact UW bn k (by rw[<-hb];exact hk)
 exact .inl (by show k∈v.ownBlock.toList;rw[<-hb];exact hk)
end
section
variable {P:Program} {N:Nat} {Q:Exit->Act->World->Prop} {tm:dY} {K:Act->World->Prop} {bs:List dm} {H:List aB}
theorem SD{aX:Type}{e sz:Nat}{enc:aX->List Value}{v:Value}{xs:List aX}{w:World}{b:Nat}(h:w.ownsRow b e sz v xs.length (xs.flatMap enc)):rS v e sz enc xs w:=by
 obtain⟨_,⟨ax,h0⟩ | ⟨g,cap,cur,ax,_,eC,qa,sg,ej,gj⟩⟩:=h
 ·exact .inl ⟨ax,aoY h0⟩
 exact .inr ⟨g,0,cap,cur,ax,eC,qa,sg,λ_=>by omega,λ_=>by rw[aqB];exact gj⟩
theorem agX{P:Program}(w:World)(t ty e:TypeId)(i:TypeInfo)(aJ:P.underlying t=some (.slice e))(hi:P.info? e=some i) (g off zz L8:Nat) (cur:Array Value) (az:w.heap[g]?=some (.cells cur e (0,0))) (a:Addr) (m c:Nat) (news:List Value) (aL:news.length=m* i.size) (uJ:∀j u,news[j]?=some u->w.cell? (a.add j)=some u) (h1:∀u∈news,u.oneCell'=true) (xG:zz+m<=L8) (rA:off+zz* i.size+news.length<=cur.size): (Builtin.append_ #[t,t] ty #[.slice (some ⟨g,off,none⟩) zz L8,.slice (some a) m c]).run P w= .ok (.slice (some ⟨g,off,none⟩) (zz+m) L8) (w.setRow g (cur.toList.take (off+zz* i.size)++news++cur.toList.drop (off+zz* i.size+news.length)).toArray):=by have hf:=run_firstCells_some (P:=P) w i.size m a m c news aL uJ;have cS:=run_storeCells_at P g (off+zz* i.size) e news 0 cur w az (by simpa using rA) h1;simp only[Nat.add_zero]at cS;simp[Builtin.append_,run_underlying aJ,sizeOf,typeInfo,hi,Builtin.lenOf,xG,hf,Addr.add_lit,cS]
theorem Wr{aX:Type}{enc:aX->List Value}{t ty e sz b:Nat}{z:Value}(w:World)[aJ:fD P t e][cF:dn P e sz b z][he:eg enc sz](pM:z.cells.size=sz) {v:Value} {xs ys:List aX} (h:rS v e sz enc xs w) {A:Addr} {c:Nat} (h0:0<ys.length) (uJ:∀j u,(ys.flatMap enc)[j]?=some u->w.cell? (A.add j)=some u) (h1:∀u,u∈ys.flatMap enc->u.oneCell'=true) (Cm:xs.length+ys.length<=maxLen) (Au:(xs.length+ys.length)* b<=140737488355328): ∃dG I,(Builtin.append_ #[t,t] ty #[v,.slice (some A) ys.length c]).run P w=.ok dG I/\rS dG e sz enc (xs++ys) I/\w.grownBy I v.ownBlock/\ (∀k,k∈dG.ownBlock.toList->k∈v.ownBlock.toList\/w.heap.size<=k):=by
 obtain⟨i,hi,mF,pb,rB⟩:=cF.h;subst mF;have ly:(ys.flatMap enc).length=ys.length* i.size:=n2 ys;have PO:(xs++ys).flatMap enc=xs.flatMap enc++ys.flatMap enc:=apc;rcases h with⟨rfl,rfl⟩ | ⟨g,off,cap,cur,rfl,az,qa,sg,ej,gj⟩
 ·obtain⟨dG,I,aM,bn,az,hf,_,_⟩:=NI (P:=P) (t:=t) (ty:=ty) (e:=e) (a:=some A) (c:=c) w pM he.pos (v:=aa) (n:=0) (xs:=[]) ⟨by simp,.inl ⟨rfl,rfl⟩⟩ ly (λBP e=>by injection e with e;subst e;exact uJ) (λh=>by cases h) h1 (by simpa using Cm) (by simpa using Au);refine⟨dG,I,aM,SD (b:=0) ?_,az,hf⟩;rw[apb]at *;simpa using bn
 by_cases xG:xs.length+ys.length<=cap
 ·have ai:0<cap:=by omega
  have ej:=ej ai;have gj:=gj ai;have xw:(xs.length+ys.length)* i.size<=cap* i.size:=apo _ xG;rw[aqi]at xw;have eA:cur.toList.length=cur.size:=aqE;have aM:=agX (P:=P) w t ty e i aJ.h hi g off xs.length cap cur az A ys.length c (ys.flatMap enc) ly uJ h1 xG (by rw[ly];omega);have dq:(cur.toList.take (off+xs.length* i.size)).length=off+xs.length* i.size:=by rw[ao3];omega
  refine⟨_,_,aM,.inr ⟨g,off,cap,_,by rw[aoy],setRow_heap w g _ _ e _ az,by rw[aoy];exact xG,sg,λ_=>?_,λ_=>?_⟩,⟨rfl,rfl,rfl,by simp,λk _ hk=>setRow_other w g k _ λe=>hk (by rw[e];rfl)⟩,λk hk=>.inl hk⟩
  ·simp only[ap8,aoy,apG,dq,ly,eA];omega
  rw[PO,aoy,aqi];have b2:(cur.toList.take (off+xs.length* i.size)++ys.flatMap enc++cur.toList.drop (off+xs.length* i.size+(ys.flatMap enc).length)).toArray.toList=cur.toList.take (off+xs.length* i.size)++(ys.flatMap enc++cur.toList.drop (off+xs.length* i.size+(ys.flatMap enc).length)):=by simp
  rw[b2,List.drop_append_of_le_length (by omega),List.drop_take,aqz,gj,<-aoP,List.take_append_of_le_length (by rw[aoy,ly,n2 xs];omega),aqH (by rw[aoy,ly,n2 xs];omega)]
 have jV:(xs.flatMap enc).length=xs.length* i.size:=n2 xs;have holds:∀j u,(xs.flatMap enc)[j]?=some u->w.cell? ((⟨g,off,none⟩:Addr).add j)=some u:=λj u ae=>by obtain⟨a,x,o,h1,h2,rfl⟩:=Al xs j u ae;have:=G8 (v:=.slice (some ⟨g,off,none⟩) xs.length cap) (.inr ⟨g,off,cap,cur,rfl,az,qa,sg,ej,gj⟩) h1 h2;simp only[gT,add_add]at this;exact this
 obtain⟨dG,I,aM,bn,az⟩:=run_append_arg_grows (P:=P) w t ty e i z i.size b aJ.h hi rB rfl pb pM he.pos ⟨g,off,none⟩ xs.length cap (xs.flatMap enc) jV holds A ys.length c (ys.flatMap enc) ly uJ (by omega) Cm Au;refine⟨dG,I,aM,SD (b:=w.heap.size) (by rw[aoy,PO];exact bn),⟨az.os,az.tape,az.output,az.size,λk hk _=>az.block k hk (by simp)⟩,λk hk=>.inr ?_⟩;obtain⟨_,⟨ax,_⟩ | ⟨g2,akB,akD,ax,IM,_⟩⟩:=bn
 ·subst ax;simp[Value.ownBlock]at hk
 subst ax;simp[Value.ownBlock]at hk;omega
theorem YU{aX:Type}{enc:aX->List Value}{dec:List Value->aX}{ok:aX->Prop}{d t e sz b k tt:Nat}{z v u:Value}{x y:Operand}{xs ys:List aX}[aJ:fD P t e][cF:dn P e sz b z][jo P e enc dec][he:eg enc sz][h1:nR enc ok] (hx:bt tm true x v:=by exact(b3 rfl)) (aY:bt tm true y u:=by exact(b3 rfl)) (hk:H[k]?=some (k3 v e sz enc xs)) (hm:aB.own u tt sz enc ys∈H) (h0:0<ys.length) (a1:Nat.beq z.cells.size sz=true:=by rfl) (hok:∀y,y∈ys->ok y:=by(intros;trivial)) (bH:(xs.length+ys.length)* b<=140737488355328/\xs.length+ys.length<=9223372036854775807:=by omega) (hd:Nat.blt d N=true:=by rfl) (ab:∀dG,aD dG->cR N K ((d,true,dG)::tm) (Mem bs (H.set k (k3 dG e sz enc (xs++ys))))):gz P N (.call {callee:=.builtin .append,args:=#[x,y],argTypes:=#[t,t]}) (some d) Q tm (Mem bs H) K:=by
 unfold gz;unfold cR at ab
 intro a w ty pos cV g aj hw;unfold Oper.wp;have oa:=hw.own _ hm;obtain⟨dJ,ye,rfl,fQ,_⟩:=sF oa;obtain⟨A,rfl⟩:=apf.1 (fQ h0);have pd:=DR (hw.own _ (aoM hk));obtain⟨dG,I,aM,bn,az,hf⟩:=Wr (P:=P) (t:=t) (ty:=ty) (e:=e) (A:=A) (c:=ye) w (apZ a1) pd h0 (SC oa A rfl) (λq ba=>by obtain⟨y,aY,ba⟩:=api.1 ba;exact h1.one y (hok y aY) q ba) (by unfold maxLen;omega) bH.1
 have we:(execOp a.eval ⟨some d,.call {callee:=.builtin .append,args:=#[x,y],argTypes:=#[t,t]},ty,pos,cV,g⟩).run P w=.ok (.value dG) I:=by simp[execOp,resolve,invoke,builtin,hx.get aj rfl,aY.get aj rfl,aM]
 rw[we];have hr:aD dG:=by obtain⟨a,cap,ax,_⟩:=G9 bn;exact⟨_,_,_,ax⟩
 refine ab dG hr _ _ (by simpa using aj.put (apv.mp hd) true _) ?_
 refine hw.q9 hk az.os az.tape az.output az.size (λq ba bd=>az.block q ba λe=>bd ?_) (Mu bn) (UW bn) hf;show q∈v.ownBlock.toList;rw[<-e];simp
structure Ee(bs:List dm)(e:aB)(rW:World):Prop where
 ok:e.ok rW
 fC:∀k,k∈e.cN->k<rW.heap.size
 apart:∀B,B∈bs->∀k,k∈e.cN->B.2 k->B.1.heap.size<=k
theorem acx{e:aB}(h:∀rW,Ee bs e rW->cR N K tm (Mem ((rW,λk=>k∈e.cN)::bs) H)):cR N K tm (Mem bs (e::H)):=by
 unfold cR at *;intro a w aj hw;refine h w ⟨hw.own _ aP,hw.fC _ aP,λB hB=>hw.apart B hB _ aP⟩ a w aj ⟨λB hB=>?_,hw.tail.own,hw.tail.fC,λB hB e' ft k hk cG=>?_,hw.tail.il⟩
 ·rcases aoO.1 hB with rfl | hB
  ·exact kK.refl _ _
  exact hw.base B hB
 rcases aoO.1 hB with rfl | hB
 ·obtain⟨j,ae⟩:=apF ft;exact absurd (hw.il 0 (j+1) e e' (by omega) rfl (by simpa using ae) k cG hk) id
 exact hw.tail.apart B hB e' ft k hk cG
theorem Mem.Wz{e:aB}{rW w:World}(hw:Mem ((rW,λk=>k∈e.cN)::bs) H w)(h:Ee bs e rW):Mem bs (e::H) w:=by
 have hA:=hw.base _ aP;refine⟨hw.cX.base,λe' ft=>?_,λe' ft k hk=>?_,λB hB e' ft k hk cG=>?_,λi j gh gr iw hi ae k hk fk=>?_⟩
 ·rcases aoO.1 ft with rfl | ft
  ·exact aB.Gn h.ok λk hk=>hA.s9 k (h.fC k hk) hk
  exact hw.own e' ft
 ·rcases aoO.1 ft with rfl | ft
  ·exact apJ (h.fC k hk) hA.size
  exact hw.fC e' ft k hk
 ·rcases aoO.1 ft with rfl | ft
  ·exact h.apart B hB k hk cG
  exact hw.cX.apart B hB e' ft k hk cG
 cases i with
 | zero=>
  cases j with
  | zero=>exact absurd rfl iw
  | succ j=>simp at hi ae;subst hi;have:=hw.apart _ aP gr (aoM ae) k fk hk;have h2:=h.fC k hk;simp only at this;omega
 | succ i=>
  cases j with
  | zero=>simp at hi ae;subst ae;have:=hw.apart _ aP gh (aoM hi) k hk fk;have h2:=h.fC k fk;simp only at this;omega
  | succ j=>exact hw.il i j gh gr (by omega) (by simpa using hi) (by simpa using ae) k hk fk
theorem Ee.ps{aX:Type}{enc:aX->List Value}{sz t:Nat}{v:Value}{xs:List aX}{rW:World}[he:eg enc sz](h:Ee bs (k3 v t sz enc xs) rW):aZ (λk=>k∈(k3 v t sz enc xs).cN) rW enc sz v xs:=by have bn:=DR h.ok;refine⟨?_,λi x j u hi ae=>G8 bn hi ae,λa n cap ax oJ=>by show _∈v.ownBlock.toList;rw[ax];simp[Value.ownBlock]⟩;obtain⟨a,cap,ax,h1,h2,h3⟩:=G9 bn;exact⟨a,_,cap,ax,rfl,h2,h3,h1⟩
end
end Go.b9
attribute [local irreducible] Go.wpList Go.Code.wp Go.bodyPost Go.Exit.then Go.Exit.inBlock Go.Calls
namespace Go.Proofs.bA
theorem agF(t:aV)(ah ad ao:Value)(vs:List Value)(w:World)(bL:gW al w ah ad ao vs t):bl prog 15 [.agg (c6 t ah ad ao).toArray] w (Hx t):=by
 obtain⟨s1,s2,cJ⟩:=bL.jY;have vV:=bL.nX;have iv:=bL.nA;have hle:=iv.le;refine ha func15 ntmps15 ?_;refine e4 λaQ=>?_;refine ei λdC=>?_;refine aq (bp (λI hw=>O8 t ah ad ao vs I (bL.now hw)) ?_);rintro v bx bc rfl cu;refine dp (λh1=>?_) λh1=>?_
 ·rw[aoq,au]at h1;refine af ?_;refine c7 0 ?_;refine bT rfl (.dv rfl aP rfl (.tmp rfl (.t1 rfl))) λI hw=>?_;exact Gj (by unfold dI;rw[aot h1]) h1
 rw[aos,an]at h1;have G:=E1 h1;have ly:=G.wE;have gJ:=G.AO;have fs:=bL.init;refine af ?_;refine ei λcY=>?_;refine aq (bp (λI hw=>(Yz t ah ad ao vs I (bL.now hw) h1).size (hw.sz dg)) ?_);rintro v ck bY ⟨⟨ak,rfl,c0⟩,j7⟩ eZ;have Cr:=c0.aK;have yw:=c0.le;refine af ?_;refine c7 0 ?_;refine aq (gC _ _ _ _ _ _ (ab:=?_));intro gZ yZ;rw[aoF];refine af ?_;refine aq (bK 1 (ab:=?_));refine cA (Mem [(bY,Fr ck),(w,al)] [.box cY [ak,gZ,aa,aa,aa,aa,aa,aa,aa] 41,.own gZ 3 1 a7 (sw t 0),.box dC [aa,aa,aa,aa,aa,aa,aa,aa,aa] 41,.box aQ (c6 t ah ad ao) 32]) (λ_ h=>(h.uu).cC [1,0,2,3]) (af ?_);refine bX (λj:Nat=>j<=t.init.length) (λj=>[(9,true,.int .i64 j),(6,true,av cY),(2,true,av dC),(1,true,av aQ)]) (λj=>Mem [(bY,Fr ck),(w,al)] [.box cY [ak,gZ,aa,aa,aa,aa,aa,aa,aa] 41,.own gZ 3 1 a7 (sw t j),.box dC [aa,aa,aa,aa,aa,aa,aa,aa,aa] 41,.box aQ (c6 t ah ad ao) 32]) (λj=>t.init.length-j) 0 (aoD _) ?_
 intro j ae;have gD:=FU t j ae;refine dp (λh2=>?_) λh2=>?_
 ·have bq:j<t.init.length:=by rw[an]at h2;omega
  have er:=Kh t bq;refine dp (λh3=>?_) λh3=>?_
  ·rw[an]at h3;have h3:(t.init.getD j default).aH= -1:=h3;rw[aou h3]at er;have eS:=(G.FP (eN bq) h3).2.1;have dq:=qi eS;have mc:=Dx eS;refine af ?_;refine cz [0,1,2,3,4,5,6,7,8,10,11,12,13,14,15,16,9,17,18] mixed ?_;refine bQ ?_;refine bO _ (h:=bp (λI hw=>Bo ak gZ _ _ _ _ _ _ _ (cc t) (t.init.getD j default).loc I (hw.now c0) ⟨yZ,cU,cU,cU,cU,cU,cU,cU⟩) ?_);rintro v hj fW rfl nG;refine aF ?_ ek;refine cA _ ek ?_;rw[mc];refine bQ ?_;refine gw (h:=fq 1 rfl (t.init.getD j default).value.n (ab:=af ?_));exact bm (j+1) bq (by omega) (hA:=λ_ h=>by rw[er];exact h)
  rw[au]at h3;have h3:¬(t.init.getD j default).aH= -1:=h3;rw[aot h3]at er;refine af ?_;exact bm (j+1) bq (by omega) (hA:=λ_ h=>by rw[er];exact h)
 have bq:j=t.init.length:=by rw[au]at h2;omega
 subst bq;rw[Q7];refine af ?_;refine aq (bp (λI hw=>(Lo t.dH t.node ao I (bL.now hw).node).size (hw.sz dg)) ?_);rintro v ia ig ⟨⟨aT,rfl,jS⟩,km⟩ xD;have Ao:=jS.aK;have yz:=jS.le;have qR:=zB t.dH t.node;refine af ?_;refine c7 0 ?_;refine aq (gC _ _ _ _ _ _ (ab:=?_));intro v80 FG;rw[aoF];refine af ?_;refine c7 1 ?_;refine ea 138 6 ef ?_;refine ea 140 3 fE ?_;refine ea 178 2 bB ?_;refine ea 178 2 bB ?_;refine ea 178 2 bB ?_;refine bX (λy:Nat×j1×Acc×iF=>y.1<=t.code.length/\jb t (br t) y.1=.ok y.2.2.1/\sZ y.2.1 y.2.2.1/\(aD y.2.2.2.aI/\aD y.2.2.2.bv/\aD y.2.2.2.aG/\aD y.2.2.2.aR/\aD y.2.2.2.ad)) (λy=>[(12,true,.int .i64 y.1),(6,true,av cY),(2,true,av dC),(1,true,av aQ)]) (λy=>Mem [(ig,Fr ia),(bY,Fr ck),(w,al)] (sM y.2.2.2 y.2.1++([.box cY [ak,gZ,y.2.2.2.aI,y.2.2.2.bv,y.2.2.2.aG,y.2.2.2.aR,y.2.2.2.ad,aT,v80] 41,.own gZ 3 1 a7 (od t),.own v80 87 2 oF (y.2.2.1.ends),.box dC [aa,aa,aa,aa,aa,aa,aa,aa,aa] 41,.box aQ (c6 t ah ad ao) 32]:List aB))) (λy=>t.code.length-y.1) (0,⟨[],[],[],[],[]⟩,⟨[],[],[],[],[],List.replicate (br t).length ⟨0,0⟩⟩,⟨aa,aa,aa,aa,aa,aa⟩) ⟨aoD _,rfl,sZ.zero _,⟨cU,cU,cU,cU,cU⟩⟩ ?_ ⟨rfl,rfl,rfl,rfl,trivial⟩ (b4 [4,3,2,1,0,6,7,5,8,9])
 rintro⟨k,A,a,z⟩ ⟨hk,dW,D,⟨bu,b2,gg,lp,r8⟩⟩;dsimp only at hk dW D bu b2 gg lp r8⊢;have vm:=G.acc hk dW;have yA:=vm.n;have yB:=vm.ON;have hA:A.J.length=a.J.length:=by rw[D.J]
 obtain⟨d1,d2,d3⟩:=D.len vm;have uF:=vm.B4;have nF:=G.n16;have akS:A.bars.length=a.bars.length:=by rw[D.bars]
 refine dp (λaA=>?_) λaA=>?_
 ·have da:k<t.code.length:=by rw[an]at aA;omega
  refine af ?_;refine aq (eB (es:=sM z A) (H:=[.box cY [ak,gZ,z.aI,z.bv,z.aG,z.aR,z.ad,aT,v80] 41,.own gZ 3 1 a7 (od t),.own v80 87 2 oF (a.ends),.box dC [aa,aa,aa,aa,aa,aa,aa,aa,aa] 41,.box aQ (c6 t ah ad ao) 32]) (bb:=λI hw=>agG t ah ad ao vs ak gZ aT v80 k a.J.length A z I G da hA yA (by omega) (bL.map λv xs h=>hw.iD h hy λe he=>aoK _ he) (hw.iD c0 dg λe he=>aoK _ he) ⟨yZ,Ao,FG,bu,b2,gg,lp,r8⟩ hw.dt.ew) (ab:=?_));rintro r qk es qu ⟨eu,s,gv,j4,ok,rfl,rfl,cS⟩;refine af ?_;refine ei λya=>?_;refine aq (bK 0 (h1:=iP ok _ _ _ _ _) (ab:=af ?_));cases nH:rR t k a.J.length with
  | full=>rw[nH]at cS;have cS:j4=true:=cS;subst cS;refine cM rfl (λ_=>?_) (λh=>by cases h);refine af ?_;refine c7 10 ?_;refine bT rfl (.dv rfl F9 rfl (.tmp rfl (.t1 rfl))) λI hw=>?_;exact Gj (BC h1 (k:=k+1) da (by unfold jb;rw[dW];dsimp only;rw[nH])) (by decide)
  | ho=>
   rw[nH]at cS;obtain⟨rfl,rfl⟩:=cS;refine cM rfl (λh=>by cases h) λ_=>?_;refine af ?_;refine bX (λi:Nat=>i=0) (λi=>[(15,true,.int .i64 i),(14,true,.bool false),(13,true,av ya),(12,true,.int .i64 k),(6,true,av cY),(2,true,av dC),(1,true,av aQ)]) (λ_=>Mem [(ig,Fr ia),(bY,Fr ck),(w,al)] (.box ya (gA t ⟨ah,ad,ao,ak,gZ,aT,v80⟩ (k:Int) eu (s.bh<<<a.J.length) true false) 129::(ie eu (dP a.J.length A s) (s.ag.map (b5 a.J.length))++([.box cY [ak,gZ,z.aI,z.bv,z.aG,z.aR,z.ad,aT,v80] 41,.own gZ 3 1 a7 (od t),.own v80 87 2 oF (a.ends),.box dC [aa,aa,aa,aa,aa,aa,aa,aa,aa] 41,.box aQ (c6 t ah ad ao) 32]:List aB)))) (λ_=>0) 0 rfl ?_
   rintro _ rfl;refine af ?_;refine cM rfl (λh=>by simp at h) λ_=>?_;refine af ?_;refine cM rfl (λ_=>?_) (λh=>by cases h);refine af ?_;refine c7 10 ?_;refine bT rfl (.dv rfl F9 rfl (.tmp rfl (.t1 rfl))) λI hw=>?_;exact Gj (BC h1 (k:=k+1) da (by unfold jb;rw[dW];dsimp only;rw[nH])) (by decide)
  | go s2 c5=>
   rw[nH]at cS;obtain⟨rfl,rfl,rfl⟩:=cS;have C:=G.cx da a.J.length;have h0:=G.dd da a.J.length;obtain⟨h8,aae,fQ⟩:=G.aw da nH;have ep:s2.ag.length=cn t.aC:=fQ.lW;have xF:(s2.ag.map (b5 a.J.length)).length=cn t.aC:=by rw[aoJ,ep]
   refine cM rfl (λh=>by cases h) λ_=>?_;refine af ?_;refine bX (λy:Nat×Bool=>y.1<=(br t).length/\(y.2=true->∀j,j<y.1->((br t).getD j default).aH=(k:Int)->(nC a.J.length s2.ag ((br t).getD j default)).isSome=true)/\(y.2=false->uw (br t) k a.J.length s2.ag=false)) (λy=>[(15,true,.int .i64 y.1),(14,true,.bool y.2),(13,true,av ya),(12,true,.int .i64 k),(6,true,av cY),(2,true,av dC),(1,true,av aQ)]) (λy=>Mem [(ig,Fr ia),(bY,Fr ck),(w,al)] (.box ya (gA t ⟨ah,ad,ao,ak,gZ,aT,v80⟩ (k:Int) eu (s2.bh<<<a.J.length) false false) 129::(ie eu (dP a.J.length A s2) (s2.ag.map (b5 a.J.length))++([.box cY [ak,gZ,z.aI,z.bv,z.aG,z.aR,z.ad,aT,v80] 41,.own gZ 3 1 a7 (od t),.own v80 87 2 oF (ux (br t) a.ends k a.J.length s2.ag y.1),.box dC [aa,aa,aa,aa,aa,aa,aa,aa,aa] 41,.box aQ (c6 t ah ad ao) 32]:List aB)))) (λy=>(br t).length-y.1) (0,true) ⟨aoD _,λ_ j ae=>absurd ae (apw _),λh=>(by cases h)⟩ ?_ ⟨rfl,rfl,rfl,rfl,rfl,rfl,rfl,trivial⟩ (λ_ h=>by dsimp only;rw[OU yB];exact h)
   rintro⟨i,wH⟩ ⟨hi,bG,eD⟩;dsimp only at hi bG eD⊢;have I4:=OS (br t) a.ends k a.J.length s2.ag i;have er:=λh=>OT (cf:=br t) (ends:=a.ends) (k:=k) (first:=a.J.length) (ag:=s2.ag) (i:=i) h;have JR:(br t).length=(fS t.dH t.node).length:=rfl;refine dp (λdL=>?_) λdL=>?_
   ·rw[aoo,an]at dL;obtain⟨dL,rfl⟩:=dL;have bG:=bG rfl;have jw:i<(br t).length:=by omega
    have lB:(br t).getD i default∈br t:=eN jw;have jz:=G.vc lB;have er:=er jw;refine dp (λdZ=>?_) λdZ=>?_
    ·rw[an]at dZ;have mW:((br t).getD i default).aH=(k:Int):=dZ;rw[aou mW]at er;have oK:0<=((br t).getD i default).bo/\((br t).getD i default).bo<(cn t.aC:Int):=by
      unfold lG at jz;rw[aot (by omega)]at jz;simp only[aoo,aop]at jz;obtain⟨⟨⟨⟨_,_⟩,cB⟩,bz⟩,_⟩:=jz;refine⟨cB,?_⟩;rcases G.aC with g | g
      ·rw[aou g]at bz;unfold cn;rw[aot (by omega)];omega
      rw[aot (by omega)]at bz;unfold cn;rw[aou g];omega
     have alL:0<=((fS t.dH t.node).getD i default).bo/\((fS t.dH t.node).getD i default).bo<(cn t.aC:Int):=oK;have Z4:(s2.ag.map (b5 a.J.length)).getD ((fS t.dH t.node).getD i default).bo.toNat default=b5 a.J.length (bS s2 ((br t).getD i default).bo):=Cw (by omega);have AA:ym (b5 a.J.length (bS s2 ((br t).getD i default).bo))=nC a.J.length s2.ag ((br t).getD i default):=Yh _ _;refine af ?_;refine ih (λ_:Nat=>True) (λx=>[(17,true,.bool (nC a.J.length s2.ag ((br t).getD i default)).isSome),(16,true,av x),(15,true,.int .i64 i),(13,true,av ya),(12,true,.int .i64 k),(6,true,av cY),(2,true,av dC),(1,true,av aQ)]) (λx=>Mem [(ig,Fr ia),(bY,Fr ck),(w,al)] (.box x (oF ((nC a.J.length s2.ag ((br t).getD i default)).getD ⟨0,0⟩)) 87::.box ya (gA t ⟨ah,ad,ao,ak,gZ,aT,v80⟩ (k:Int) eu (s2.bh<<<a.J.length) false false) 129::(ie eu (dP a.J.length A s2) (s2.ag.map (b5 a.J.length))++([.box cY [ak,gZ,z.aI,z.bv,z.aG,z.aR,z.ad,aT,v80] 41,.own gZ 3 1 a7 (od t),.own v80 87 2 oF (ux (br t) a.ends k a.J.length s2.ag i),.box dC [aa,aa,aa,aa,aa,aa,aa,aa,aa] 41,.box aQ (c6 t ah ad ao) 32]:List aB)))) ?_ ?_
     ·refine cz [0,1,2,3,4,5,6,7,8,9,999] mixed ?_;refine bQ ?_;rw[Z4];refine mf 10 14 ?_ ?_
      ·refine cp [11,12,13,14,15,16] _ (h:=bp (λI hw=>TE (b5 a.J.length (bS s2 ((br t).getD i default).bo)) I) ?_);rintro v n6 wY rfl rD;refine aF ?_ ek;refine cA _ ek ?_;rw[AA];refine bQ ?_;refine bO _ (h:=fb ?_);intro Ek;refine aF (bQ ?_) iR;refine bO _ (h:=bK 0 (ab:=?_));refine aF (aN ?_) iR;exact b6 Ek trivial
      refine cp [999] _ (h:=fb ?_);intro Ek;refine aF ?_ iR;refine ed 10 ?_;refine cp [11,12,13,15,16] _ (h:=bp (λI hw=>TE (b5 a.J.length (bS s2 ((br t).getD i default).bo)) I) ?_);rintro v n6 wY rfl rD;refine aF ?_ λ_ h=>h.cX.tail;refine cA _ ek ?_;rw[AA];refine bQ ?_;refine bO _ (h:=bK 0 (ab:=?_));refine aF (aN ?_) iR;exact b6 Ek trivial
     rintro Ek _;refine af ?_;refine aq (fq 10 rfl ((nC a.J.length s2.ag ((br t).getD i default)).getD ⟨0,0⟩) (ab:=af ?_));refine bm (i+1,(nC a.J.length s2.ag ((br t).getD i default)).isSome) ⟨jw,λba j ae fV=>?_,λba=>OQ lB mW ba⟩ (by dsimp only;omega) (hA:=λ_ h=>by dsimp only;rw[er];exact h.tail);dsimp only at ba ae;by_cases q:j=i
     ·subst q;exact ba
     exact bG j (by omega) fV
    rw[au]at dZ;have mW:¬((br t).getD i default).aH=(k:Int):=dZ;rw[aot mW]at er;refine af ?_;refine bm (i+1,true) ⟨jw,λ_ j ae fV=>?_,λh=>(by cases h)⟩ (by dsimp only;omega) (hA:=λ_ h=>by dsimp only;rw[er];exact h);dsimp only at ae;by_cases q:j=i
    ·subst q;exact absurd fV mW
    exact bG j (by omega) fV
   refine af ?_;cases wH with
   | false=>refine cM rfl (λ_=>?_) (λh=>by cases h);refine af ?_;refine c7 10 ?_;refine bT rfl (.dv rfl F9 rfl (.tmp rfl (.t1 rfl))) λI hw=>?_;exact Gj (BC h1 (k:=k+1) da (by unfold jb;rw[dW];dsimp only;rw[nH];dsimp only;rw[eD rfl];rfl)) (by decide)
   | true=>
    have jw:i=(br t).length:=by rw[aqx,au]at dL;omega
    subst jw;have E7:jb t (br t) (k+1)=.ok ⟨a.J++s2.J,a.bars++s2.bars,a.addr++h9 s2.addr a.J.length,a.data++h9 s2.data a.J.length,a.bh++h9 s2.dF a.J.length,r9 (br t) a.ends k a.J.length s2.ag⟩:=by unfold jb;rw[dW];dsimp only;rw[nH];dsimp only;rw[aou (OP (bG rfl))]
    rw[OR];refine cM rfl (λh=>by cases h) λ_=>?_;refine af ?_;refine aq (bK 7 (h1:=.cons Cr.one (.cons yZ.one (.cons ok.aI.one (.cons ok.bv.one (.cons ok.aG.one (.cons ok.aR.one (.cons ok.r7.one (.cons Ao.one (.cons FG.one .nil))))))))) (ab:=af ?_));exact bm (k+1,dP a.J.length A s2,⟨a.J++s2.J,a.bars++s2.bars,a.addr++h9 s2.addr a.J.length,a.data++h9 s2.data a.J.length,a.bh++h9 s2.dF a.J.length,r9 (br t) a.ends k a.J.length s2.ag⟩,eu) ⟨da,E7,D.step fQ (h8.b C h0 ⟨List.Pairwise.nil,List.Pairwise.nil,List.Pairwise.nil⟩) _,⟨ok.aI,ok.bv,ok.aG,ok.aR,ok.r7⟩⟩ (show t.code.length-(k+1)<t.code.length-k by omega) (hA:=b4 [3,1,4,5,6,7,8,9,10,11])
 have da:k=t.code.length:=by rw[au]at aA;omega
 subst da;have FA:dI t=0:=by unfold dI;rw[aou h1,dW]
 refine af ?_;refine bX (λi:Nat=>i<=(br t).length) (λi=>[(18,true,.int .i64 i),(6,true,av cY),(2,true,av dC)]) (λi=>Mem [(ig,Fr ia),(bY,Fr ck),(w,al)] [.box cY [ak,gZ,z.aI,z.bv,z.aG,z.aR,z.ad,aT,v80] 41,.own gZ 3 1 a7 (od t),.own z.aI 138 6 ef a.J,.own z.bv 140 3 fE a.bars,.own z.aG 178 2 bB A.addr,.own z.aR 178 2 bB A.data,.own z.ad 178 2 bB A.bh,.own v80 87 2 oF (vO t (br t) a.ends i),.box dC [aa,aa,aa,aa,aa,aa,aa,aa,aa] 41]) (λi=>(br t).length-i) 0 (aoD _) ?_ ⟨rfl,rfl,rfl,trivial⟩ (λ_ h=>by unfold vO;rw[Im yB,<-D.J,<-D.bars];exact h.cC [5,6,0,1,2,3,4,7,8])
 intro i hi;have I4:(vO t (br t) a.ends i).length=(br t).length:=xn _ _ _ _ _;have JR:(br t).length=(fS t.dH t.node).length:=rfl;refine dp (λdL=>?_) λdL=>?_
 ·have jw:i<(br t).length:=by rw[an]at dL;omega
  have lB:(br t).getD i default∈br t:=eN jw;have jz:=G.vc lB;have er:vO t (br t) a.ends (i+1)=_:=Il jw;refine dp (λdZ=>?_) λdZ=>?_
  ·rw[an]at dZ;have mW:((br t).getD i default).aH= -1:=dZ;rw[aou mW]at er;have eS:((br t).getD i default).loc∈cc t:=by unfold lG at jz;rw[aou mW,aoo]at jz;refine uY.2 ⟨?_,sB jz.2⟩;unfold ni;exact aoG.2 (.inr (ao9.2 ⟨_,lB,rfl⟩))
   have mc:=Dx eS;refine af ?_;refine cz [0,1,2,3,4,5,6,7,8,9,10,11,12,13] mixed ?_;refine bQ ?_;refine bO _ (h:=bp (λI hw=>Bo ak gZ z.aI z.bv z.aG z.aR z.ad aT v80 (cc t) ((br t).getD i default).loc I (hw.now c0) ⟨yZ,bu,b2,gg,lp,r8,Ao,FG⟩) ?_);rintro v n7 BJ rfl CI;refine aF ?_ ek;refine cA _ ek ?_;rw[mc];refine bQ ?_;refine gw (h:=fq 7 rfl (⟨3,((dr (cc t) ((br t).getD i default).loc:Nat):Int)⟩:gl) (ab:=af ?_));exact bm (i+1) jw (by omega) (hA:=λ_ h=>by rw[er];exact h)
  rw[au]at dZ;have mW:¬((br t).getD i default).aH= -1:=dZ;rw[aot mW]at er;refine af ?_;exact bm (i+1) jw (by omega) (hA:=λ_ h=>by rw[er];exact h)
 have jw:i=(br t).length:=by rw[au]at dL;omega
 subst jw;rw[OO];refine af ?_;refine aq (hq (bb:=λI hw=>(LN z.aG A.addr I (hw.dX) (by omega)).size (hw.sz (S:=al) (B:=w) (by repeat (first | exact .head _ | refine .tail _ ?_)))) (ab:=?_));rintro ds amA anE ⟨IH,aaU⟩ alz;have aiy:=IH.aK;refine af ?_;refine c7 0 ?_;refine aq (hq (bb:=λI hw=>(LN z.aR A.data I (hw.dX) (by omega)).size (hw.sz (S:=al) (B:=w) (by repeat (first | exact .head _ | refine .tail _ ?_)))) (ab:=?_));rintro a2 amB anF ⟨Aq,aaV⟩ alA;have aiz:=Aq.aK;refine af ?_;refine c7 0 ?_;refine aq (hq (bb:=λI hw=>(LN z.ad A.bh I (hw.dX) (by omega)).size (hw.sz (S:=al) (B:=w) (by repeat (first | exact .head _ | refine .tail _ ?_)))) (ab:=?_));rintro a3 amC anG ⟨II,aaW⟩ alB;have aiA:=II.aK;refine af ?_;refine c7 0 ?_;refine c7 8 ?_;obtain⟨cB,bz,fc⟩:=D.ah6 vm;rw[cB]at IH;rw[bz]at Aq;rw[fc]at II;refine bT rfl (.dv rfl KD rfl (.tmp rfl (.t1 rfl))) λI hw=>?_;refine⟨ak,gZ,z.aI,z.bv,ds,a2,a3,aT,v80,0,by rw[FA];rfl,⟨Cr,yZ,bu,b2,aiy,aiz,aiA,Ao,FG⟩,λ_=>?_⟩;rw[Hb h1 dW];exact⟨hw.pass c0 qU j7,hw.im dg pN,hw.im hy pN,hw.im jC pN,hw.pass IH hy aaU,hw.pass Aq dg aaV,hw.pass II aP aaW,hw.pass jS jC km,hw.im xR pN⟩
end Go.Proofs.bA
