/- Lemmas for the law WholeSound. -/
import Derived.ArgAppend
import Derived.Test.YtiknadellddjhaaGreatDoorS44
set_option linter.all false
open Go.Proofs.Tryz
set_option maxHeartbeats 3200000
open Go Go.cc Go.bU Go.gH Go.eV
namespace Go.cc
open Go Go.RowKit
def rA{aQ:Type}(v:Value)(t:TypeId)(sz:Nat)(enc:aQ->List Value)(xs:List aQ)(w:World):Prop:=(v=U/\xs=[])\/∃g off cap cur,v=.slice (some ⟨g,off,none⟩) xs.length cap/\w.heap[g]?=some (.cells cur t (0,0))/\xs.length<=cap/\cap<=maxLen/\(0<cap->off+cap* sz<=cur.size)/\(0<cap->(cur.toList.drop off).take (xs.length* sz)=xs.flatMap enc)
def kM{aQ:Type}(v:Value)(t:TypeId)(sz:Nat)(enc:aQ->List Value)(xs:List aQ):aA:=.gen v.ownBlock.toList (rA v t sz enc xs)
section
variable {aQ:Type} {v:Value} {t sz:Nat} {enc:aQ->List Value} {xs:List aQ} {bs:List dr} {H:List aA}
theorem ag8{w I:World}(h:rA v t sz enc xs w)(ag:∀k,k∈v.ownBlock.toList->I.heap[k]?=w.heap[k]?):rA v t sz enc xs I:=by
 rcases h with h | ⟨g,off,cap,cur,rfl,h1,h2,h3,aC,aW⟩
 ·exact .inl h
 exact .inr ⟨g,off,cap,cur,rfl,by rw[ag g (by simp[Value.ownBlock])];exact h1,h2,h3,aC,aW⟩
theorem LC{w:World}(h:rA v t sz enc xs w):(kM v t sz enc xs).ok w:=λ_ ag=>ag8 h ag
theorem Dc{w:World}(h:(kM v t sz enc xs).ok w):rA v t sz enc xs w:=h w λ_ _=>rfl
theorem TY{w:World}(h:rA v t sz enc xs w):∀k,k∈v.ownBlock.toList->k<w.heap.size:=λk hk=>by
 rcases h with⟨rfl,_⟩ | ⟨g,off,cap,cur,rfl,h1,_⟩
 ·simp[Value.ownBlock]at hk
 simp[Value.ownBlock]at hk;subst hk;exact(aot.1 h1).1
theorem Mem.ahc{w:World}(t sz:Nat)(enc:aQ->List Value)(hw:Mem bs H w):Mem bs (kM U t sz enc []::H) w:=hw.new rfl rfl rfl (amK _) (λ_ _=>rfl) (LC (.inl ⟨rfl,rfl⟩)) (λk hk=>by simp[aA.cX,kM,Value.ownBlock]at hk) (λk hk=>by simp[aA.cX,kM,Value.ownBlock]at hk)
theorem GB[he:ee enc sz]{w:World}(h:rA v t sz enc xs w){i j:Nat}{x:aQ}{u:Value}(hi:xs[i]?=some x)(ad:(enc x)[j]?=some u):w.cell? (gI v sz i j)=some u:=by
 have gB:i<xs.length:=(amV.1 hi).1;have fZ:j<sz:=by have:=(amV.1 ad).1;rwa[he.len]at this
 rcases h with⟨_,rfl⟩ | ⟨g,off,cap,cur,rfl,h1,h2,h3,aC,aW⟩
 ·cases hi
 have ai:0<cap:=by omega
 have aC:=aC ai;have aW:=aW ai;have hy:i* sz+sz<=xs.length* sz:=by rw[<-aoo];exact anh _ gB
 have Ey:xs.length* sz<=cap* sz:=anh _ h2;have hf:(xs.flatMap enc)[i* sz+j]?=some u:=by
  have Jo:xs=xs.take i++(x::xs.drop (i+1)):=by have:x=xs[i]:=(amV.1 hi).2.symm;rw[this];simp
  rw[Jo,am4,am0];have kC:((xs.take i).flatMap enc).length=i* sz:=by rw[nJ,amX,aoA (by omega)]
  rw[amL (by omega),kC,aom,amM (by rw[he.len];exact fZ)];exact ad
 rw[<-aW,anO,amo (by omega),anP]at hf;have bC:gI (.slice (some ⟨g,off,none⟩) xs.length cap) sz i j=⟨g,off+(i* sz+j),none⟩:=by
  simp only[gI,add_add];unfold Addr.add;split
  ·rename_i h0;rw[h0];rfl
  simp
 rw[bC];simp[World.cell?,h1];rw[<-aoy];exact hf
theorem GC{w:World}(h:rA v t sz enc xs w):∃a cap,v=.slice a xs.length cap/\(0<xs.length->a.isSome=true)/\xs.length<=cap/\cap<=maxLen:=by
 rcases h with⟨rfl,rfl⟩ | ⟨g,off,cap,cur,rfl,h1,h2,h3,_⟩
 ·exact⟨none,0,rfl,λh=>by simp at h,by simp,by unfold maxLen;omega⟩
 exact⟨_,cap,rfl,λ_=>rfl,h2,h3⟩
theorem Mem.abB[he:ee enc sz]{w:World}(hw:Mem bs H w)(hm:kM v t sz enc xs∈H):aV an w enc sz v xs:=by have bm:=Dc (hw.own _ hm);refine⟨?_,λi x j u hi ad=>GB bm hi ad,λa n cap aw oh=>trivial⟩;obtain⟨a,cap,aw,h1,h2,h3⟩:=GC bm;exact⟨a,_,cap,aw,rfl,h2,h3,h1⟩
theorem Mem.ag7[he:ee enc sz]{w:World}{es:List aA}(hw:Mem bs (es++H) w)(hm:kM v t sz enc xs∈H):aV (bB es) w enc sz v xs:=by have bm:=Dc (hw.own _ (anq _ hm));refine⟨?_,λi x j u hi ad=>GB bm hi ad,λa n cap aw oh e he nh=>hw.wK he hm nh (by show _∈v.ownBlock.toList;rw[aw];simp[Value.ownBlock])⟩;obtain⟨a,cap,aw,h1,h2,h3⟩:=GC bm;exact⟨a,_,cap,aw,rfl,h2,h3,h1⟩
theorem ag9[he:ee enc sz]{x:aQ}{w:World}(h:rA v t sz enc (x::xs) w):rA (gU sz 1 (x::xs).length v) t sz enc xs w:=by
 rcases h with⟨_,h⟩ | ⟨g,off,cap,cur,rfl,h1,h2,h3,aC,aW⟩
 ·cases h
 rw[amI]at h2;have ai:0<cap:=by omega
 have aC:=aC ai;have aW:=aW ai;have fC:cap* sz=(cap-1)* sz+sz:=by rw[<-aoo];congr 1;omega
 refine .inr ⟨g,if cap=1 then off else off+sz,cap-1,cur,?_,h1,by omega,by omega,λhp=>?_,λhp=>?_⟩
 ·unfold gU;dsimp only;have e:(x::xs).length-1=xs.length:=by simp
  rw[e];split
  ·rfl
  have aY:Addr.add ⟨g,off,none⟩ (1* sz)=⟨g,off+sz,none⟩:=by
   unfold Addr.add;split
   ·rename_i h0;rw[Nat.one_mul]at h0;rw[h0];rfl
   simp
  simp only[aoq,aY]
 ·rw[amn (by omega)];omega
 rw[amn (by omega)];rw[amI,am0,aoo,Nat.add_comm]at aW;have aB:(enc x).length=sz:=he.len x;have cM:(cur.toList.drop off).take (sz+xs.length* sz)=(cur.toList.drop off).take sz++((cur.toList.drop off).drop sz).take (xs.length* sz):=List.take_add;rw[cM]at aW;have bG:((cur.toList.drop off).take sz).length=(enc x).length:=by rw[amX,anD,aB];have:cur.toList.length=cur.size:=aop;omega
 have:=(List.append_inj aW bG).2;rwa[List.drop_drop]at this
theorem Mem.WI[he:ee enc sz]{x:aQ}{w:World}(hw:Mem bs (kM v t sz enc (x::xs)::H) w):Mem bs (kM (gU sz 1 (x::xs).length v) t sz enc xs::H) w:=by
 have bm:=Dc (hw.own _ aL);have hb:(gU sz 1 (x::xs).length v).ownBlock=v.ownBlock:=by
  rcases bm with⟨_,h⟩ | ⟨g,off,cap,cur,rfl,_⟩
  ·cases h
  unfold gU;dsimp only;split
  ·rfl
  simp only[aoq,Value.ownBlock];unfold Addr.add;split<;>rfl
 have:=hw.rC (i:=0) (e':=kM (gU sz 1 (x::xs).length v) t sz enc xs) rfl rfl rfl rfl (amK _) (λ_ _ _=>rfl) (LC (ag9 bm)) (λk hk=>?_) λk hk=>?_
 ·exact this
 ·exact TY bm k (by rw[<-hb];exact hk)
 exact .inl (by show k∈v.ownBlock.toList;rw[<-hb];exact hk)
end
section
variable {P:Program} {N:Nat} {Q:Exit->Act->World->Prop} {tm:dU} {K:Act->World->Prop} {bs:List dr} {H:List aA}
theorem RH{aQ:Type}{e sz:Nat}{enc:aQ->List Value}{v:Value}{xs:List aQ}{w:World}{b:Nat}(h:w.ownsRow b e sz v xs.length (xs.flatMap enc)):rA v e sz enc xs w:=by
 obtain⟨_,⟨aw,h0⟩ | ⟨g,cap,cur,aw,_,eO,p3,rW,eh,gu⟩⟩:=h
 ·exact .inl ⟨aw,amO h0⟩
 exact .inr ⟨g,0,cap,cur,aw,eO,p3,rW,λ_=>by omega,λ_=>by rw[aon];exact gu⟩
theorem afn{P:Program}(w:World)(t ty e:TypeId)(i:TypeInfo)(aE:P.underlying t=some (.slice e))(hi:P.info? e=some i) (g off yV Ll:Nat) (cur:Array Value) (ay:w.heap[g]?=some (.cells cur e (0,0))) (a:Addr) (m c:Nat) (news:List Value) (aB:news.length=m* i.size) (ug:∀j u,news[j]?=some u->w.cell? (a.add j)=some u) (h1:∀u∈news,u.oneCell'=true) (w3:yV+m<=Ll) (rb:off+yV* i.size+news.length<=cur.size): (Builtin.append_ #[t,t] ty #[.slice (some ⟨g,off,none⟩) yV Ll,.slice (some a) m c]).run P w= .ok (.slice (some ⟨g,off,none⟩) (yV+m) Ll) (w.setRow g (cur.toList.take (off+yV* i.size)++news++cur.toList.drop (off+yV* i.size+news.length)).toArray):=by have hf:=run_firstCells_some (P:=P) w i.size m a m c news aB ug;have c4:=run_storeCells_at P g (off+yV* i.size) e news 0 cur w ay (by simpa using rb) h1;simp only[Nat.add_zero]at c4;simp[Builtin.append_,run_underlying aE,sizeOf,typeInfo,hi,Builtin.lenOf,w3,hf,Addr.add_lit,c4]
theorem Vx{aQ:Type}{enc:aQ->List Value}{t ty e sz b:Nat}{z:Value}(w:World)[aE:fz P t e][cP:dh P e sz b z][he:ee enc sz](pD:z.cells.size=sz) {v:Value} {xs ys:List aQ} (h:rA v e sz enc xs w) {A:Addr} {c:Nat} (h0:0<ys.length) (ug:∀j u,(ys.flatMap enc)[j]?=some u->w.cell? (A.add j)=some u) (h1:∀u,u∈ys.flatMap enc->u.oneCell'=true) (BK:xs.length+ys.length<=maxLen) (zE:(xs.length+ys.length)* b<=140737488355328): ∃dL I,(Builtin.append_ #[t,t] ty #[v,.slice (some A) ys.length c]).run P w=.ok dL I/\rA dL e sz enc (xs++ys) I/\w.grownBy I v.ownBlock/\ (∀k,k∈dL.ownBlock.toList->k∈v.ownBlock.toList\/w.heap.size<=k):=by
 obtain⟨i,hi,ma,oV,re⟩:=cP.h;subst ma;have ln:(ys.flatMap enc).length=ys.length* i.size:=nJ ys;have OU:(xs++ys).flatMap enc=xs.flatMap enc++ys.flatMap enc:=am4;rcases h with⟨rfl,rfl⟩ | ⟨g,off,cap,cur,rfl,ay,p3,rW,eh,gu⟩
 ·obtain⟨dL,I,aH,bm,ay,hf,_,_⟩:=MM (P:=P) (t:=t) (ty:=ty) (e:=e) (a:=some A) (c:=c) w pD he.pos (v:=U) (n:=0) (xs:=[]) ⟨by simp,.inl ⟨rfl,rfl⟩⟩ ln (λBb e=>by injection e with e;subst e;exact ug) (λh=>by cases h) h1 (by simpa using BK) (by simpa using zE);refine⟨dL,I,aH,RH (b:=0) ?_,ay,hf⟩;rw[anf]at *;simpa using bm
 by_cases w3:xs.length+ys.length<=cap
 ·have ai:0<cap:=by omega
  have eh:=eh ai;have gu:=gu ai;have Ey:(xs.length+ys.length)* i.size<=cap* i.size:=anh _ w3;rw[aob]at Ey;have eE:cur.toList.length=cur.size:=aop;have aH:=afn (P:=P) w t ty e i aE.h hi g off xs.length cap cur ay A ys.length c (ys.flatMap enc) ln ug h1 w3 (by rw[ln];omega);have dn:(cur.toList.take (off+xs.length* i.size)).length=off+xs.length* i.size:=by rw[amX];omega
  refine⟨_,_,aH,.inr ⟨g,off,cap,_,by rw[ams],setRow_heap w g _ _ e _ ay,by rw[ams];exact w3,rW,λ_=>?_,λ_=>?_⟩,⟨rfl,rfl,rfl,by simp,λk _ hk=>setRow_other w g k _ λe=>hk (by rw[e];rfl)⟩,λk hk=>.inl hk⟩
  ·simp only[an2,ams,anD,dn,ln,eE];omega
  rw[OU,ams,aob];have cd:(cur.toList.take (off+xs.length* i.size)++ys.flatMap enc++cur.toList.drop (off+xs.length* i.size+(ys.flatMap enc).length)).toArray.toList=cur.toList.take (off+xs.length* i.size)++(ys.flatMap enc++cur.toList.drop (off+xs.length* i.size+(ys.flatMap enc).length)):=by simp
  rw[cd,List.drop_append_of_le_length (by omega),List.drop_take,aom,gu,<-amJ,List.take_append_of_le_length (by rw[ams,ln,nJ xs];omega),aoK (by rw[ams,ln,nJ xs];omega)]
 have nm:(xs.flatMap enc).length=xs.length* i.size:=nJ xs;have holds:∀j u,(xs.flatMap enc)[j]?=some u->w.cell? ((⟨g,off,none⟩:Addr).add j)=some u:=λj u ad=>by obtain⟨a,x,o,h1,h2,rfl⟩:=zv xs j u ad;have:=GB (v:=.slice (some ⟨g,off,none⟩) xs.length cap) (.inr ⟨g,off,cap,cur,rfl,ay,p3,rW,eh,gu⟩) h1 h2;simp only[gI,add_add]at this;exact this
 obtain⟨dL,I,aH,bm,ay⟩:=run_append_arg_grows (P:=P) w t ty e i z i.size b aE.h hi re rfl oV pD he.pos ⟨g,off,none⟩ xs.length cap (xs.flatMap enc) nm holds A ys.length c (ys.flatMap enc) ln ug (by omega) BK zE;refine⟨dL,I,aH,RH (b:=w.heap.size) (by rw[ams,OU];exact bm),⟨ay.os,ay.tape,ay.output,ay.size,λk hk _=>ay.block k hk (by simp)⟩,λk hk=>.inr ?_⟩;obtain⟨_,⟨aw,_⟩ | ⟨g2,aiT,aiV,aw,Eu,_⟩⟩:=bm
 ·subst aw;simp[Value.ownBlock]at hk
 subst aw;simp[Value.ownBlock]at hk;omega
theorem XG{aQ:Type}{enc:aQ->List Value}{dec:List Value->aQ}{ok:aQ->Prop}{d t e sz b k tt:Nat}{z v u:Value}{x y:Operand}{xs ys:List aQ}[aE:fz P t e][cP:dh P e sz b z][jw P e enc dec][he:ee enc sz][h1:n5 enc ok] (hx:bo tm true x v:=by exact(bY rfl)) (aR:bo tm true y u:=by exact(bY rfl)) (hk:H[k]?=some (kM v e sz enc xs)) (hm:aA.own u tt sz enc ys∈H) (h0:0<ys.length) (aY:Nat.beq z.cells.size sz=true:=by rfl) (hok:∀y,y∈ys->ok y:=by(intros;trivial)) (bG:(xs.length+ys.length)* b<=140737488355328/\xs.length+ys.length<=9223372036854775807:=by omega) (hd:Nat.blt d N=true:=by rfl) (ab:∀dL,aD dL->cL N K ((d,true,dL)::tm) (Mem bs (H.set k (kM dL e sz enc (xs++ys))))):gq P N (.call {callee:=.builtin .append,args:=#[x,y],argTypes:=#[t,t]}) (some d) Q tm (Mem bs H) K:=by
 unfold gq;unfold cL at ab
 intro a w ty pos cR g ag hw;unfold Oper.wp;have mC:=hw.own _ hm;obtain⟨dI,xF,rfl,fR,_⟩:=si mC;obtain⟨A,rfl⟩:=am7.1 (fR h0);have oY:=Dc (hw.own _ (amF hk));obtain⟨dL,I,aH,bm,ay,hf⟩:=Vx (P:=P) (t:=t) (ty:=ty) (e:=e) (A:=A) (c:=xF) w (anS aY) oY h0 (RG mC A rfl) (λq aZ=>by obtain⟨y,aR,aZ⟩:=ana.1 aZ;exact h1.one y (hok y aR) q aZ) (by unfold maxLen;omega) bG.1
 have vx:(execOp a.eval ⟨some d,.call {callee:=.builtin .append,args:=#[x,y],argTypes:=#[t,t]},ty,pos,cR,g⟩).run P w=.ok (.value dL) I:=by simp[execOp,resolve,invoke,builtin,hx.get ag rfl,aR.get ag rfl,aH]
 rw[vx];have gZ:aD dL:=by obtain⟨a,cap,aw,_⟩:=GC bm;exact⟨_,_,_,aw⟩
 refine ab dL gZ _ _ (by simpa using ag.put (anm.mp hd) true _) ?_
 refine hw.rC hk ay.os ay.tape ay.output ay.size (λq aZ bh=>ay.block q aZ λe=>bh ?_) (LC bm) (TY bm) hf;show q∈v.ownBlock.toList;rw[<-e];simp
structure DA(bs:List dr)(e:aA)(rE:World):Prop where
 ok:e.ok rE
 fw:∀k,k∈e.cX->k<rE.heap.size
 apart:∀B,B∈bs->∀k,k∈e.cX->B.2 k->B.1.heap.size<=k
theorem abh{e:aA}(h:∀rE,DA bs e rE->cL N K tm (Mem ((rE,λk=>k∈e.cX)::bs) H)):cL N K tm (Mem bs (e::H)):=by
 unfold cL at *;intro a w ag hw;refine h w ⟨hw.own _ aL,hw.fw _ aL,λB hB=>hw.apart B hB _ aL⟩ a w ag ⟨λB hB=>?_,hw.tail.own,hw.tail.fw,λB hB e' gX k hk ct=>?_,hw.tail.h9⟩
 ·rcases amG.1 hB with rfl | hB
  ·exact ks.refl _ _
  exact hw.base B hB
 rcases amG.1 hB with rfl | hB
 ·obtain⟨j,ad⟩:=anv gX;exact absurd (hw.h9 0 (j+1) e e' (by omega) rfl (by simpa using ad) k ct hk) id
 exact hw.tail.apart B hB e' gX k hk ct
theorem Mem.VD{e:aA}{rE w:World}(hw:Mem ((rE,λk=>k∈e.cX)::bs) H w)(h:DA bs e rE):Mem bs (e::H) w:=by
 have hA:=hw.base _ aL;refine⟨hw.cI.base,λe' gX=>?_,λe' gX k hk=>?_,λB hB e' gX k hk ct=>?_,λi j fY gh hN hi ad k hk fe=>?_⟩
 ·rcases amG.1 gX with rfl | gX
  ·exact aA.FQ h.ok λk hk=>hA.sR k (h.fw k hk) hk
  exact hw.own e' gX
 ·rcases amG.1 gX with rfl | gX
  ·exact anH (h.fw k hk) hA.size
  exact hw.fw e' gX k hk
 ·rcases amG.1 gX with rfl | gX
  ·exact h.apart B hB k hk ct
  exact hw.cI.apart B hB e' gX k hk ct
 cases i with
 | zero=>
  cases j with
  | zero=>exact absurd rfl hN
  | succ j=>simp at hi ad;subst hi;have:=hw.apart _ aL gh (amF ad) k fe hk;have h2:=h.fw k hk;simp only at this;omega
 | succ i=>
  cases j with
  | zero=>simp at hi ad;subst ad;have:=hw.apart _ aL fY (amF hi) k hk fe;have h2:=h.fw k fe;simp only at this;omega
  | succ j=>exact hw.h9 i j fY gh (by omega) (by simpa using hi) (by simpa using ad) k hk fe
theorem DA.lB{aQ:Type}{enc:aQ->List Value}{sz t:Nat}{v:Value}{xs:List aQ}{rE:World}[he:ee enc sz](h:DA bs (kM v t sz enc xs) rE):aV (λk=>k∈(kM v t sz enc xs).cX) rE enc sz v xs:=by have bm:=Dc h.ok;refine⟨?_,λi x j u hi ad=>GB bm hi ad,λa n cap aw oh=>by show _∈v.ownBlock.toList;rw[aw];simp[Value.ownBlock]⟩;obtain⟨a,cap,aw,h1,h2,h3⟩:=GC bm;exact⟨a,_,cap,aw,rfl,h2,h3,h1⟩
end
end Go.cc
attribute [local irreducible] Go.wpList Go.Code.wp Go.bodyPost Go.Exit.then Go.Exit.inBlock Go.Calls
namespace Go.Proofs.bK
instance:jw prog 79 cD l6:=⟨trivial⟩
def DD(t:a1)(c:cv):Nat->Nat->Nat->Bool
 | 0=>nu t
 | 1=>λi j=>nu t i j||ke t (iR t c) i j
 | 2=>λi j=>(nu t i j||ke t (iR t c) i j)||hX t c i j
 | _=>nx t c
def Lz(t:a1)(c:cv):Nat->Nat->Nat->Bool
 | 0=>ke t (iR t c)
 | 1=>hX t c
 | _=>jD t c
theorem Vo(t:a1)(c:cv){i:Nat}(h:i<3):DD t c (i+1)=λa b=>DD t c i a b||Lz t c i a b:=by
 rcases i with _ | _ | _ | i
 ·rfl
 ·rfl
 ·rfl
 omega
theorem ao8{t:a1}(h1:gL t=true):su t=(t.J.length:Int)/\(∀p,qP t p=bT t.J.length p)/\pN t=0:=by
 refine⟨?_,λp=>?_,?_⟩
 ·unfold su;rw[amo h1]
 ·unfold qP;rw[amo h1]
 unfold pN;rw[amo h1]
theorem TT{lv aj aN bv aK aX ae aU bE:Value}{t:a1}(cz b1:Value)(c:cv)(s1 s2 cy dq dd ep dP ff fy:Value)(w:World)(h:ha an w lv aj aN bv aK aX ae aU bE t)(ai:jW an w cz b1 c)(rq:aV an w fA 1 dq (bT t.J.length (ke t (iR t c))))(AE:aV an w fA 1 dd (bT t.J.length (hX t c)))(AF:aV an w fA 1 dP (bT t.J.length (jD t c)))(fk:aD s1)(jQ:aD s2)(j4:aD cy)(j5:aD dq)(k4:aD dd)(mc:aD ep)(lN:aD dP)(me:aD ff)(mG:aD fy)(aY:fc t c=0): eH prog 107 [.agg #[lv,aj,aN,bv,aK,aX,ae,aU,bE,cz,b1,.int .i64 t.J.length,s1,.int .i64 t.J.length,s2,.int .i64 t.J.length,cy,.int .i64 t.J.length,dq,.int .i64 t.J.length,dd,.int .i64 t.J.length,ep,.int .i64 t.J.length,dP,.int .i64 t.J.length,ff,.int .i64 t.J.length,fy]] w (G1 t.J.length (bT t.J.length (nx t c))):=by
 have k2:=ai.br.aG;have mE:=ai.oM;have h1:=(l5 aY).1;obtain⟨hb,w0⟩:=lD h1;obtain⟨iK,b8,ajb⟩:=ao8 h1;refine iY func107 ntmps107 ?_;refine ck λDK=>?_;refine cU λdy=>?_;refine ao (gr (λI hw=>ahg (t:=t) I (h.now hw)) ?_);rintro v bx es a6 ⟨db,yj,rfl,rfl⟩;rw[iK,b8 (nu t)];refine aa ?_;refine cU λdR=>?_;refine bQ 0 ?_;refine ao (eA _ _ (ab:=?_));intro aJ fv;generalize hxs:(List.map _ _:List DB)=xs;have hxs:xs=[⟨t.J.length,dq⟩,⟨t.J.length,dd⟩,⟨t.J.length,dP⟩]:=hxs.symm;have nm:xs.length=3:=by rw[hxs];rfl
 have aaj:∀i,i<3->(xs.getD i default).n=t.J.length/\aD (xs.getD i default).s/\aV an w fA 1 (xs.getD i default).s (bT t.J.length (Lz t c i)):=λi hi=>by
  rw[hxs];rcases i with _ | _ | _ | i
  ·exact⟨rfl,j5,rq⟩
  ·exact⟨rfl,k4,AE⟩
  ·exact⟨rfl,lN,AF⟩
  omega
 refine aa ?_;rw[nm];refine b9 (λs:Nat×Value=>s.1<=3/\aD s.2) (λs=>[(24,true,.int .i64 s.1),(23,true,.int .i64 (3:Nat)),(22,true,aJ),(3,true,ax dR),(2,true,ax dy)]) (λs=>Mem [(w,an)] [.own aJ 113 2 HA xs,.box dR [.int .i64 t.J.length,s.2] 113,et s.2 (bT t.J.length (DD t c s.1)),.box dy [.int .i64 0,U] 113,.box DK [lv,aj,aN,bv,aK,aX,ae,aU,bE,cz,b1,.int .i64 t.J.length,s1,.int .i64 t.J.length,s2,.int .i64 t.J.length,cy,.int .i64 t.J.length,dq,.int .i64 t.J.length,dd,.int .i64 t.J.length,ep,.int .i64 t.J.length,dP,.int .i64 t.J.length,ff,.int .i64 t.J.length,fy] 123]) (λs=>3-s.1) (0,db) ⟨amz _,yj⟩ ?_ ⟨rfl,rfl,rfl,rfl,rfl,trivial⟩ c7
 rintro⟨i,fI⟩ ⟨hi,PM⟩;dsimp only at hi PM⊢;refine bg (λh2=>?_) λh2=>?_
 ·have bF:i<3:=by rw[aq]at h2;omega
  obtain⟨Jr,P5,Js⟩:=aaj i bF;have aak:i<xs.length:=by omega
  refine aa ?_;refine ao (ft ?_);intro cS;generalize xs.getD i default=x at Jr P5 Js⊢;obtain⟨aiz,Dr⟩:=x;dsimp only at Jr P5 Js;subst Jr;refine aa ?_;refine bQ 0 ?_;refine ao (gr (λI hw=>A2 (lz _ (DD t c i) hb) (lz _ (Lz t c i) hb) (hw.ed) (hw.now Js)) ?_);rintro v cp es bX ⟨fl,I4,rfl,rfl⟩;rw[AI hb,<-Vo t c bF];refine aa ?_;refine bQ 3 ?_;exact bt (i+1,fl) ⟨by dsimp only;omega,I4⟩ (by dsimp only;omega) (hA:=bM [2,3,0,5,6])
 obtain rfl:i=3:=by rw[ar]at h2;omega
 refine aa ?_;refine bQ 3 ?_;exact eR rfl (.c1 rfl mh rfl) [_] [2] λI hw=>⟨fI,PM,rfl,rfl⟩
theorem agZ{lv aj aN bv aK aX ae aU bE:Value}{t:a1}(cz b1:Value)(c:cv)(s1 s2 cy dq dd ep dP ff fy:Value)(w:World)(h:ha an w lv aj aN bv aK aX ae aU bE t)(ai:jW an w cz b1 c)(fk:aD s1)(jQ:aD s2)(j4:aD cy)(j5:aD dq)(k4:aD dd)(mc:aD ep)(lN:aD dP)(me:aD ff)(mG:aD fy)(bp:lg w): bj prog 105 [.agg #[lv,aj,aN,bv,aK,aX,ae,aU,bE,cz,b1,.int .i64 t.J.length,s1,.int .i64 t.J.length,s2,.int .i64 t.J.length,cy,.int .i64 t.J.length,dq,.int .i64 t.J.length,dd,.int .i64 t.J.length,ep,.int .i64 t.J.length,dP,.int .i64 t.J.length,ff,.int .i64 t.J.length,fy]] w λ_ v _=>v=.bool (na t c):=by have k2:=ai.br.aG;have mE:=ai.oM;refine ca func105 ntmps105 ?_;refine ck λDK=>?_;refine ao (bw (λI hw=>ahT cz b1 c I (h.now hw) (ai.now hw) (bp.now hw)) ?_);rintro v bx a6 rfl cA;refine bl λI hw=>?_;rfl
theorem ag4{lv aj aN bv aK aX ae aU bE:Value}{t:a1}(cz b1:Value)(c:cv)(s1 s2 cy dq dd ep dP ff fy:Value)(w:World)(h:ha an w lv aj aN bv aK aX ae aU bE t)(ai:jW an w cz b1 c)(rq:aV an w fA 1 dq (bT t.J.length (ke t (iR t c))))(AE:aV an w fA 1 dd (bT t.J.length (hX t c)))(AF:aV an w fA 1 dP (bT t.J.length (jD t c)))(fk:aD s1)(jQ:aD s2)(j4:aD cy)(j5:aD dq)(k4:aD dd)(mc:aD ep)(lN:aD dP)(me:aD ff)(mG:aD fy)(aY:fc t c=0): bj prog 106 [.agg #[lv,aj,aN,bv,aK,aX,ae,aU,bE,cz,b1,.int .i64 t.J.length,s1,.int .i64 t.J.length,s2,.int .i64 t.J.length,cy,.int .i64 t.J.length,dq,.int .i64 t.J.length,dd,.int .i64 t.J.length,ep,.int .i64 t.J.length,dP,.int .i64 t.J.length,ff,.int .i64 t.J.length,fy]] w λ_ v _=>v=.bool (mq t (nx t c)):=by have k2:=ai.br.aG;have mE:=ai.oM;refine ca func106 ntmps106 ?_;refine ck λDK=>?_;refine ao (gr (λI hw=>TT cz b1 c s1 s2 cy dq dd ep dP ff fy I (h.now hw) (ai.now hw) (hw.now rq) (hw.now AE) (hw.now AF) fk jQ j4 j5 k4 mc lN me mG aY) ?_);rintro v bx es a6 ⟨s,ag,rfl,rfl⟩;refine aa ?_;refine ao (bw (λI hw=>G6 t.J.length s (bT t.J.length (nx t c)) I (hw.ed)) ?_);rintro v cp bX rfl fq;refine bl λI hw=>?_;rfl
theorem TZ{lv aj aN bv aK aX ae aU bE:Value}{t:a1}(cz b1:Value)(c:cv)(s1 s2 cy dq dd ep dP ff fy:Value)(w:World)(h:ha an w lv aj aN bv aK aX ae aU bE t)(ai:jW an w cz b1 c)(rq:aV an w fA 1 dq (bT t.J.length (ke t (iR t c))))(AE:aV an w fA 1 dd (bT t.J.length (hX t c)))(AF:aV an w fA 1 dP (bT t.J.length (jD t c)))(fk:aD s1)(jQ:aD s2)(j4:aD cy)(j5:aD dq)(k4:aD dd)(mc:aD ep)(lN:aD dP)(me:aD ff)(mG:aD fy)(aY:fc t c=0)(bp:lg w): bj prog 43 [.agg #[lv,aj,aN,bv,aK,aX,ae,aU,bE,cz,b1,.int .i64 t.J.length,s1,.int .i64 t.J.length,s2,.int .i64 t.J.length,cy,.int .i64 t.J.length,dq,.int .i64 t.J.length,dd,.int .i64 t.J.length,ep,.int .i64 t.J.length,dP,.int .i64 t.J.length,ff,.int .i64 t.J.length,fy]] w λ_ v _=>v=.bool (ml t c):=by
 have k2:=ai.br.aG;have mE:=ai.oM;refine ca func43 ntmps43 ?_;refine ck λDK=>?_;refine ao (eA _ _ (ab:=?_));intro aJ fv;generalize hxs:(List.map _ _:List Value)=xs;have hxs:xs=[.func (.func 105) #[.agg #[lv,aj,aN,bv,aK,aX,ae,aU,bE,cz,b1,.int .i64 t.J.length,s1,.int .i64 t.J.length,s2,.int .i64 t.J.length,cy,.int .i64 t.J.length,dq,.int .i64 t.J.length,dd,.int .i64 t.J.length,ep,.int .i64 t.J.length,dP,.int .i64 t.J.length,ff,.int .i64 t.J.length,fy]] #[],.func (.func 106) #[.agg #[lv,aj,aN,bv,aK,aX,ae,aU,bE,cz,b1,.int .i64 t.J.length,s1,.int .i64 t.J.length,s2,.int .i64 t.J.length,cy,.int .i64 t.J.length,dq,.int .i64 t.J.length,dd,.int .i64 t.J.length,ep,.int .i64 t.J.length,dP,.int .i64 t.J.length,ff,.int .i64 t.J.length,fy]] #[]]:=hxs.symm;have nm:xs.length=2:=by rw[hxs];rfl
 refine aa ?_;rw[nm];refine b9 (λi:Nat=>i<=2/\(0<i->na t c=true)/\(1<i->mq t (nx t c)=true)) (λi=>[(11,true,.int .i64 i),(10,true,.int .i64 (2:Nat)),(9,true,aJ)]) (λ_=>Mem [(w,an)] [.own aJ 79 1 cD xs]) (λi=>2-i) 0 ⟨amz _,λq=>absurd q (aow _),λq=>absurd q (by omega)⟩ ?_ ⟨rfl,rfl,rfl,trivial⟩ (bM [0])
 rintro i ⟨hi,r2,EE⟩;refine bg (λh2=>?_) λh2=>?_
 ·have bF:i<2:=by rw[aq]at h2;omega
  have aak:i<xs.length:=by omega
  obtain rfl | rfl:i=0\/i=1:=by omega
  ·refine aa ?_;rw[show xs.getD 0 default=.func (.func 105) #[.agg #[lv,aj,aN,bv,aK,aX,ae,aU,bE,cz,b1,.int .i64 t.J.length,s1,.int .i64 t.J.length,s2,.int .i64 t.J.length,cy,.int .i64 t.J.length,dq,.int .i64 t.J.length,dd,.int .i64 t.J.length,ep,.int .i64 t.J.length,dP,.int .i64 t.J.length,ff,.int .i64 t.J.length,fy]] #[] by rw[hxs];rfl];refine ao (iJ (k:=105) (first:=[.agg #[lv,aj,aN,bv,aK,aX,ae,aU,bE,cz,b1,.int .i64 t.J.length,s1,.int .i64 t.J.length,s2,.int .i64 t.J.length,cy,.int .i64 t.J.length,dq,.int .i64 t.J.length,dd,.int .i64 t.J.length,ep,.int .i64 t.J.length,dP,.int .i64 t.J.length,ff,.int .i64 t.J.length,fy]]) (cap:=[]) (a7:=λI hw=>agZ cz b1 c s1 s2 cy dq dd ep dP ff fy I (h.now hw) (ai.now hw) fk jQ j4 j5 k4 mc lN me mG (bp.now hw)) (ab:=?_));rintro v bx a6 rfl cA;refine bg (λh3=>?_) λh3=>?_
   ·rw[amk]at h3;refine bl λI hw=>?_;unfold ml;rw[h3];rfl
   rw[amm]at h3;refine aa ?_;exact bt 1 ⟨by omega,λ_=>h3,λq=>absurd q (by omega)⟩ (by omega) (hA:=c7)
  refine aa ?_;rw[show xs.getD 1 default=.func (.func 106) #[.agg #[lv,aj,aN,bv,aK,aX,ae,aU,bE,cz,b1,.int .i64 t.J.length,s1,.int .i64 t.J.length,s2,.int .i64 t.J.length,cy,.int .i64 t.J.length,dq,.int .i64 t.J.length,dd,.int .i64 t.J.length,ep,.int .i64 t.J.length,dP,.int .i64 t.J.length,ff,.int .i64 t.J.length,fy]] #[] by rw[hxs];rfl];refine ao (iJ (k:=106) (first:=[.agg #[lv,aj,aN,bv,aK,aX,ae,aU,bE,cz,b1,.int .i64 t.J.length,s1,.int .i64 t.J.length,s2,.int .i64 t.J.length,cy,.int .i64 t.J.length,dq,.int .i64 t.J.length,dd,.int .i64 t.J.length,ep,.int .i64 t.J.length,dP,.int .i64 t.J.length,ff,.int .i64 t.J.length,fy]]) (cap:=[]) (a7:=λI hw=>ag4 cz b1 c s1 s2 cy dq dd ep dP ff fy I (h.now hw) (ai.now hw) (hw.now rq) (hw.now AE) (hw.now AF) fk jQ j4 j5 k4 mc lN me mG aY) (ab:=?_));rintro v bx a6 rfl cA;refine bg (λh3=>?_) λh3=>?_
  ·rw[amk]at h3;refine bl λI hw=>?_;unfold ml;rw[h3,anM];rfl
  rw[amm]at h3;refine aa ?_;exact bt 2 ⟨by omega,λ_=>r2 (by omega),λ_=>h3⟩ (by omega) (hA:=c7)
 obtain rfl:i=2:=by rw[ar]at h2;omega
 refine bl λI hw=>?_;unfold ml;rw[r2 (by omega),EE (by omega)];rfl
theorem QO{lv aj aN bv aK aX ae aU bE:Value}{t:a1}(cz b1:Value)(c:cv)(w:World)(h:ha an w lv aj aN bv aK aX ae aU bE t)(ai:jW an w cz b1 c)(bp:lg w)(aY:¬fc t c=0): bj prog 42 [.agg #[lv,aj,aN,bv,aK,aX,ae,aU,bE],.agg #[cz,b1]] w λ_ v _=>v=.tuple #[.agg #[U,U,U,U,U,U,U,U,U,U,U,.int .i64 0,U,.int .i64 0,U,.int .i64 0,U,.int .i64 0,U,.int .i64 0,U,.int .i64 0,U,.int .i64 0,U,.int .i64 0,U,.int .i64 0,U],.int .i64 (fc t c)]:=by
 have k2:=ai.br.aG;have mE:=ai.oM;refine ca func42 ntmps42 ?_;refine ck λjA=>?_;refine ck λkZ=>?_;refine cU λcO=>?_;refine ao (bw (λI hw=>xG cz b1 c I (h.now hw) (ai.now hw)) ?_);rintro v bx a6 rfl cA;refine bg (λh1=>?_) λh1=>?_
 ·refine aa ?_;refine bQ 0 ?_;refine bP rfl (.dz rfl aL rfl (.t1 rfl)) λI hw=>?_;rfl
 rw[amm,aq]at h1;exact absurd h1 aY
theorem QP{lv aj aN bv aK aX ae aU bE:Value}{t:a1}(cz b1:Value)(c:cv)(w:World)(h:ha an w lv aj aN bv aK aX ae aU bE t)(ai:jW an w cz b1 c)(bp:lg w)(aY:fc t c=0): eH prog 42 [.agg #[lv,aj,aN,bv,aK,aX,ae,aU,bE],.agg #[cz,b1]] w λ_ v es _=>∃s1 s2 cy dq dd ep dP ff fy,(aD s1/\aD s2/\aD cy/\aD dq/\aD dd/\aD ep/\aD dP/\aD ff/\aD fy)/\v=.tuple #[.agg #[lv,aj,aN,bv,aK,aX,ae,aU,bE,cz,b1,.int .i64 t.J.length,s1,.int .i64 t.J.length,s2,.int .i64 t.J.length,cy,.int .i64 t.J.length,dq,.int .i64 t.J.length,dd,.int .i64 t.J.length,ep,.int .i64 t.J.length,dP,.int .i64 t.J.length,ff,.int .i64 t.J.length,fy],.int .i64 0]/\es=[et s1 (bT t.J.length (dK t)),et s2 (bT t.J.length (sj t)),et cy (bT t.J.length (iR t c)),et dq (bT t.J.length (ke t (iR t c))),et dd (bT t.J.length (hX t c)),et ep (bT t.J.length (ke t (hX t c))),et dP (bT t.J.length (jD t c)),et ff (bT t.J.length (ke t (jD t c))),et fy (bT t.J.length (qq t c))]:=by
 have k2:=ai.br.aG;have mE:=ai.oM;have g1:=h.bb.aG;have g2:=h.init.aG;have g3:=h.J.aG;have g4:=h.bars.aG;have g5:=h.addr.aG;have g6:=h.data.aG;have g7:=h.ba.aG;have g8:=h.cw.aG;have g9:=h.ends.aG;refine iY func42 ntmps42 ?_;refine ck λjA=>?_;refine ck λkZ=>?_;refine cU λcO=>?_;refine ao (bw (λI hw=>xG cz b1 c I (h.now hw) (ai.now hw)) ?_);rintro v bx a6 rfl cA;refine bg (λh1=>?_) λh1=>?_
 ·rw[amk,ar]at h1;exact absurd aY h1
 refine aa ?_;refine ao (gr (λI hw=>LX cz b1 c I (h.now hw) (ai.now hw) (bp.now hw)) ?_);rintro v cp es bX ⟨s1,s2,cy,dq,dd,ep,dP,ff,fy,⟨fk,jQ,j4,j5,k4,mc,lN,me,mG⟩,rfl,rfl⟩;rw[LY aY,aY];refine aa ?_;refine cU λeb=>?_;refine bQ 0 ?_;refine bQ 10 ?_;refine eR rfl (.dz rfl Fy rfl (.t1 rfl)) [_,_,_,_,_,_,_,_,_] [1,2,3,4,5,6,7,8,9] λI hw=>?_;exact⟨s1,s2,cy,dq,dd,ep,dP,ff,fy,⟨fk,jQ,j4,j5,k4,mc,lN,me,mG⟩,rfl,rfl⟩
theorem ag0{lv aj aN bv aK aX ae aU bE:Value}{t:a1}(cz b1:Value)(c:cv)(w:World)(h:ha an w lv aj aN bv aK aX ae aU bE t)(ai:jW an w cz b1 c)(bp:lg w): bj prog 13 [.agg #[lv,aj,aN,bv,aK,aX,ae,aU,bE],.agg #[cz,b1]] w λ_ v _=>v=.tuple #[.bool (ml t c),.int .i64 (fc t c)]:=by
 have k2:=ai.br.aG;have mE:=ai.oM;have g1:=h.bb.aG;have g2:=h.init.aG;have g3:=h.J.aG;have g4:=h.bars.aG;have g5:=h.addr.aG;have g6:=h.data.aG;have g7:=h.ba.aG;have g8:=h.cw.aG;have g9:=h.ends.aG;refine ca func13 ntmps13 ?_;refine ck λjA=>?_;refine ck λkZ=>?_;by_cases aY:fc t c=0
 ·refine ao (gr (λI hw=>QP cz b1 c I (h.now hw) (ai.now hw) (bp.now hw) aY) ?_);rintro v bx es a6 ⟨s1,s2,cy,dq,dd,ep,dP,ff,fy,⟨fk,jQ,j4,j5,k4,mc,lN,me,mG⟩,rfl,rfl⟩;refine aa ?_;refine cU λcS=>?_;refine bQ 0 ?_;refine bA (λh1=>?_) λh1=>?_
  ·rw[amk,ar]at h1;exact absurd rfl h1
  clear h1;refine aa ?_;refine ao (bw (λI hw=>TZ cz b1 c s1 s2 cy dq dd ep dP ff fy I (h.now hw) (ai.now hw) (hw.ed) (hw.ed) (hw.ed) fk jQ j4 j5 k4 mc lN me mG aY (bp.now hw)) ?_);rintro v cp bX rfl fq;refine aa ?_;refine bP rfl (.tmp rfl (.t1 rfl)) λI hw=>?_;rw[aY];rfl
 refine ao (bw (λI hw=>QO cz b1 c I (h.now hw) (ai.now hw) (bp.now hw) aY) ?_);rintro v bx a6 rfl cA;refine aa ?_;refine cU λcS=>?_;refine bQ 0 ?_;refine bA (λh1=>?_) λh1=>?_
 ·refine aa ?_;refine bP rfl (.tmp rfl (.t1 rfl)) λI hw=>?_;unfold ml;rw[Nu aY];rfl
 rw[amm,aq]at h1;exact absurd h1 aY
def AZ(t:a1)(c:cv):Int:=if fc t c=0 then if ml t c=true then 0 else 181 else fc t c
def A0(t:a1)(c:cv):List Int:=if ml t c=true then vL t.J.length (bT t.J.length (nx t c))else []
theorem ahf{lv aj aN bv aK aX ae aU bE:Value}{t:a1}(cz b1:Value)(c:cv)(w:World)(h:ha an w lv aj aN bv aK aX ae aU bE t)(ai:jW an w cz b1 c)(bp:lg w): eH prog 44 [.agg #[lv,aj,aN,bv,aK,aX,ae,aU,bE],.agg #[cz,b1]] w (Dx (A0 t c) (AZ t c)):=by
 have k2:=ai.br.aG;have mE:=ai.oM;have g1:=h.bb.aG;have g2:=h.init.aG;have g3:=h.J.aG;have g4:=h.bars.aG;have g5:=h.addr.aG;have g6:=h.data.aG;have g7:=h.ba.aG;have g8:=h.cw.aG;have g9:=h.ends.aG;refine iY func44 ntmps44 ?_;refine ck λjA=>?_;refine ck λkZ=>?_;by_cases aY:fc t c=0
 ·refine ao (gr (λI hw=>QP cz b1 c I (h.now hw) (ai.now hw) (bp.now hw) aY) ?_);rintro v bx es a6 ⟨s1,s2,cy,dq,dd,ep,dP,ff,fy,⟨fk,jQ,j4,j5,k4,mc,lN,me,mG⟩,rfl,rfl⟩;refine aa ?_;refine cU λcS=>?_;refine bQ 0 ?_;refine bA (λh1=>?_) λh1=>?_
  ·rw[amk,ar]at h1;exact absurd rfl h1
  clear h1;refine aa ?_;refine ao (bw (λI hw=>TZ cz b1 c s1 s2 cy dq dd ep dP ff fy I (h.now hw) (ai.now hw) (hw.ed) (hw.ed) (hw.ed) fk jQ j4 j5 k4 mc lN me mG aY (bp.now hw)) ?_);rintro v cp bX rfl fq;refine bg (λh2=>?_) λh2=>?_
  ·rw[amk]at h2;refine aa ?_;refine dZ 3 1 bd ?_;refine eR rfl (.tmp rfl (.t1 rfl)) [_] [0] λI hw=>?_;unfold AZ A0;rw[amo aY,amn (by rw[h2];simp),amn (by rw[h2];simp)];exact⟨_,kL,rfl,rfl⟩
  rw[amm]at h2;have dT:mq t (nx t c)=true:=by unfold ml at h2;rw[ami]at h2;exact h2.2
  have hb:=(lD (l5 aY).1).1;have aB:=(JP hb dT).1;refine aa ?_;refine ao (gr (λI hw=>TT cz b1 c s1 s2 cy dq dd ep dP ff fy I (h.now hw) (ai.now hw) (hw.ed) (hw.ed) (hw.ed) fk jQ j4 j5 k4 mc lN me mG aY) ?_);rintro v hD es gb ⟨rv,w5,rfl,rfl⟩;refine aa ?_;refine ao (gr (λI hw=>Qx t.J.length rv (bT t.J.length (nx t c)) I (hw.ed)) ?_);rintro v jI es jJ ⟨iQ,yi,rfl,rfl⟩;rw[aB];refine aa ?_;refine eR rfl (.tmp rfl (.t1 rfl)) [_] [0] λI hw=>?_;unfold AZ A0;rw[amo aY,amo h2,amo h2];exact⟨iQ,yi,rfl,rfl⟩
 refine ao (bw (λI hw=>QO cz b1 c I (h.now hw) (ai.now hw) (bp.now hw) aY) ?_);rintro v bx a6 rfl cA;refine aa ?_;refine cU λcS=>?_;refine bQ 0 ?_;refine bA (λh1=>?_) λh1=>?_
 ·refine aa ?_;refine dZ 3 1 bd ?_;refine eR rfl (.tmp rfl (.t1 rfl)) [_] [0] λI hw=>?_;unfold AZ A0;rw[amn aY,amn (by unfold ml;rw[Nu aY];simp)];exact⟨_,kL,rfl,rfl⟩
 rw[amm,aq]at h1;exact absurd h1 aY
end Go.Proofs.bK
