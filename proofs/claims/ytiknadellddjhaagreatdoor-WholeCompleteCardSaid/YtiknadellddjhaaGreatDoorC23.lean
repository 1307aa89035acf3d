/- Lemmas for the law WholeComplete. -/
import Derived.Test.YtiknadellddjhaaGreatDoorC19
set_option linter.all false
open Go.Proofs.Tryz
set_option maxHeartbeats 3200000
open Go Go.b9 Go.bM
namespace Go.b9
open Go Go.RowKit
section
variable {P:Program} {N:Nat} {tm:dY} {bs:List dm} {H:List aB} {c:Bool} {Q:Exit->Act->World->Prop} {K:Act->World->Prop}
theorem Yc(a:Addr)(sz l h len cap i o:Nat)(ai:cap≠l):gT (gU sz l h (.slice (some a) len cap)) sz i o=gT (.slice (some a) len cap) sz (l+i) o:=by
 have e:gU sz l h (.slice (some a) len cap)=.slice (some (a.add (l* sz))) (h-l) (cap-l):=by show Value.slice (if cap=l then some a else(some a).map (·.add (l* sz))) (h-l) (cap-l)=_;rw[aot ai];rfl
 rw[e];simp only[gT,Wl,aqi];try rw[Nat.add_assoc]
theorem Th{aX:Type}{enc:aX->List Value}{sz t tt e l h:Nat}{v:Value}{xs:List aX}{x:Operand}[aJ:fD P t e] (hx:bt tm c x (gU sz l h v)) (hm:aB.own v tt sz enc xs∈H):bW P N (.call {callee:=.builtin .len,args:=#[x],argTypes:=#[t]}) tm (Mem bs H) c (.int .i64 ((h-l:Nat):Int)):=by unfold bW;intro ai a w _ _ _ _ _ cy hw;obtain⟨dJ,cap,ax,_⟩:=sF (hw.own _ hm);subst ax;exact EI (hx.get cy ai) L0
theorem Bh{aX:Type}{enc:aX->List Value}{sz t tt e b l h:Nat}{z v:Value}{k:IntKind}{n:Int}{xs:List aX}{x y:Operand}[aJ:fD P t e][cF:dn P e sz b z] (hx:bt tm c x (gU sz l h v)) (aY:bt tm c y (.int k n)) (hm:aB.own v tt sz enc xs∈H) (hb:c=true->0<=n/\n.toNat+l<h/\h<=xs.length):bW P N (.indexAddr t x y) tm (Mem bs H) c (.pointer (some (gT v sz (l+n.toNat) 0))):=by
 unfold bW;intro ai a w _ _ _ _ _ cy hw;simp only[execOp,hx.get cy ai,aY.get cy ai];obtain⟨dJ,cap,ax,fQ,IW,_⟩:=sF (hw.own _ hm);have pa:=hb ai;subst ax;obtain⟨A,rfl⟩:=apf.1 (fQ (by omega));rw[<-Yc A sz l h xs.length cap n.toNat 0 (by omega)];refine hX ?_;have e:gU sz l h (.slice (some A) xs.length cap)=.slice (some (A.add (l* sz))) (h-l) (cap-l):=by show Value.slice (if cap=l then some A else(some A).map (·.add (l* sz))) (h-l) (cap-l)=_;rw[aot (by omega)];rfl
 rw[e];exact LZ ⟨pa.1,by omega⟩ rfl
theorem Pz{aX:Type}[Inhabited aX]{enc:aX->List Value}{dec:List Value->aX}{t e sz b k l:Nat}{z v:Value}{x:Operand}{xs:List aX}[aJ:fD P t e][cF:dn P e sz b z][jo P e enc dec][he:eg enc sz] (hx:bt tm true x (gU sz l xs.length v)) (hk:H[k]?=some (.own v e sz enc xs)) (a1:enc (dec z.cells.toList)=z.cells.toList) (h1:qx z.cells.toList) (aL:l<=xs.length) (ab:cR N K tm (Mem bs (H.set k (.own v e sz enc (xs.take l++List.replicate (xs.length-l) (dec z.cells.toList)))))):gz P N (.call {callee:=.builtin .clear,args:=#[x],argTypes:=#[t]}) none Q tm (Mem bs H) K:=by
 unfold gz cR at *;intro a w ty pos cV g aj hw;unfold Oper.wp;obtain⟨i,hi,mF,pb,rB⟩:=cF.h;have pM:z.cells.size=sz:=by have:=he.len (dec z.cells.toList);rw[a1]at this;simpa using this
 have pd:=hw.own _ (aoM hk);by_cases iy:l=xs.length
 ·have qF:xs.take l++List.replicate (xs.length-l) (dec z.cells.toList)=xs:=by rw[iy,aoZ,ap0];simp
  rw[qF]at ab
  obtain⟨dJ,cap,ax,_⟩:=sF pd;have aM:(execOp a.eval ⟨none,.call {callee:=.builtin .clear,args:=#[x],argTypes:=#[t]},ty,pos,cV,g⟩).run P w=.ok (.value (.tuple #[])) w:=by
   have e:gU sz l xs.length v=.slice (if cap=l then dJ else dJ.map (·.add (l* sz))) 0 (cap-l):=by rw[ax,iy];show Value.slice _ (xs.length-xs.length) _=_;rw[ap0]
   have:=hx.get aj rfl;rw[e]at this;generalize(if cap=l then dJ else dJ.map (·.add (l* sz)))=q at this;cases q<;>simp[execOp,resolve,invoke,builtin,this,Builtin.clear_,run_underlying aJ.h]
  rw[aM];refine ab a w aj ?_
  rw[show H.set k (.own v e sz enc xs)=H from aqm λj=>by
   rw[aqV];by_cases gr:k=j
   ·subst gr;have eW:k<H.length:=by
     rcases ao6 k H.length with q | q
     ·exact q
     rw[aoV q]at hk;cases hk
    rw[aou rfl,aou eW,hk]
   rw[aot gr]]
  exact hw
 obtain⟨v8,⟨_,h0⟩ | ⟨nD,cap,cur,ax,_,eC,qa,sg,ej,gj⟩⟩:=pd
 ·omega
 subst ax;have hm:xs.length-l≠0:=by omega
 have PU:(Builtin.zeroCells z.cells (xs.length-l)).toList=(List.replicate (xs.length-l) (dec z.cells.toList)).flatMap enc:=by rw[flatMap_replicate,a1];exact RN z.cells (by rw[pM];exact he.pos) _
 have uQ:((List.replicate (xs.length-l) (dec z.cells.toList)).flatMap enc).length=(xs.length-l)* sz:=by rw[n2,aoX]
 have hmul:l* sz+(xs.length-l)* sz=xs.length* sz:=by rw[<-aqi];congr 1;omega
 have xw:xs.length* sz<=cap* sz:=apo _ qa;have cS:=run_storeCells_at P nD (l* sz) e ((List.replicate (xs.length-l) (dec z.cells.toList)).flatMap enc) 0 cur w eC (by rw[uQ];omega) (λu hu=>by obtain⟨y,aY,hu⟩:=api.1 hu;rw[aqs aY,a1]at hu;exact KZ h1 u hu)
 simp only[Nat.add_zero]at cS;have aM:(execOp a.eval ⟨none,.call {callee:=.builtin .clear,args:=#[x],argTypes:=#[t]},ty,pos,cV,g⟩).run P w=.ok (.value (.tuple #[])) (w.setRow nD (lay cur.toList (l* sz) ((List.replicate (xs.length-l) (dec z.cells.toList)).flatMap enc)).toArray):=by
  obtain⟨m,hm⟩:∃m,xs.length-l=m+1:=⟨xs.length-l-1,by omega⟩;have ti:(Addr.add ⟨nD,0,none⟩ (l* sz))=⟨nD,l* sz,none⟩:=by
   unfold Addr.add;split
   ·rename_i h0;rw[h0]
   simp
  have e:gU sz l xs.length (.slice (some ⟨nD,0,none⟩) xs.length cap)=.slice (some ⟨nD,l* sz,none⟩) (m+1) (cap-l):=by show Value.slice (if cap=l then _ else _) (xs.length-l) (cap-l)=_;rw[aot (by omega),aqF,ti,hm]
  have AM:=hx.get aj rfl;rw[e]at AM;rw[hm]at PU cS;rw[hm];simp[execOp,resolve,invoke,builtin,AM,Builtin.clear_,run_underlying aJ.h,zeroValue,typeInfo,hi,rB,PU,cS,lay]
 rw[aM];have Jk:(lay cur.toList (l* sz) ((List.replicate (xs.length-l) (dec z.cells.toList)).flatMap enc)).length=cur.size:=by rw[Rn (by rw[uQ];simp;omega)];simp
 refine ab a _ aj (hw.q9 hk rfl rfl rfl (by simp) (λk _ hk=>setRow_other w nD k _ λe=>hk (by simp[aB.cN,Value.ownBlock,e])) ?_ (λk fk=>?_) λk hk=>.inl (by simpa[aB.cN]using hk))
 ·have AD:(xs.take l++List.replicate (xs.length-l) (dec z.cells.toList)).length=xs.length:=by rw[aoy,ao3,aoX];omega
  refine⟨by rw[n2],.inr ⟨nD,cap,_,by rw[AD],aoD _,setRow_heap w nD _ _ e _ eC,by rw[AD];exact qa,sg,by simpa[Jk]using ej,?_⟩⟩;rw[AD,apc,<-Iq xs l aL,<-gj,List.take_take,aqS (by omega)];unfold lay;refine List.take_left' ?_;rw[aoy,ao3,uQ,aqE,aqS (by omega),hmul]
 have:=hw.fC _ (aoM hk) k (by simpa[aB.cN]using fk);simpa using this
end
end Go.b9
attribute [local irreducible] Go.wpList Go.Code.wp Go.bodyPost Go.Exit.then Go.Exit.inBlock Go.Calls
namespace Go.bM
section
variable {aX:Type} [Inhabited aX] [DecidableEq aX]
def jW(xs:List aX)(j:Nat):Bool:=decide (j=0)||!decide (xs.getD j default=xs.getD (j-1) default)
def qE(xs:List aX)(i:Nat):List aX:=((List.range i).filter (jW xs)).map λj=>xs.getD j default
def l5(xs:List aX):List aX:=qE xs xs.length
theorem yi(xs:List aX)(i:Nat):qE xs (i+1)=qE xs i++if jW xs i then [xs.getD i default]else []:=by
 unfold qE;rw[ape,apl,apm];by_cases h:jW xs i=true
 ·simp[h]
 simp[h]
theorem yh(xs:List aX):∀(i:Nat),i<=xs.length->(∀j,j<i->jW xs j=true)->qE xs i=xs.take i
 | 0,_,_=>by simp[qE]
 | i+1,hi,h=>by rw[yi,yh xs i (by omega) λj ae=>h j (by omega),aou (h i (by omega)),apn,getD_some (by omega)];rfl
theorem XP(xs:List aX)(i:Nat):(qE xs i).length<=i:=by unfold qE;rw[aoJ];exact ao5 (apr _ _) (by simp)
end
def jv(x:BitVec 64):List Value:=[u64 x,u64 0#64,u64 0#64,u64 0#64]
theorem WZ(x:BitVec 64)(i:Nat)(hi:i<64):bw (x>>>i&&& 1#64=1#64)=x.getLsbD i:=by
 rw[cd,aoR,aop];constructor
 ·intro h;have:=aoI (λz=>z.getLsbD 0) h;simpa using this
 intro h;apply aqb;intro j ae;rw[aqc,ap5];by_cases e:j=0
 ·subst e;simp[h]
 simp[e]
end Go.bM
namespace Go.Proofs.bA
theorem ahP(x:BitVec 64)(i:Nat)(hi:i<64)(w:World):bl prog 152 [.agg (jv x).toArray,.int .i64 i] w λ_ v _=>v=.agg (jv (x||| 1#64<<<i)).toArray:=by
 have ba:i / 64=0:=by omega
 have aM:i % 64=i:=by omega
 refine bZ func152 ntmps152 ?_;refine b7 λbs=>?_;refine cH λaU=>?_;refine dh (om (zp 64 i (b3 rfl) (b3 rfl) (λ_=>by omega) (by omega)) (by rw[ba])) (v:=.int .i64 ((0:Nat):Int)) (ab:=U ?_);refine dh (oT (n:=0) (b3 rfl) (b3 rfl) λ_=>by decide) (ab:=U ?_);refine dh (om (zq 64 i (b3 rfl) (b3 rfl) λ_=>by omega) (by rw[aM])) (v:=.int .i64 (i:Int)) (ab:=U ?_);refine dh (oT (n:=0) (b3 rfl) (b3 rfl) λ_=>by decide) (ab:=U ?_);refine bN 1 ?_;refine bN 0 ?_;refine bT rfl (.c1 rfl aP rfl) λI hw=>?_;have e:(BitVec.ofInt 64 (i:Int)).toNat=i:=by rw[aqv,BitVec.toNat_ofNat];exact aqt (by omega)
 rw[e];rfl
def aed(x y:BitVec 64)(k:Nat):List Value:=[u64 (if 0<k then x||| y else x),u64 0#64,u64 0#64,u64 0#64]
theorem DL(x y:BitVec 64)(w:World):bl prog 154 [.agg (jv x).toArray,.agg (jv y).toArray] w λ_ v _=>v=.agg (jv (x||| y)).toArray:=by
 refine bZ func154 ntmps154 ?_;refine b7 λdT=>?_;refine b7 λdf=>?_;refine cH λaU=>?_;refine bX (λk:Nat=>k<=4) (λk=>[(6,true,.int .i64 k),(4,true,av aU),(3,true,av df),(2,true,av dT)]) (λk=>Mem [(w,al)] [.box aU [u64 0#64,u64 0#64,u64 0#64,u64 0#64] 83,.box df (jv y) 83,.box dT (aed x y k) 83]) (λk=>4-k) 0 (by omega) ?_
 intro k hk;refine a8 (λh1=>?_) λh1=>?_
 ·have bU:k<4:=by rw[an]at h1;omega
  obtain rfl | rfl | rfl | rfl:k=0\/k=1\/k=2\/k=3:=by omega
  ·refine U ?_;refine cz [0,1,2,3,4,5,6,7,8] mixed ?_;refine aN ?_;refine jA (h:=oT (len:=4) (n:=0) (b3 rfl) (b3 rfl) λ_=>by decide) (ab:=?_);refine aN ?_;refine jA (h:=oT (len:=4) (n:=0) (b3 rfl) (b3 rfl) λ_=>by decide) (ab:=?_);refine aN ?_;refine jA (h:=oT (len:=4) (n:=0) (b3 rfl) (b3 rfl) λ_=>by decide) (ab:=?_);refine aN ?_;refine gw (h:=bK 2 (ab:=U ?_));exact bm (0+1) (by omega) (by omega)
  ·refine U ?_;refine cz [0,1,2,3,4,5,6,7,8] mixed ?_;refine aN ?_;refine jA (h:=oT (len:=4) (n:=1) (b3 rfl) (b3 rfl) λ_=>by decide) (ab:=?_);refine aN ?_;refine jA (h:=oT (len:=4) (n:=1) (b3 rfl) (b3 rfl) λ_=>by decide) (ab:=?_);refine aN ?_;refine jA (h:=oT (len:=4) (n:=1) (b3 rfl) (b3 rfl) λ_=>by decide) (ab:=?_);refine aN ?_;refine gw (h:=bK 2 (ab:=U ?_));exact bm (1+1) (by omega) (by omega)
  ·refine U ?_;refine cz [0,1,2,3,4,5,6,7,8] mixed ?_;refine aN ?_;refine jA (h:=oT (len:=4) (n:=2) (b3 rfl) (b3 rfl) λ_=>by decide) (ab:=?_);refine aN ?_;refine jA (h:=oT (len:=4) (n:=2) (b3 rfl) (b3 rfl) λ_=>by decide) (ab:=?_);refine aN ?_;refine jA (h:=oT (len:=4) (n:=2) (b3 rfl) (b3 rfl) λ_=>by decide) (ab:=?_);refine aN ?_;refine gw (h:=bK 2 (ab:=U ?_));exact bm (2+1) (by omega) (by omega)
  refine U ?_;refine cz [0,1,2,3,4,5,6,7,8] mixed ?_;refine aN ?_;refine jA (h:=oT (len:=4) (n:=3) (b3 rfl) (b3 rfl) λ_=>by decide) (ab:=?_);refine aN ?_;refine jA (h:=oT (len:=4) (n:=3) (b3 rfl) (b3 rfl) λ_=>by decide) (ab:=?_);refine aN ?_;refine jA (h:=oT (len:=4) (n:=3) (b3 rfl) (b3 rfl) λ_=>by decide) (ab:=?_);refine aN ?_;refine gw (h:=bK 2 (ab:=U ?_));exact bm (3+1) (by omega) (by omega)
 have bU:k=4:=by rw[au]at h1;omega
 subst bU;refine U ?_;refine bN 0 ?_;refine bT rfl (.c1 rfl aP rfl) λI hw=>?_;rfl
theorem arl(x:BitVec 64)(i:Nat):(((List.range (i+1)).filter λj=>x.getLsbD j).map λ(a:Nat)=>(a:Int))=(((List.range i).filter λj=>x.getLsbD j).map λ(a:Nat)=>(a:Int))++if x.getLsbD i then [(i:Int)]else []:=by rw[ape,apl,apm];cases h:x.getLsbD i<;>simp[h]
theorem art(x:BitVec 64):(((List.range 256).filter λj=>x.getLsbD j).map λ(a:Nat)=>(a:Int))=(my x).map λ(a:Nat)=>(a:Int):=by
 unfold my;congr 1;rw[show 256=64+192 from rfl,List.range_add,apl];have:(((List.range 192).map (64+·)).filter λj=>x.getLsbD j)=[]:=by rw[apU];intro a ay;obtain⟨b,_,rfl⟩:=ao9.1 ay;rw[BitVec.getLsbD_of_ge x (64+b) (by omega)];simp
 rw[this,aoH]
theorem ahO(x:BitVec 64)(w:World):bl prog 234 [.agg (jv x).toArray] w λm v I=>aZ (Fr m) I a7 1 v ((my x).map λ(a:Nat)=>(a:Int)):=by
 refine bZ func234 ntmps234 ?_;refine b7 λbs=>?_;refine ea 3 1 a7 ?_;refine bX (λs:Nat×Value=>s.1<=256/\aD s.2) (λs=>[(5,true,.int .i64 s.1),(3,true,s.2),(1,true,av bs)]) (λs=>Mem [(w,al)] [.own s.2 3 1 a7 (((List.range s.1).filter λj=>x.getLsbD j).map λ(a:Nat)=>(a:Int)),.box bs (jv x) 83]) (λs=>256-s.1) (0,aa) ⟨by decide,cU⟩ ?_
 rintro⟨i,v⟩ ⟨hi,ax⟩;dsimp only at hi ax⊢;have bH:(((List.range i).filter λj=>x.getLsbD j).map λ(a:Nat)=>(a:Int)).length<=256:=by rw[aoJ];exact ao5 (apr _ _) (by simpa using hi)
 refine a8 (λh1=>?_) λh1=>?_
 ·have bU:i<256:=by rw[an]at h1;omega
  refine U ?_;by_cases ba:i / 64=0
  ·have aM:i % 64=i:=by omega
   refine dh (om (zp 64 i (b3 rfl) (b3 rfl) (λ_=>by omega) (by omega)) (by rw[ba])) (v:=.int .i64 ((0:Nat):Int)) (ab:=U ?_);refine dh (oT (n:=0) (b3 rfl) (b3 rfl) λ_=>by decide) (ab:=U ?_);refine dh (om (zq 64 i (b3 rfl) (b3 rfl) λ_=>by omega) (by rw[aM])) (v:=.int .i64 (i:Int)) (ab:=U ?_);have e:(BitVec.ofInt 64 (i:Int)).toNat=i:=by rw[aqv,BitVec.toNat_ofNat];exact aqt (by omega)
   have hb:bw (x>>>(BitVec.ofInt 64 (i:Int)).toNat&&& 1#64=1#64)=x.getLsbD i:=by rw[e];exact WZ x i (by omega)
   refine bC (λh2=>?_) λh2=>?_
   ·have h2:=hb.symm.trans h2;refine U ?_;refine aq (eI (ab:=λv20 AJ=>U ?_));refine aq (e6 1 (hk:=rfl) (bH:=by simp at bH⊢;omega) (ab:=λv21 CW=>U ?_));refine bm (i+1,v21) ⟨by dsimp only;omega,CW⟩ (by dsimp only;omega) (hA:=λ_ h=>?_);have:=h.cC [1,2] (es:=[.own v21 3 1 a7 ((((List.range i).filter λj=>x.getLsbD j).map λ(a:Nat)=>(a:Int))++[(i:Int)]),.box bs (jv x) 83]) rfl (by decide);dsimp only;rw[arl,h2,aou rfl];exact this
   have h2:=hb.symm.trans h2;refine U ?_;refine bm (i+1,v) ⟨by dsimp only;omega,ax⟩ (by dsimp only;omega) (hA:=λ_ h=>?_);dsimp only;rw[arl,h2,aot (by simp),aoH];exact h
  have IS:x.getLsbD i=false:=BitVec.getLsbD_of_ge x i (by omega);obtain ba | ba | ba:i / 64=1\/i / 64=2\/i / 64=3:=by omega
  ·refine dh (om (zp 64 i (b3 rfl) (b3 rfl) (λ_=>by omega) (by omega)) (by rw[ba])) (v:=.int .i64 ((1:Nat):Int)) (ab:=U ?_);refine dh (oT (n:=1) (b3 rfl) (b3 rfl) λ_=>by decide) (ab:=U ?_);refine dh (zq 64 i (b3 rfl) (b3 rfl) λ_=>by omega) (ab:=U ?_);refine bC (λh2=>?_) λh2=>?_
   ·rw[an,BitVec.zero_ushiftRight,BitVec.zero_and]at h2;exact absurd h2 (by decide)
   refine U ?_;refine bm (i+1,v) ⟨by dsimp only;omega,ax⟩ (by dsimp only;omega) (hA:=λ_ h=>?_);dsimp only;rw[arl,IS,aot (by simp),aoH];exact h
  ·refine dh (om (zp 64 i (b3 rfl) (b3 rfl) (λ_=>by omega) (by omega)) (by rw[ba])) (v:=.int .i64 ((2:Nat):Int)) (ab:=U ?_);refine dh (oT (n:=2) (b3 rfl) (b3 rfl) λ_=>by decide) (ab:=U ?_);refine dh (zq 64 i (b3 rfl) (b3 rfl) λ_=>by omega) (ab:=U ?_);refine bC (λh2=>?_) λh2=>?_
   ·rw[an,BitVec.zero_ushiftRight,BitVec.zero_and]at h2;exact absurd h2 (by decide)
   refine U ?_;refine bm (i+1,v) ⟨by dsimp only;omega,ax⟩ (by dsimp only;omega) (hA:=λ_ h=>?_);dsimp only;rw[arl,IS,aot (by simp),aoH];exact h
  refine dh (om (zp 64 i (b3 rfl) (b3 rfl) (λ_=>by omega) (by omega)) (by rw[ba])) (v:=.int .i64 ((3:Nat):Int)) (ab:=U ?_);refine dh (oT (n:=3) (b3 rfl) (b3 rfl) λ_=>by decide) (ab:=U ?_);refine dh (zq 64 i (b3 rfl) (b3 rfl) λ_=>by omega) (ab:=U ?_);refine bC (λh2=>?_) λh2=>?_
  ·rw[an,BitVec.zero_ushiftRight,BitVec.zero_and]at h2;exact absurd h2 (by decide)
  refine U ?_;refine bm (i+1,v) ⟨by dsimp only;omega,ax⟩ (by dsimp only;omega) (hA:=λ_ h=>?_);dsimp only;rw[arl,IS,aot (by simp),aoH];exact h
 have bU:i=256:=by rw[au]at h1;omega
 subst bU;refine bf λI hw=>?_;rw[<-art];exact hw.im aP aP
end Go.Proofs.bA
namespace Go.bM
def hz:jZ->Int×Bool | .num n=>(n,true) | _=>(0,false)
def jL:jZ->ByteArray×Bool | .ks s=>(s,true) | _=>(ByteArray.empty,false)
theorem sC{a:jZ}(h:(hz a).2=true):a=.num (hz a).1:=by cases a<;>first | rfl | cases h
theorem Eh{a:jZ}(h:(jL a).2=true):a=.ks (jL a).1:=by cases a<;>first | rfl | cases h
def x0:jZ->Int×Bool | .told i=>((i:Int),true) | _=>(0,false)
end Go.bM
namespace Go.Proofs.bA
def iU:jZ->Value
 | .num n=>.iface 161 (.int .i64 n)
 | .ks s=>.iface 166 (.string s)
 | .told i=>.iface 176 (.int .i64 (i:Int))
 | .hid=>.iface 327 (.agg #[])
section
variable {N:Nat} {tm:dY} {A:World->Prop} {c:Bool}
theorem BB{sV:TypeId}{x:Operand}(a:jZ)(hx:bt tm c x (iU a)):bW prog N (.typeAssert x sV 161 true) tm A c (.tuple #[.int .i64 (hz a).1,.bool (hz a).2]):=by
 cases a
 ·exact sJ underlying161 rfl hx rfl
 ·exact sJ underlying161 rfl hx rfl
 ·exact sJ underlying161 rfl hx rfl
 exact sJ underlying161 rfl hx rfl
theorem Mo{sV:TypeId}{x:Operand}(a:jZ)(hx:bt tm c x (iU a)):bW prog N (.typeAssert x sV 166 true) tm A c (.tuple #[.string (jL a).1,.bool (jL a).2]):=by
 cases a
 ·exact sJ underlying166 rfl hx rfl
 ·exact sJ underlying166 rfl hx rfl
 ·exact sJ underlying166 rfl hx rfl
 exact sJ underlying166 rfl hx rfl
theorem aiD{sV:TypeId}{x:Operand}(a:jZ)(hx:bt tm c x (iU a)):bW prog N (.typeAssert x sV 176 true) tm A c (.tuple #[.int .i64 (x0 a).1,.bool (x0 a).2]):=by
 cases a
 ·exact sJ underlying176 rfl hx rfl
 ·exact sJ underlying176 rfl hx rfl
 ·exact sJ underlying176 rfl hx rfl
 exact sJ underlying176 rfl hx rfl
theorem wD{x:Operand}{n:Int}(hx:bt tm c x (.int .i64 n)):bW prog N (.makeInterface 161 x) tm A c (iU (.num n)):=GB (hu:=underlying161) (hd:=rfl) (hx:=hx)
theorem adF{x:Operand}{s:ByteArray}(hx:bt tm c x (.string s)):bW prog N (.makeInterface 166 x) tm A c (iU (.ks s)):=GB (hu:=underlying166) (hd:=rfl) (hx:=hx)
theorem adH{x:Operand}{i:Nat}(hx:bt tm c x (.int .i64 (i:Int))):bW prog N (.makeInterface 176 x) tm A c (iU (.told i)):=GB (hu:=underlying176) (hd:=rfl) (hx:=hx)
theorem adG{x:Operand}(hx:bt tm c x (.agg #[])):bW prog N (.makeInterface 327 x) tm A c (iU .hid):=GB (hu:=underlying327) (hd:=rfl) (hx:=hx)
end
theorem U2(op:Int)(a b:jZ)(w:World):bl prog 153 [.int .i64 op,iU a,iU b] w λ_ v _=>v=iU (pO op a b):=by
 refine bZ func153 ntmps153 ?_;refine dh (BB a (b3 rfl)) (ab:=U ?_);refine dh (BB b (b3 rfl)) (ab:=U ?_);refine bC (λh1=>?_) λh1=>?_
 ·rw[aoo,aoo,an]at h1;refine U ?_;refine dh (wM (n:=(hz a).1)) (ab:=U ?_);refine dh (wM (n:=(hz b).1)) (ab:=U ?_);refine dh (Tk (a:=o2 (hz a).1) (b:=o2 (hz b).1)) (ab:=U ?_);refine dh DB (ab:=U ?_);refine dh (wD (b3 rfl)) (ab:=U ?_);refine bT rfl (.t1 rfl) λI hw=>?_;rw[sC h1.1.1,sC h1.1.2];exact aoI (λn=>iU (.num n)) (by unfold pk;rw[aou h1.2];rfl)
 refine a8 (λh2=>?_) λh2=>?_
 ·rw[aoo,aoo,an]at h2;refine U ?_;refine dh (wM (n:=(hz a).1)) (ab:=U ?_);refine dh (wM (n:=(hz b).1)) (ab:=U ?_);refine dh (Tn (a:=o2 (hz a).1) (b:=o2 (hz b).1)) (ab:=U ?_);refine dh DB (ab:=U ?_);refine dh (wD (b3 rfl)) (ab:=U ?_);refine bT rfl (.t1 rfl) λI hw=>?_;rw[sC h2.1.1,sC h2.1.2];exact aoI (λn=>iU (.num n)) (by unfold pk;rw[aot (by rw[h2.2];decide),aou h2.2];rfl)
 refine a8 (λh3=>?_) λh3=>?_
 ·rw[aoo]at h3;refine U ?_;refine dh (wM (n:=(hz a).1)) (ab:=U ?_);refine dh (wM (n:=(hz b).1)) (ab:=U ?_);refine dh (Td (a:=o2 (hz a).1) (b:=o2 (hz b).1)) (ab:=U ?_);refine dh DB (ab:=U ?_);refine dh (wD (b3 rfl)) (ab:=U ?_);refine bT rfl (.t1 rfl) λI hw=>?_;rw[h3.1,h3.2]at h1 h2;have h1:¬op=8:=by have h1:=h1;rwa[aqx,apE,au]at h1
  have h2:¬op=9:=by have h2:=h2;rwa[aqx,apE,au]at h2
  rw[sC h3.1,sC h3.2];exact aoI (λn=>iU (.num n)) (by unfold pk;rw[aot h1,aot h2];rfl)
 refine a8 (λaA=>?_) λaA=>?_
 ·rw[aoo,an]at aA;have hb:(hz b).2=false:=by rw[aA.1,apE]at h3;exact h3
  refine bf λI hw=>?_;rw[sC aA.1,aA.2];cases b with
  | num y=>cases hb
  | _=>rfl
 refine a8 (λa6=>?_) λa6=>?_
 ·rw[aoo,an]at a6;have ay:(hz a).2=false:=by rw[a6.1,aqx]at h3;exact h3
  refine bf λI hw=>?_;rw[sC a6.1,a6.2];cases a with
  | num y=>cases ay
  | _=>rfl
 refine U ?_;refine dh (adG (b3 rfl)) (ab:=U ?_);refine bT rfl (.t1 rfl) λI hw=>?_;show iU .hid=iU (pO op a b);refine aoI iU ?_;have iB:∀n,a=.num n->¬n=0:=λn e q=>by subst e;rw[aoC,au]at aA;exact aA.elim (λz=>by cases z) λz=>z q
 have kp:∀n,b=.num n->¬n=0:=λn e q=>by subst e;rw[aoC,au]at a6;exact a6.elim (λz=>by cases z) λz=>z q
 cases a with
 | num x=>
  cases b with
  | num y=>cases h3
  | _=>exact(aot (iB x rfl)).symm
 | _=>
  cases b with
  | num y=>exact(aot (kp y rfl)).symm
  | _=>rfl
theorem ajf(a b:jZ)(w:World):bl prog 155 [iU a,iU b] w λ_ v _=>v=.bool (sR a b):=by
 refine bZ func155 ntmps155 ?_;refine dh (BB a (b3 rfl)) (ab:=U ?_);refine bC (λh1=>?_) λh1=>?_
 ·refine U ?_;refine dh (BB b (b3 rfl)) (ab:=U ?_);refine bT rfl (.t1 rfl) λI hw=>?_;rw[sC h1];refine aoI Value.bool ?_;cases b with
  | num y=>exact(by rw[cd];rfl)
  | _=>rfl
 refine U ?_;refine dh (Mo a (b3 rfl)) (ab:=U ?_);refine bC (λh2=>?_) λh2=>?_
 ·refine U ?_;refine dh (Mo b (b3 rfl)) (ab:=U ?_);refine bT rfl (.t1 rfl) λI hw=>?_;rw[Eh h2];refine aoI Value.bool ?_;cases b with
  | ks y=>exact(by rw[cd];rfl)
  | _=>rfl
 refine bf λI hw=>?_;cases a with
 | num y=>cases h1
 | ks y=>cases h2
 | _=>rfl
theorem Ss(n:Int)(w:World):bl prog 421 [.int .i64 n] w λ_ v _=>v=.bool false:=by refine bZ func421 ntmps421 ?_;exact bT rfl (.t1 rfl) λI hw=>rfl
theorem Sq(s:ByteArray)(w:World):bl prog 422 [.string s] w λ_ v _=>v=.bool false:=by refine bZ func422 ntmps422 ?_;exact bT rfl (.t1 rfl) λI hw=>rfl
theorem St(n:Int)(w:World):bl prog 423 [.int .i64 n] w λ_ v _=>v=.bool true:=by refine bZ func423 ntmps423 ?_;exact bT rfl (.t1 rfl) λI hw=>rfl
theorem Sr(w:World):bl prog 426 [.agg #[]] w λ_ v _=>v=.bool true:=by refine bZ func426 ntmps426 ?_;refine b7 λgn=>?_;exact bT rfl (.t1 rfl) λI hw=>rfl
end Go.Proofs.bA
