/- Lemmas for the law WholeSound. -/
import Derived.Test.YtiknadellddjhaaGreatDoorS25
set_option linter.all false
open Go.Proofs.Tryz
set_option maxHeartbeats 3200000
open Go Go.cc Go.bU
namespace Go.cc
theorem Mem.Hh{bs bs':List dr}{H:List aA}{w:World}(h:Mem bs H w)(ag:∀B,B∈bs'->B∈bs):Mem bs' H w:=⟨λC hC=>h.base C (ag C hC),h.own,h.fw,λC hC=>h.apart C (ag C hC),h.h9⟩
end Go.cc
namespace Go.bU
theorem HP{α β:Type}(f:α->List β)(b:Nat):∀(l:List α),(∀x,x∈l->(f x).length<=b)->(l.flatMap f).length<=l.length* b
 | [],_=>amz _
 | x::r,h=>by have h1:=HP f b r λy aR=>h y (.tail _ aR);have h2:=h x aL;rw[am0,ams,amI,Nat.succ_mul];omega
def Cs(x:l0):List ByteArray:=[x.loc,x.value.loc]
def sU(c:List Instr):List ByteArray:=c.map (·.loc)
theorem KM(t:aM):mM t=t.init.flatMap Cs++(t.code.flatMap sU++(fK t.dD t.node).map (·.loc)):=by unfold mM;rw[amJ];rfl
theorem Ss{t:aM}(h:ur t)(hi:t.init.length<=1024):(mM t).length<=8000:=by
 rw[KM,ams,ams,amD];have h1:=HP Cs 2 t.init λ_ _=>amK _;have h2:=HP sU 256 t.code λc ai=>by obtain⟨k,hk,rfl⟩:=o6 ai;unfold sU;rw[amD];exact h.2.2 k hk
 have h3:=yX t.dD t.node;have aC:=h.2.1;have:t.code.length* 256<=16* 256:=anh _ aC;omega
def xw(t:aM)(l ys:List ByteArray):Prop:=l.foldl qK ys=b2 t/\ys.length+l.length<=8000/\ys.Pairwise ql
theorem xw.step{t:aM}{s:ByteArray}{l ys:List ByteArray}(h:xw t (s::l) ys):xw t l (qK ys s):=⟨h.1,by have:=adx s ys;have:=h.2.1;rw[amI]at this;omega,Uc h.2.2⟩
theorem Np{l:List (List Instr)}{k:Nat}(h:k<l.length)(R:List ByteArray):(l.drop k).flatMap sU++R=(l.getD k default).map (·.loc)++((l.drop (k+1)).flatMap sU++R):=by rw[vc h,am0,amJ];rfl
theorem Hr{t:aM}(h:pW t=0):ur t:=by
 unfold pW at h;split at h
 ·cases h
 rename_i h1;split at h
 ·cases h
 rename_i h2;rw[anK,DG]at h2;exact⟨by omega,by omega,λk hk=>by have:=h2 k hk;rw[amu]at this;omega⟩
theorem Jz{t:aM}(h:vH t=0):t.init.length<=1024:=by
 unfold vH at h;split at h
 ·cases h
 omega
end Go.bU
namespace Go.Proofs.bK
attribute [local irreducible] wpList Code.wp bodyPost Exit.then Exit.inBlock Calls
theorem G0.next{m n:Nat}{H:List aA}{qS a6:World}{v dL:Value}{ys zs:List ByteArray}{bs:List dr}(qC:G0 v ys zs n dL a6)(hm:Mem bs H a6)(hB:(qS,bB H)∈bs)(aw:aV (λk=>Fr m k/\bB H k) qS dV 1 v ys)(vu:∀k,n<=k->bB H k)(eh:m<=n):aV (λk=>Fr m k/\bB H k) a6 dV 1 dL zs:=by
 rcases qC with⟨rfl,e⟩ | h
 ·rw[e];exact(hm.xB hB λ_ h=>h.2).CK aw aL
 exact h.mono (ks.refl _ _) (λk _ hk=>⟨ani eh hk,vu k hk⟩) λx _=>ee.ne x
theorem FO{m:Nat}{H:List aA}{qS:World}{v:Value}{ys:List ByteArray}(aw:aV (λk=>Fr m k/\bB H k) qS dV 1 v ys):aV (bB H) qS dV 1 v ys:=aw.mono (ks.refl _ _) (λk _ hk=>hk.2) λx _=>ee.ne x
theorem N9(t:aM)(aj ae ak:Value)(vs:List Value)(w:World)(h:gz an w aj ae ak vs t)(eZ:ur t)(gB:t.init.length<=1024):bj prog 114 [.agg (cQ t aj ae ak).toArray] w λm v I=>aV (Fr m) I dV 1 v (b2 t):=by
 obtain⟨s1,s2,cy⟩:=h.iF;have eE:=h.mZ;have hM:=h.mx;have hle:=hM.le;have fi:=h.init;have HZ:=fi.le;have ri:=yX t.dD t.node;have eP:=Ss eZ gB;refine ca func114 ntmps114 ?_;refine ck λaT=>?_;refine b9 (λs:Nat×Value×List ByteArray×World=>s.1<=t.init.length/\aV (λk=>Fr w.heap.size k/\bB [.box aT (cQ t aj ae ak) 32] k) s.2.2.2 dV 1 s.2.1 s.2.2.1/\xw t ((t.init.drop s.1).flatMap Cs++(t.code.flatMap sU++(fK t.dD t.node).map (·.loc))) s.2.2.1) (λs=>[(4,true,.int .i64 s.1),(3,true,s.2.1),(1,true,ax aT)]) (λs=>Mem [(s.2.2.2,bB [.box aT (cQ t aj ae ak) 32]),(w,an)] [.box aT (cQ t aj ae ak) 32]) (λs=>t.init.length-s.1) (0,U,[],w) ⟨amz _,C8 _ _,by rw[aon,<-KM];exact⟨rfl,by simpa using eP,List.Pairwise.nil⟩⟩ ?_ ⟨rfl,rfl,rfl,trivial⟩ λ_ h=>h.xB aL dx
 rintro⟨i,v,ys,qS⟩ ⟨hi,aw,b8⟩;dsimp only at hi aw b8⊢;have jn:=aw.le;refine bg (λh1=>?_) λh1=>?_
 ·have cb:i<t.init.length:=by rw[aq]at h1;omega
  rw[vc cb]at b8;have xX:=b8.step;have X7:=xX.step;refine aa ?_;refine ao (zw (a7:=λI hw=>D7 v ys (t.init.getD i default).loc I (hw.now (FO aw) aL) b8.2.2 (by have:=b8.2.1;omega)) (ab:=?_));intro v1 bx a6 Cr tf BX Ce;have j6:=Cr.next tf aL aw BX (Ce _ ds);refine aa ?_;refine ao (zw (a7:=λI hw=>D7 v1 _ (t.init.getD i default).value.loc I (hw.now (FO j6) aL) xX.2.2 (by have:=xX.2.1;omega)) (ab:=?_));intro v2 cp bX aao B1 YG ZM;have iM:=aao.next B1 aL j6 YG (ZM _ gC);refine aa ?_;exact bt (i+1,v2,_,bX) ⟨by dsimp only;omega,iM,X7⟩ (by dsimp only;omega) (hA:=λ_ h=>h.qt.qt)
 have cb:i=t.init.length:=by rw[ar]at h1;omega
 rw[cb,anL,List.flatMap_nil,anf]at b8;refine aa ?_;refine b9 (λs:Nat×Value×List ByteArray×World=>s.1<=t.code.length/\aV (λk=>Fr w.heap.size k/\bB [.box aT (cQ t aj ae ak) 32] k) s.2.2.2 dV 1 s.2.1 s.2.2.1/\xw t ((t.code.drop s.1).flatMap sU++(fK t.dD t.node).map (·.loc)) s.2.2.1) (λs=>[(5,true,.int .i64 s.1),(3,true,s.2.1),(1,true,ax aT)]) (λs=>Mem [(s.2.2.2,bB [.box aT (cQ t aj ae ak) 32]),(w,an)] [.box aT (cQ t aj ae ak) 32]) (λs=>t.code.length-s.1) (0,v,ys,qS) ⟨amz _,aw,by rw[aon];exact b8⟩ ?_
 clear b8 aw jn;rintro⟨k,v,ys,qS⟩ ⟨hk,aw,b8⟩;dsimp only at hk aw b8⊢;have jn:=aw.le;refine bg (λh2=>?_) λh2=>?_
 ·have bF:k<t.code.length:=by rw[aq]at h2;omega
  have q9:=h.code k (by omega);have r5:=q9.le;rw[Np bF]at b8;refine aa ?_;refine b9 (λs:Nat×Value×List ByteArray×World=>s.1<=(t.code.getD k default).length/\aV (λk=>Fr w.heap.size k/\bB [.box aT (cQ t aj ae ak) 32] k) s.2.2.2 dV 1 s.2.1 s.2.2.1/\xw t (((t.code.getD k default).drop s.1).map (·.loc)++((t.code.drop (k+1)).flatMap sU++(fK t.dD t.node).map (·.loc))) s.2.2.1) (λs=>[(6,true,.int .i64 s.1),(5,true,.int .i64 k),(3,true,s.2.1),(1,true,ax aT)]) (λs=>Mem [(s.2.2.2,bB [.box aT (cQ t aj ae ak) 32]),(w,an)] [.box aT (cQ t aj ae ak) 32]) (λs=>(t.code.getD k default).length-s.1) (0,v,ys,qS) ⟨amz _,aw,by rw[aon];exact b8⟩ ?_
  clear b8 aw jn;rintro⟨i,v,ys,qS⟩ ⟨hi,aw,b8⟩;dsimp only at hi aw b8⊢;have jn:=aw.le;refine bg (λh3=>?_) λh3=>?_
  ·have dw:i<(t.code.getD k default).length:=by rw[aq]at h3;omega
   rw[vc dw,am8,aoI]at b8;have xX:=b8.step;refine aa ?_;refine ao (zw (a7:=λI hw=>D7 v ys ((t.code.getD k default).getD i default).loc I (hw.now (FO aw) aL) b8.2.2 (by have:=b8.2.1;omega)) (ab:=?_));intro v1 bx a6 Cr tf BX Ce;have j6:=Cr.next tf aL aw BX (Ce _ ds);refine aa ?_;exact bt (i+1,v1,_,a6) ⟨by dsimp only;omega,j6,xX⟩ (by dsimp only;omega) (hA:=λ_ h=>h.qt)
  have dw:i=(t.code.getD k default).length:=by rw[ar]at h3;omega
  rw[dw,anL,List.map_nil,anf]at b8;refine aa ?_;exact bt (k+1,v,ys,qS) ⟨by dsimp only;omega,aw,b8⟩ (by dsimp only;omega)
 have bF:k=t.code.length:=by rw[ar]at h2;omega
 rw[bF,anL,List.flatMap_nil,anf]at b8;refine aa ?_;refine ao (bw (λI hw=>KH t.dD t.node ak I (h.now hw).node) ?_);rintro _ cp bX ⟨aU,rfl,bp⟩ fq;have xZ:=bp.le;refine aa ?_;refine b9 (λs:Nat×Value×List ByteArray×World=>s.1<=(fK t.dD t.node).length/\aV (λk=>Fr w.heap.size k/\bB [.box aT (cQ t aj ae ak) 32] k) s.2.2.2 dV 1 s.2.1 s.2.2.1/\xw t (((fK t.dD t.node).drop s.1).map (·.loc)) s.2.2.1) (λs=>[(9,true,.int .i64 s.1),(7,true,aU),(3,true,s.2.1),(1,true,ax aT)]) (λs=>Mem [(bX,Fr cp),(s.2.2.2,bB [.box aT (cQ t aj ae ak) 32]),(w,an)] [.box aT (cQ t aj ae ak) 32]) (λs=>(fK t.dD t.node).length-s.1) (0,v,ys,qS) ⟨amz _,aw,by rw[aon];exact b8⟩ ?_
 clear b8 aw jn;rintro⟨i,v,ys,qS⟩ ⟨hi,aw,b8⟩;dsimp only at hi aw b8⊢;have jn:=aw.le;refine bg (λh3=>?_) λh3=>?_
 ·have dw:i<(fK t.dD t.node).length:=by rw[aq]at h3;omega
  rw[vc dw,am8]at b8;have xX:=b8.step;refine aa ?_;refine ao (zw (a7:=λI hw=>D7 v ys ((fK t.dD t.node).getD i default).loc I (hw.now (FO aw) ds) b8.2.2 (by have:=b8.2.1;omega)) (ab:=?_));intro v1 bx a6 Cr tf BX Ce;have j6:=Cr.next tf ds aw BX (Ce _ gC);refine aa ?_;exact bt (i+1,v1,_,a6) ⟨by dsimp only;omega,j6,xX⟩ (by dsimp only;omega) ⟨rfl,rfl,rfl,rfl,trivial⟩ (λ_ h=>h.Hh λB hB=>by simp only[amG,aoH,or_false]at hB⊢;rcases hB with rfl | rfl | rfl<;>simp)
 have dw:i=(fK t.dD t.node).length:=by rw[ar]at h3;omega
 rw[dw,anL,List.map_nil]at b8;refine bl λI hw=>?_;rw[<-b8.1];exact(((hw.xB ds λ_ h=>h.2).CK aw aL)).mono (ks.refl _ _) (λk _ hk=>hk.1) λx _=>ee.ne x
theorem N8(t:aM)(aj ae ak:Value)(vs:List Value)(w:World)(h:gz an w aj ae ak vs t):bj prog 45 [.agg (cQ t aj ae ak).toArray] w λ_ v _=>v=.int .i64 (pL t):=by
 obtain⟨s1,s2,cy⟩:=h.iF;refine ca func45 ntmps45 ?_;refine ck λaT=>?_;refine ao (bw (λI hw=>adB t.az I) ?_);rintro v bx a6 rfl cA;refine aa ?_;unfold pL;refine bA (λh1=>?_) λh1=>?_
 ·rw[amk,amu]at h1;refine bl λI hw=>?_;rw[amn h1];rfl
 rw[amm,amj]at h1;rw[amo h1];refine aa ?_;refine ao (bw (λI hw=>adA t.name I) ?_);rintro v cp bX rfl fq;refine aa ?_;refine fm (h:=eY (a7:=λ_ I hw=>Xi t.nF I)) (ab:=aa ?_);refine bA (λh2=>?_) λh2=>?_
 ·have bF:(qN t.name&&pX t.nF)=false:=Hm h2;refine bl λI hw=>?_;rw[bF];rfl
 have bF:(qN t.name&&pX t.nF)=true:=Hl h2;rw[amo bF];refine aa ?_;refine ao (bw (λI hw=>Xh t aj ae ak vs I (h.now hw) h1) ?_);rintro v hD gb rfl nj;refine bg (λh3=>?_) λh3=>?_
 ·rw[amk,ar]at h3;refine bl λI hw=>?_;unfold kS;rw[amn h3];rfl
 rw[amm,aq]at h3;unfold kS;rw[amo h3];refine aa ?_;refine ao (bw (λI hw=>Xj t aj ae ak vs I (h.now hw) h1) ?_);rintro v jI jJ rfl zQ;refine bg (λaC=>?_) λaC=>?_
 ·rw[amk,ar]at aC;refine bl λI hw=>?_;unfold kS;rw[amn aC];rfl
 rw[amm,aq]at aC;unfold kS;rw[amo aC];refine aa ?_;refine ao (bw (λI hw=>Xg t aj ae ak vs I (h.now hw)) ?_);rintro v pG pO rfl EP;refine bg (λaW=>?_) λaW=>?_
 ·rw[amk,ar]at aW;refine bl λI hw=>?_;unfold kS;rw[amn aW];rfl
 rw[amm,aq]at aW;unfold kS;rw[amo aW];refine aa ?_;refine ao (bw (λI hw=>N9 t aj ae ak vs I (h.now hw) (Hr h3) (Jz aC)) ?_);rintro v n6 tG c6 B4;have zx:=c6.le;refine bg (λcM=>?_) λcM=>?_
 ·rw[aq]at cM;refine bl λI hw=>?_;rw[amo (by omega)];rfl
 rw[ar]at cM;refine bl λI hw=>?_;rw[amn (by omega)];rfl
end Go.Proofs.bK
namespace Go.cc
open Go Go.RowKit
section
variable {P:Program} {N:Nat} {tm:dU} {bs:List dr} {H:List aA} {c:Bool} {Q:Exit->Act->World->Prop} {K:Act->World->Prop}
theorem W1(a:Addr)(sz l h len cap i o:Nat)(ai:cap≠l):gI (gU sz l h (.slice (some a) len cap)) sz i o=gI (.slice (some a) len cap) sz (l+i) o:=by
 have e:gU sz l h (.slice (some a) len cap)=.slice (some (a.add (l* sz))) (h-l) (cap-l):=by show Value.slice (if cap=l then some a else(some a).map (·.add (l* sz))) (h-l) (cap-l)=_;rw[amn ai];rfl
 rw[e];simp only[gI,Vr,aob];try rw[Nat.add_assoc]
theorem Sj{aQ:Type}{enc:aQ->List Value}{sz t tt e l h:Nat}{v:Value}{xs:List aQ}{x:Operand}[aE:fz P t e] (hx:bo tm c x (gU sz l h v)) (hm:aA.own v tt sz enc xs∈H):bR P N (.call {callee:=.builtin .len,args:=#[x],argTypes:=#[t]}) tm (Mem bs H) c (.int .i64 ((h-l:Nat):Int)):=by unfold bR;intro ai a w _ _ _ _ _ cn hw;obtain⟨dI,cap,aw,_⟩:=si (hw.own _ hm);subst aw;exact D5 (hx.get cn ai) Ld
theorem Az{aQ:Type}{enc:aQ->List Value}{sz t tt e b l h:Nat}{z v:Value}{k:IntKind}{n:Int}{xs:List aQ}{x y:Operand}[aE:fz P t e][cP:dh P e sz b z] (hx:bo tm c x (gU sz l h v)) (aR:bo tm c y (.int k n)) (hm:aA.own v tt sz enc xs∈H) (hb:c=true->0<=n/\n.toNat+l<h/\h<=xs.length):bR P N (.indexAddr t x y) tm (Mem bs H) c (.pointer (some (gI v sz (l+n.toNat) 0))):=by
 unfold bR;intro ai a w _ _ _ _ _ cn hw;simp only[execOp,hx.get cn ai,aR.get cn ai];obtain⟨dI,cap,aw,fR,Ik,_⟩:=si (hw.own _ hm);have oU:=hb ai;subst aw;obtain⟨A,rfl⟩:=am7.1 (fR (by omega));rw[<-W1 A sz l h xs.length cap n.toNat 0 (by omega)];refine hG ?_;have e:gU sz l h (.slice (some A) xs.length cap)=.slice (some (A.add (l* sz))) (h-l) (cap-l):=by show Value.slice (if cap=l then some A else(some A).map (·.add (l* sz))) (h-l) (cap-l)=_;rw[amn (by omega)];rfl
 rw[e];exact Lc ⟨oU.1,by omega⟩ rfl
theorem OC{aQ:Type}[Inhabited aQ]{enc:aQ->List Value}{dec:List Value->aQ}{t e sz b k l:Nat}{z v:Value}{x:Operand}{xs:List aQ}[aE:fz P t e][cP:dh P e sz b z][jw P e enc dec][he:ee enc sz] (hx:bo tm true x (gU sz l xs.length v)) (hk:H[k]?=some (.own v e sz enc xs)) (aY:enc (dec z.cells.toList)=z.cells.toList) (h1:pS z.cells.toList) (aB:l<=xs.length) (ab:cL N K tm (Mem bs (H.set k (.own v e sz enc (xs.take l++List.replicate (xs.length-l) (dec z.cells.toList)))))):gq P N (.call {callee:=.builtin .clear,args:=#[x],argTypes:=#[t]}) none Q tm (Mem bs H) K:=by
 unfold gq cL at *;intro a w ty pos cR g ag hw;unfold Oper.wp;obtain⟨i,hi,ma,oV,re⟩:=cP.h;have pD:z.cells.size=sz:=by have:=he.len (dec z.cells.toList);rw[aY]at this;simpa using this
 have oY:=hw.own _ (amF hk);by_cases ja:l=xs.length
 ·have qu:xs.take l++List.replicate (xs.length-l) (dec z.cells.toList)=xs:=by rw[ja,amU,aoS];simp
  rw[qu]at ab
  obtain⟨dI,cap,aw,_⟩:=si oY;have aH:(execOp a.eval ⟨none,.call {callee:=.builtin .clear,args:=#[x],argTypes:=#[t]},ty,pos,cR,g⟩).run P w=.ok (.value (.tuple #[])) w:=by
   have e:gU sz l xs.length v=.slice (if cap=l then dI else dI.map (·.add (l* sz))) 0 (cap-l):=by rw[aw,ja];show Value.slice _ (xs.length-xs.length) _=_;rw[aoS]
   have:=hx.get ag rfl;rw[e]at this;generalize(if cap=l then dI else dI.map (·.add (l* sz)))=q at this;cases q<;>simp[execOp,resolve,invoke,builtin,this,Builtin.clear_,run_underlying aE.h]
  rw[aH];refine ab a w ag ?_
  rw[show H.set k (.own v e sz enc xs)=H from aof λj=>by
   rw[aoC];by_cases gh:k=j
   ·subst gh;have eB:k<H.length:=by
     rcases amY k H.length with q | q
     ·exact q
     rw[amR q]at hk;cases hk
    rw[amo rfl,amo eB,hk]
   rw[amn gh]]
  exact hw
 obtain⟨rh,⟨_,h0⟩ | ⟨nd,cap,cur,aw,_,eO,p3,rW,eh,gu⟩⟩:=oY
 ·omega
 subst aw;have hm:xs.length-l≠0:=by omega
 have OZ:(Builtin.zeroCells z.cells (xs.length-l)).toList=(List.replicate (xs.length-l) (dec z.cells.toList)).flatMap enc:=by rw[flatMap_replicate,aY];exact QQ z.cells (by rw[pD];exact he.pos) _
 have uo:((List.replicate (xs.length-l) (dec z.cells.toList)).flatMap enc).length=(xs.length-l)* sz:=by rw[nJ,amS]
 have hmul:l* sz+(xs.length-l)* sz=xs.length* sz:=by rw[<-aob];congr 1;omega
 have Ey:xs.length* sz<=cap* sz:=anh _ p3;have c4:=run_storeCells_at P nd (l* sz) e ((List.replicate (xs.length-l) (dec z.cells.toList)).flatMap enc) 0 cur w eO (by rw[uo];omega) (λu hu=>by obtain⟨y,aR,hu⟩:=ana.1 hu;rw[List.eq_of_mem_replicate aR,aY]at hu;exact Kh h1 u hu)
 simp only[Nat.add_zero]at c4;have aH:(execOp a.eval ⟨none,.call {callee:=.builtin .clear,args:=#[x],argTypes:=#[t]},ty,pos,cR,g⟩).run P w=.ok (.value (.tuple #[])) (w.setRow nd (lay cur.toList (l* sz) ((List.replicate (xs.length-l) (dec z.cells.toList)).flatMap enc)).toArray):=by
  obtain⟨m,hm⟩:∃m,xs.length-l=m+1:=⟨xs.length-l-1,by omega⟩;have s0:(Addr.add ⟨nd,0,none⟩ (l* sz))=⟨nd,l* sz,none⟩:=by
   unfold Addr.add;split
   ·rename_i h0;rw[h0]
   simp
  have e:gU sz l xs.length (.slice (some ⟨nd,0,none⟩) xs.length cap)=.slice (some ⟨nd,l* sz,none⟩) (m+1) (cap-l):=by show Value.slice (if cap=l then _ else _) (xs.length-l) (cap-l)=_;rw[amn (by omega),aoq,s0,hm]
  have z1:=hx.get ag rfl;rw[e]at z1;rw[hm]at OZ c4;rw[hm];simp[execOp,resolve,invoke,builtin,z1,Builtin.clear_,run_underlying aE.h,zeroValue,typeInfo,hi,re,OZ,c4,lay]
 rw[aH];have II:(lay cur.toList (l* sz) ((List.replicate (xs.length-l) (dec z.cells.toList)).flatMap enc)).length=cur.size:=by rw[Qo (by rw[uo];simp;omega)];simp
 refine ab a _ ag (hw.rC hk rfl rfl rfl (by simp) (λk _ hk=>setRow_other w nd k _ λe=>hk (by simp[aA.cX,Value.ownBlock,e])) ?_ (λk fe=>?_) λk hk=>.inl (by simpa[aA.cX]using hk))
 ·have zP:(xs.take l++List.replicate (xs.length-l) (dec z.cells.toList)).length=xs.length:=by rw[ams,amX,amS];omega
  refine⟨by rw[nJ],.inr ⟨nd,cap,_,by rw[zP],amz _,setRow_heap w nd _ _ e _ eO,by rw[zP];exact p3,rW,by simpa[II]using eh,?_⟩⟩;rw[zP,am4,<-HN xs l aB,<-gu,List.take_take,aoA (by omega)];unfold lay;refine List.take_left' ?_;rw[ams,amX,uo,aop,aoA (by omega),hmul]
 have:=hw.fw _ (amF hk) k (by simpa[aA.cX]using fe);simpa using this
end
end Go.cc
namespace Go.bU
section
variable {aQ:Type} [Inhabited aQ] [DecidableEq aQ]
def jH(xs:List aQ)(j:Nat):Bool:=decide (j=0)||!decide (xs.getD j default=xs.getD (j-1) default)
def qs(xs:List aQ)(i:Nat):List aQ:=((List.range i).filter (jH xs)).map λj=>xs.getD j default
def lJ(xs:List aQ):List aQ:=qs xs xs.length
theorem xJ(xs:List aQ)(i:Nat):qs xs (i+1)=qs xs i++if jH xs i then [xs.getD i default]else []:=by
 unfold qs;rw[am6,anc,ane];by_cases h:jH xs i=true
 ·simp[h]
 simp[h]
theorem xI(xs:List aQ):∀(i:Nat),i<=xs.length->(∀j,j<i->jH xs j=true)->qs xs i=xs.take i
 | 0,_,_=>by simp[qs]
 | i+1,hi,h=>by rw[xJ,xI xs i (by omega) λj ad=>h j (by omega),amo (h i (by omega)),ang,getD_some (by omega)];rfl
theorem WB(xs:List aQ)(i:Nat):(qs xs i).length<=i:=by unfold qs;rw[amD];exact ani (anj _ _) (by simp)
end
end Go.bU
