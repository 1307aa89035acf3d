/- Lemmas for the law WholeSound. -/
import Derived.Test.YtiknadellddjhaaGreatDoorS29
import Derived.Test.YtiknadellddjhaaGreatDoorS30
set_option linter.all false
open Go.Proofs.Tryz
set_option maxHeartbeats 6400000
open Go Go.cc Go.bU
namespace Go.cc
open Go Go.RowKit
section
variable {P:Program} {N:Nat} {tm:dU} {A:World->Prop} {c:Bool}
theorem aeM{aQ:Type}{S:Nat->Prop}{B:World}{enc:aQ->List Value}{sz t e b:Nat}{z v:Value}{mK mL:IntKind}{l h:Nat}{xs:List aQ}{x y UJ:Operand}[aE:fz P t e][cP:dh P e sz b z] (hx:bo tm c x v) (aR:bo tm c y (.int mK (l:Int))) (Ju:bo tm c UJ (.int mL (h:Int))) (ag:aV S B enc sz v xs) (hb:l<=h/\h<=xs.length):bR P N (.slice t x (some y) (some UJ) none) tm A c (gU sz l h v):=by unfold bR;intro ai a w _ _ _ _ _ cn hw;simp only[execOp,hx.get cn ai,aR.get cn ai,Ju.get cn ai,Option.map];obtain⟨dI,m',cap,rfl,rfl,h1,h2,h3⟩:=ag.is;refine hG ?_;exact afq hb.1 (by omega)
end
end Go.cc
attribute [local irreducible] Go.wpList Go.Code.wp Go.bodyPost Go.Exit.then Go.Exit.inBlock Go.Calls
namespace Go.Proofs.bK
def ob(s:b6)(i:Instr):b6:={s with ba:=s.ba||| (bJ s i.a).on||| (bJ s i.b).on}
def UW(aO:Nat)(t:aM)(aj ae ak:Value)(bu:Int)(lv:Value)(ahead:Nat)(q:jL)(s:b6)(code:List Instr)(k cN:Nat):Nat->Value->List aA->World->Prop:=λ_ r es _=>es=cG aO t aj ae ak bu lv ahead q (ob s (code.getD k default)) false/\∃(lS:Int) (ok:Bool),r=.tuple #[.int .i64 lS,.bool ok]/\ (if(bJ s (code.getD k default).a).has.ot||(bJ s (code.getD k default).b).has.ot then ok=uq code (k+1) cN/\(ok=true->lS=(k:Int)+1)else ok=true/\lS=if sv (bJ s (code.getD k default).a).has (bJ s (code.getD k default).b).has then(cN:Int)else(k:Int)+1)
theorem JJ{code:List Instr}{k l:Nat}(aB:l<=code.length):uq code k l=true↔∀j,j<l-k->(code.getD (k+j) default).op=12:=by
 unfold uq;rw[G9];have bG:((code.take l).drop k).length=l-k:=by rw[anD,amX];omega
 rw[bG];refine forall_congr' λj=>forall_congr' λad=>?_;rw[amj,aml,anP,anO,amo (by omega),aml]
theorem ahi(aO:Nat)(t:aM)(aj ae ak:Value)(bu:Int)(lv:Value)(ahead:Nat)(q:jL)(s:b6)(tP:Value)(code:List Instr)(k cN:Nat)(w:World)(aZ:q.ok)(hk:k<code.length)(eE:code.length<=256)(oW:k6 code (code.getD k default).label (k+1)=some cN)(au:0<=(code.getD k default).a/\(code.getD k default).a<s.ah.length)(hb:0<=(code.getD k default).b/\(code.getD k default).b<s.ah.length) (hC:aV (bB (cG aO t aj ae ak bu lv ahead q s false)) w cC 8 tP code) (hw:Mem [] (cG aO t aj ae ak bu lv ahead q s false) w): eM prog 76 [ax aO,tP,.int .i64 (k:Int)] (cG aO t aj ae ak bu lv ahead q s false) w (UW aO t aj ae ak bu lv ahead q s code k cN):=by
 obtain⟨cq,bn,e8,ih,j9,nW⟩:=aZ;obtain⟨uf,r4,EM,Y4⟩:=vK.1 oW;have fC:=hC.aG;have eP:(s.ah.map c8).length=s.ah.length:=amD _;have og:(s.ah.map c8).getD (code.getD k default).a.toNat default=c8 (bJ s (code.getD k default).a):=wb (by omega);have ic:(s.ah.map c8).getD (code.getD k default).b.toNat default=c8 (bJ s (code.getD k default).b):=wb (by omega);refine s4 func76 ntmps76 rfl rfl hw ?_;refine cJ (Mem [(w,bB (cG aO t aj ae ak bu lv ahead q s false))] [.box aO (gE t aj ae ak bu lv ⟨q.aJ,q.aN,q.bv,q.aK,q.aX,q.aw⟩ s.ba ahead false) 85,.own q.aJ 165 5 eX ((s.ah).map c8),.own q.aN 138 6 ec (s.J),.own q.bv 140 3 fE (s.bars),.own q.aK 178 2 bz (s.addr),.own q.aX 178 2 bz (s.data),.own q.aw 178 2 bz (s.dB)]) (λ_ h=>h) (af ?_);refine dH λbi=>?_;refine c0 0 ?_;refine b9 (λl:Nat=>k+1<=l/\l<=cN) (λl=>[(9,true,.int .i64 l),(8,true,ax bi),(2,true,.int .i64 (k:Int)),(1,true,tP),(0,true,ax aO)]) (λ_=>Mem [(w,bB (cG aO t aj ae ak bu lv ahead q s false))] [.box bi (cC (code.getD k default)) 169,.box aO (gE t aj ae ak bu lv ⟨q.aJ,q.aN,q.bv,q.aK,q.aX,q.aw⟩ s.ba ahead false) 85,.own q.aJ 165 5 eX ((s.ah).map c8),.own q.aN 138 6 ec (s.J),.own q.bv 140 3 fE (s.bars),.own q.aK 178 2 bz (s.addr),.own q.aX 178 2 bz (s.data),.own q.aw 178 2 bz (s.dB)]) (λl=>cN-l) (k+1) ⟨amK _,uf⟩ ?_
 rintro l ⟨r5,ja⟩;have oX:l<code.length:=by omega
 refine af ?_;refine cV [0,1,2,3,4,5,6,7,8,9,10,11,12,13,14,15] mixed ?_;refine bI ?_;refine di (λh1=>?_) λh1=>?_
 ·have dn:l<cN:=by
   rcases amY l cN with q | q
   ·exact q
   exfalso;obtain rfl:l=cN:=by omega
   unfold j8 at EM;rw[ami,amj,amj]at EM;rw[amr,amk,amk,ar,ar]at h1;exact h1.elim (λz=>z EM.1) λz=>z EM.2
  refine af ?_;exact bt (l+1) ⟨by omega,by omega⟩ (by omega)
 have hle:l=cN:=by
  rcases amY l cN with q | q
  ·exfalso;have:=Y4 l r5 q;unfold j8 at this;rw[amt,amm,amm,aq,aq]at h1;rw[amq h1.1,amq h1.2]at this;cases this
  omega
 subst hle;refine af ?_;refine h7 (λ_:Nat×Nat=>True) (λz=>[(11,true,.pointer (some ⟨z.2,0,none⟩)),(10,true,.pointer (some ⟨z.1,0,none⟩)),(9,true,.int .i64 (l:Int)),(2,true,.int .i64 (k:Int)),(1,true,tP),(0,true,ax aO)]) (λz=>Mem [(w,bB (cG aO t aj ae ak bu lv ahead q s false))] [.box aO (gE t aj ae ak bu lv ⟨q.aJ,q.aN,q.bv,q.aK,q.aX,q.aw⟩ s.ba ahead false) 85,.own q.aJ 165 5 eX ((s.ah).map c8),.own q.aN 138 6 ec (s.J),.own q.bv 140 3 fE (s.bars),.own q.aK 178 2 bz (s.addr),.own q.aX 178 2 bz (s.data),.own q.aw 178 2 bz (s.dB),.box z.2 (eX (c8 (bJ s (code.getD k default).b))) 165,.box z.1 (eX (c8 (bJ s (code.getD k default).a))) 165]) ?_ ?_
 ·refine cV [0,1,2,3,4,5,6,7,8,9,10,11,12,13,14,15,999] mixed ?_;refine bI ?_;rw[og,ic];refine nn 16 17 ?_ ?_
  ·refine cB [999] _ (h:=ft ?_);intro dS;refine aF ?_ iG;refine eo 17 ?_;refine cB [18,19] _ (h:=ft ?_);intro dc;refine aF ?_ λ_ h=>h.tail.tail;refine bL _ (h:=bD 1 (h1:=.cons (qv _) (.cons rfl (.cons rfl (.cons rfl (.cons rfl .nil))))) (ab:=?_));refine aF ?_ (bV [2,3,4,5,6,7,8,9]);refine hz (h:=bD 0 (h1:=.cons (qv _) (.cons rfl (.cons rfl (.cons rfl (.cons rfl .nil))))) (ab:=?_));exact bZ (dS,dc) trivial (hA:=bV [3,4,5,6,7,8,9,0,1])
  refine cB [999] _ (h:=ft ?_);intro dc;refine aF ?_ iG;refine eo 16 ?_;refine cB [18,19] _ (h:=ft ?_);intro dS;refine aF ?_ λ_ h=>h.tail.tail;refine bL _ (h:=bD 0 (h1:=.cons (qv _) (.cons rfl (.cons rfl (.cons rfl (.cons rfl .nil))))) (ab:=?_));refine aF ?_ (bV [2,3,4,5,6,7,8,9]);refine hz (h:=bD 1 (h1:=.cons (qv _) (.cons rfl (.cons rfl (.cons rfl (.cons rfl .nil))))) (ab:=?_));exact bZ (dS,dc) trivial (hA:=bV [3,4,5,6,7,8,9,1,0])
 rintro⟨dS,dc⟩ _;dsimp only;refine af ?_;refine fs (Mem [(w,bB (cG aO t aj ae ak bu lv ahead q s false))] [.box aO (gE t aj ae ak bu lv ⟨q.aJ,q.aN,q.bv,q.aK,q.aX,q.aw⟩ s.ba ahead false) 85,.box dc (eX (c8 (bJ s (code.getD k default).b))) 165,.box dS (eX (c8 (bJ s (code.getD k default).a))) 165]) [0,1,2,3,4,5,6,8,9,7,10,11,12,13] mixed (bV [0,7,8]) ?_;refine bI ?_;refine bL _ (h:=bw (λI hw=>C6 s.ba (bJ s (code.getD k default).a).on I) ?_);rintro v bx a6 rfl cA;refine aF (aP ?_) (bM [0,7,8]);refine bL _ (h:=bw (λI hw=>C6 (s.ba||| (bJ s (code.getD k default).a).on) (bJ s (code.getD k default).b).on I) ?_);rintro v cp bX rfl fq;refine aF (aP ?_) (bM [0,7,8]);refine eG (λ_=>True) (h:=tY rfl tA ?_);refine aF (aP ?_) dx;refine bL _ (h:=bD 0 (ab:=?_));refine aF (aP ?_) dx;refine cJ (Mem [(w,bB (cG aO t aj ae ak bu lv ahead q s false))] [.box aO (gE t aj ae ak bu lv ⟨q.aJ,q.aN,q.bv,q.aK,q.aX,q.aw⟩ (s.ba||| (bJ s (code.getD k default).a).on||| (bJ s (code.getD k default).b).on) ahead false) 85,.own q.aJ 165 5 eX ((s.ah).map c8),.own q.aN 138 6 ec (s.J),.own q.bv 140 3 fE (s.bars),.own q.aK 178 2 bz (s.addr),.own q.aX 178 2 bz (s.data),.own q.aw 178 2 bz (s.dB),.box dc (eX (c8 (bJ s (code.getD k default).b))) 165,.box dS (eX (c8 (bJ s (code.getD k default).a))) 165]) c7 (af ?_);refine ao (XI (bJ s (code.getD k default).a).has (bY rfl) rfl ?_);refine af ?_;refine fm (h:=XP (bJ s (code.getD k default).b).has ⟨_,rfl,λh=>h⟩) (ab:=af ?_);refine bA (λh2=>?_) λh2=>?_
 ·refine af ?_;refine dg (aeM (l:=k+1) (h:=l) (xs:=code) (enc:=cC) (bY rfl) (bY rfl) (bY rfl) hC ⟨by omega,by omega⟩) (ab:=?_);have ct:=hC.sub (k+1) l (by omega) (by omega);have ajg:((code.take l).drop (k+1)).length=l-(k+1):=by rw[anD,amX];omega
  refine af ?_;refine b9 (λj:Nat=>j<=l-(k+1)/\∀p,p<j->(code.getD (k+1+p) default).op=12) (λj=>[(81,true,.int .i64 j),(80,true,.int .i64 ((code.take l).drop (k+1)).length),(79,true,gU 8 (k+1) l tP),(2,true,.int .i64 (k:Int))]) (λ_=>Mem [(w,bB (cG aO t aj ae ak bu lv ahead q s false))] [.box aO (gE t aj ae ak bu lv ⟨q.aJ,q.aN,q.bv,q.aK,q.aX,q.aw⟩ (s.ba||| (bJ s (code.getD k default).a).on||| (bJ s (code.getD k default).b).on) ahead false) 85,.own q.aJ 165 5 eX ((s.ah).map c8),.own q.aN 138 6 ec (s.J),.own q.bv 140 3 fE (s.bars),.own q.aK 178 2 bz (s.addr),.own q.aX 178 2 bz (s.data),.own q.aw 178 2 bz (s.dB)]) (λj=>l-j) 0 ⟨amz _,λp hp=>by omega⟩ ?_ ⟨rfl,rfl,rfl,rfl,trivial⟩ (bV [0,1,2,3,4,5,6])
  rintro j ⟨ad,bS⟩;refine di (λh3=>?_) λh3=>?_
  ·have dw:j<((code.take l).drop (k+1)).length:=by rw[aq]at h3;omega
   have ay:((code.take l).drop (k+1)).getD j default=code.getD (k+1+j) default:=by rw[aml,anP,anO,amo (by omega),aml]
   refine af ?_;refine dH λhc=>?_;refine c0 0 ?_;refine bA (λaC=>?_) λaC=>?_
   ·rw[amk,ar]at aC;have aC:¬(((code.take l).drop (k+1)).getD j default).op=12:=aC;rw[ay]at aC;refine af ?_;refine ez rfl (.tmp rfl (.t1 rfl)) (cG aO t aj ae ak bu lv ahead q (ob s (code.getD k default)) false) [1,2,3,4,5,6,7] λI hw=>⟨rfl,0,false,rfl,?_⟩;rw[amo h2];refine⟨?_,λz=>by cases z⟩;cases aY:uq code (k+1) l with
    | false=>rfl
    | true=>exact absurd ((JJ (by omega)).1 aY j (by omega)) aC
   rw[amm,aq]at aC;have aC:(((code.take l).drop (k+1)).getD j default).op=12:=aC;rw[ay]at aC;refine af ?_;exact bt (j+1) ⟨by omega,λp hp=>by
    by_cases e:p<j
    ·exact bS p e
    rw[show p=j by omega];exact aC⟩ (by omega) ⟨rfl,rfl,rfl,rfl,trivial⟩ (bV [1,2,3,4,5,6,7])
  have dw:j=l-(k+1):=by rw[ar]at h3;omega
  refine af ?_;refine ez rfl (.tmp rfl (.t1 rfl)) (cG aO t aj ae ak bu lv ahead q (ob s (code.getD k default)) false) [0,1,2,3,4,5,6] λI hw=>⟨rfl,(k:Int)+1,true,rfl,?_⟩;rw[amo h2];exact⟨((JJ (by omega)).2 λp hp=>bS p (by omega)).symm,λ_=>rfl⟩
 refine af ?_;refine ao (bw (λI hw=>ahs (bJ s (code.getD k default).a).has (bJ s (code.getD k default).b).has I) ?_);rintro v hD gb rfl nj;refine di (λaW=>?_) λaW=>?_
 ·refine af ?_;refine ez rfl (.tmp rfl (.t1 rfl)) (cG aO t aj ae ak bu lv ahead q (ob s (code.getD k default)) false) [0,1,2,3,4,5,6] λI hw=>⟨rfl,(l:Int),true,rfl,?_⟩;rw[amn (by rw[h2];simp),amo aW];exact⟨rfl,rfl⟩
 refine af ?_;refine ez rfl (.tmp rfl (.t1 rfl)) (cG aO t aj ae ak bu lv ahead q (ob s (code.getD k default)) false) [0,1,2,3,4,5,6] λI hw=>⟨rfl,(k:Int)+1,true,rfl,?_⟩;rw[amn (by rw[h2];simp),amn (by rw[aW];simp)];exact⟨rfl,rfl⟩
theorem RW(i:Nat):hS 0#64 i=[]:=by unfold hS l4;rw[show(List.range 64).filter (λi=>(0#64:BitVec 64).getLsbD i)=[]from by simp];rfl
section
variable {cx:fa} {s:b6} {k:Nat} {loc:ByteArray} {on:BitVec 64}
theorem GO{x:eD}(h:(hn x.has).2=false):kr cx s k loc on x=.hg:=by unfold kr;cases hx:x.has<;>rw[hx]at h<;>first | (cases h;done) | rfl
theorem GP{x:eD}(h:(hn x.has).2=true)(fH:64<=cx.ahead+s.J.length):kr cx s k loc on x=.full:=by unfold kr rU;rw[sg h];dsimp only;rw[amq fH,amo rfl]
theorem GQ{x:eD}(h:(hn x.has).2=true)(fH:¬64<=cx.ahead+s.J.length):kr cx s k loc on x=.go (yZ cx.bb cx.aI s (k:Int) loc on (hn x.has).1 x.on) (k+1):=by unfold kr rU;rw[sg h];dsimp only;rw[amy fH,amn (by simp)];rfl
theorem KS{d:Int}(fH:64<=cx.ahead+s.J.length):lT cx s k loc on d=.full:=by unfold lT rU;rw[amq fH,amo rfl]
theorem KT{d:Int}(fH:¬64<=cx.ahead+s.J.length):lT cx s k loc on d=.go (yR cx.az cx.bb cx.aI s (k:Int) loc on d) (k+1):=by unfold lT rU;rw[amy fH,amn (by simp)];unfold rQ yR xP;rw[RW,amB]
end
section
variable {cx:fa} {db:b6}
theorem Sy(C:lG cx)(h0:gy cx db 0){s:b6}{k:Nat}(h:Rd cx db s k):∃n,cx.code.length<=n+k/\iE cx cx.code.length db 0=iE cx n s k:=by
 induction h with
 | zero=>exact⟨cx.code.length,by omega,rfl⟩
 | step aH hk ay bH=>
  obtain⟨n,h1,h2⟩:=bH;cases n with
  | zero=>omega
  | succ n=>
   have dn:=(wj C (aH.ok C h0) hk ay).1;refine⟨n,by omega,?_⟩;rw[h2];conv=>lhs;unfold iE
   rw[amo hk,ay]
theorem C3(C:lG cx)(h0:gy cx db 0){s:b6}{k:Nat}(h:Rd cx db s k)(hk:k<cx.code.length){r:oG}(ay:fJ cx s k=r)(aH:∀s k,r≠.go s k):iE cx cx.code.length db 0=r:=by
 obtain⟨n,h1,h2⟩:=Sy C h0 h;cases n with
 | zero=>omega
 | succ n=>
  rw[h2];unfold iE;rw[amo hk,ay];cases r with
  | go s k=>exact absurd rfl (aH s k)
  | _=>rfl
theorem SZ(C:lG cx)(h0:gy cx db 0){s:b6}{k:Nat}(h:Rd cx db s k)(hk:cx.code.length<=k):iE cx cx.code.length db 0=.go s k:=by
 obtain⟨n,h1,h2⟩:=Sy C h0 h;rw[h2];cases n with
 | zero=>rfl
 | succ n=>unfold iE;rw[amn (by omega)]
end
def Vg(cx:fa)(s:b6)(k:Nat)(z:jL×b6×Bool×Bool×Int):Prop:=
 z.1.ok/\((fJ cx s k=.hg/\z.2.2.2.1=false)\/(fJ cx s k=.full/\z.2.2.1=true/\z.2.2.2.1=true/\z.2.2.2.2=(k:Int)+1)\/ ∃ou:Nat,fJ cx s k=.go z.2.1 ou/\z.2.2.1=false/\z.2.2.2.1=true/\z.2.2.2.2=(ou:Int))
section
variable {cx:fa} {s:b6} {k:Nat}
theorem st1(h:(cx.code.getD k default).op=1):fJ cx s k=kr cx s k (cx.code.getD k default).loc 0#64 ⟨.num (cx.code.getD k default).cY,0#64⟩:=by unfold fJ;dsimp only;rw[amo h]
theorem st2(h:(cx.code.getD k default).op=2):fJ cx s k=kr cx s k (cx.code.getD k default).loc 0#64 (bJ s (cx.code.getD k default).a):=by unfold fJ;dsimp only;rw[amn (by omega),amo h]
theorem Gu(h:(cx.code.getD k default).op=3):fJ cx s k=lT cx s k (cx.code.getD k default).loc 0#64 (cx.code.getD k default).d:=by unfold fJ;dsimp only;rw[amn (by omega),amn (by omega),amo h]
theorem TF(h:(cx.code.getD k default).op=4):fJ cx s k=.go {s with ah:=gJ cx.az s.ah (cx.code.getD k default).d ⟨.num (cx.code.getD k default).cY,0#64⟩} (k+1):=by unfold fJ;dsimp only;rw[amn (by omega),amn (by omega),amn (by omega),amo h]
theorem TG(h:(cx.code.getD k default).op=5):fJ cx s k=.go {s with bars:=s.bars++[⟨cx.aI,(k:Int),1⟩]} (k+1):=by unfold fJ;dsimp only;rw[amn (by omega),amn (by omega),amn (by omega),amn (by omega),amo h]
theorem Lt(h:(cx.code.getD k default).op=6)(au:(jy (bJ s (cx.code.getD k default).a).has).2=true):fJ cx s k=lT cx s k (jy (bJ s (cx.code.getD k default).a).has).1 (bJ s (cx.code.getD k default).a).on (cx.code.getD k default).d:=by unfold fJ;dsimp only;rw[amn (by omega),amn (by omega),amn (by omega),amn (by omega),amn (by omega),amo h];cases hx:(bJ s (cx.code.getD k default).a).has<;>rw[hx]at au<;>first | (cases au;done) | rfl
theorem TH(h:(cx.code.getD k default).op=6)(au:(jy (bJ s (cx.code.getD k default).a).has).2=false):fJ cx s k=.hg:=by unfold fJ;dsimp only;rw[amn (by omega),amn (by omega),amn (by omega),amn (by omega),amn (by omega),amo h];cases hx:(bJ s (cx.code.getD k default).a).has<;>rw[hx]at au<;>first | (cases au;done) | rfl
theorem Gv(h:(cx.code.getD k default).op=7)(au:(jy (bJ s (cx.code.getD k default).a).has).2=true):fJ cx s k=kr cx s k (jy (bJ s (cx.code.getD k default).a).has).1 (bJ s (cx.code.getD k default).a).on (bJ s (cx.code.getD k default).b):=by unfold fJ;dsimp only;rw[amn (by omega),amn (by omega),amn (by omega),amn (by omega),amn (by omega),amn (by omega),amo h];cases hx:(bJ s (cx.code.getD k default).a).has<;>rw[hx]at au<;>first | (cases au;done) | rfl
theorem TI(h:(cx.code.getD k default).op=7)(au:(jy (bJ s (cx.code.getD k default).a).has).2=false):fJ cx s k=.hg:=by unfold fJ;dsimp only;rw[amn (by omega),amn (by omega),amn (by omega),amn (by omega),amn (by omega),amn (by omega),amo h];cases hx:(bJ s (cx.code.getD k default).a).has<;>rw[hx]at au<;>first | (cases au;done) | rfl
theorem C9(h:(cx.code.getD k default).op=8\/(cx.code.getD k default).op=9\/(cx.code.getD k default).op=10):fJ cx s k=.go {s with ah:=gJ cx.az s.ah (cx.code.getD k default).d (jt s (cx.code.getD k default))} (k+1):=by unfold fJ;dsimp only;rw[amn (by omega),amn (by omega),amn (by omega),amn (by omega),amn (by omega),amn (by omega),amn (by omega),amo h]
theorem Gt(h:(cx.code.getD k default).op=11):fJ cx s k=qp cx s k:=by unfold fJ;dsimp only;rw[amn (by omega),amn (by omega),amn (by omega),amn (by omega),amn (by omega),amn (by omega),amn (by omega),amn (by omega),amo h]
theorem TE(h:(cx.code.getD k default).op=13):fJ cx s k=.go {s with bars:=s.bars++[⟨cx.aI,(k:Int),(cx.code.getD k default).dE⟩]} (k+1):=by unfold fJ;dsimp only;rw[amn (by omega),amn (by omega),amn (by omega),amn (by omega),amn (by omega),amn (by omega),amn (by omega),amn (by omega),amn (by omega),amo h]
theorem TJ(h:∀n:Int,n=1\/n=2\/n=3\/n=4\/n=5\/n=6\/n=7\/n=8\/n=9\/n=10\/n=11\/n=13->¬(cx.code.getD k default).op=n):fJ cx s k=.go s (k+1):=by unfold fJ;dsimp only;rw[amn (h 1 (by decide)),amn (h 2 (by decide)),amn (h 3 (by decide)),amn (h 4 (by decide)),amn (h 5 (by decide)),amn (h 6 (by decide)),amn (h 7 (by decide)),amn λq=>q.elim (h 8 (by decide)) λq=>q.elim (h 9 (by decide)) (h 10 (by decide)),amn (h 11 (by decide)),amn (h 13 (by decide))]
end
theorem Nc{cx:fa}{s:b6}{k:Nat}{lS:Int}{ok:Bool} (h:if(bJ s (cx.code.getD k default).a).has.ot||(bJ s (cx.code.getD k default).b).has.ot then ok=uq cx.code (k+1) (np cx.code k)/\(ok=true->lS=(k:Int)+1)else ok=true/\lS=if sv (bJ s (cx.code.getD k default).a).has (bJ s (cx.code.getD k default).b).has then((np cx.code k:Nat):Int)else(k:Int)+1): (qp cx s k=.hg/\ok=false)\/∃ou:Nat,qp cx s k=.go (ob s (cx.code.getD k default)) ou/\ok=true/\lS=(ou:Int):=by
 unfold qp;dsimp only;split at h
 ·rename_i bm;rw[amo bm];obtain⟨h1,h2⟩:=h;cases aB:uq cx.code (k+1) (np cx.code k)with
  | false=>rw[aB]at h1;exact .inl ⟨amn (by simp),h1⟩
  | true=>rw[aB]at h1;exact .inr ⟨k+1,by rw[amo rfl];rfl,h1,h2 h1⟩
 rename_i bm;rw[amn bm];obtain⟨h1,h2⟩:=h;split at h2
 ·rename_i hu;exact .inr ⟨np cx.code k,by rw[amo hu];rfl,h1,h2⟩
 rename_i hu;exact .inr ⟨k+1,by rw[amn hu];rfl,h1,h2⟩
end Go.Proofs.bK
namespace Go.bU
section
variable {aQ:Type} [Inhabited aQ] [DecidableEq aQ] {ok:aQ->Prop} {lt:aQ->aQ->Bool}
theorem J1{xs:List aQ}{x:aQ}:x∈lJ xs↔x∈xs:=by
 unfold lJ qs;rw[am1];constructor
 ·rintro⟨j,ad,rfl⟩;rw[am5,amH]at ad;exact er ad.1
 intro h;have key:∀j,j<xs.length->∃i,i∈(List.range xs.length).filter (jH xs)/\xs.getD i default=xs.getD j default:=by
  intro j
  induction j with
  | zero=>intro ad;exact⟨0,by rw[am5,amH];exact⟨ad,rfl⟩,rfl⟩
  | succ j bH=>
   intro ad;by_cases e:jH xs (j+1)=true
   ·exact⟨j+1,by rw[am5,amH];exact⟨ad,e⟩,rfl⟩
   obtain⟨i,h1,h2⟩:=bH (by omega);refine⟨i,h1,h2.trans ?_⟩;unfold jH at e;rw[amy (by omega),anU,anK,amm,amj]at e;exact e.symm
 obtain⟨j,ad,rfl⟩:=o6 h;exact key j ad
theorem NC(yv:∀x,ok x->lt x x=false)(cg:∀x y z,ok x->ok y->ok z->lt x y=true->lt y z=true->lt x z=true)(De:∀x y,ok x->ok y->lt x y=true\/x=y\/lt y x=true) {xs:List aQ} (hok:∀x,x∈xs->ok x) (h:xs.Pairwise λa b=>lt b a=false):(lJ xs).Pairwise λa b=>lt a b=true:=by
 unfold lJ qs;rw[anz,am9];have hh:∀i j,i<j->j<xs.length->lt (xs.getD j default) (xs.getD i default)=false:=λi j hN ad=>by have:=am9.1 h i j (by omega) ad hN;rwa[aml,aml,amp ad,amp (show i<xs.length by omega)]
 intro a b au hb oe;have ag:((List.range xs.length).filter (jH xs)).Pairwise (· <·):=anC _ aoL;have dn:=am9.1 ag a b au hb oe;have vv:=anx hb;rw[am5,amH]at vv;generalize((List.range xs.length).filter (jH xs))[a]=i at dn⊢;generalize((List.range xs.length).filter (jH xs))[b]=j at dn vv⊢;have o:∀q,q<xs.length->ok (xs.getD q default):=λq aZ=>hok _ (er aZ);have h1:¬xs.getD j default=xs.getD (j-1) default:=by have:=vv.2;unfold jH at this;rw[amy (by omega),anU,amk,amu]at this;exact this
 have h2:lt (xs.getD (j-1) default) (xs.getD j default)=true:=by
  rcases De _ _ (o (j-1) (by omega)) (o j vv.1)with q | q | q
  ·exact q
  ·exact absurd q.symm h1
  rw[hh (j-1) j (by omega) vv.1]at q;cases q
 by_cases e:i=j-1
 ·rw[e];exact h2
 rcases De _ _ (o i (by omega)) (o (j-1) (by omega))with q | q | q
 ·exact cg _ _ _ (o i (by omega)) (o (j-1) (by omega)) (o j vv.1) q h2
 ·rw[q];exact h2
 rw[hh i (j-1) (by omega) (by omega)]at q;cases q
theorem LQ{R:aQ->aQ->Prop}(yv:∀x,ok x->¬R x x)(cg:∀x y z,ok x->ok y->ok z->R x y->R y z->R x z):∀(l m:List aQ),(∀x,x∈l->ok x)->l.Pairwise R->m.Pairwise R->(∀x,x∈l↔x∈m)->l=m
 | [],m,_,_,_,h=>by
  cases m with
  | nil=>rfl
  | cons b m=>exact absurd ((h b).2 aL) (by simp)
 | a::l,[],_,_,_,h=>absurd ((h a).1 aL) (by simp)
 | a::l,b::m,bm,aB,hm,h=>by
  rw[am2]at aB hm;have au:=bm a aL;have hb:ok b:=bm b ((h b).2 aL);have oe:a=b:=by
   rcases amG.1 ((h a).1 aL)with q | q
   ·exact q
   rcases amG.1 ((h b).2 aL)with bn | bn
   ·exact bn.symm
   exact absurd (cg _ _ _ au hb au (aB.1 b bn) (hm.1 a q)) (yv a au)
  subst oe;rw[LQ yv cg l m (λx hx=>bm x (.tail _ hx)) aB.2 hm.2 λx=>⟨λq=>by
   rcases amG.1 ((h x).1 (.tail _ q))with e | e
   ·rw[e]at q;exact absurd (aB.1 a q) (yv a au)
   ·exact e,λq=>by
   rcases amG.1 ((h x).2 (.tail _ q))with e | e
   ·rw[e]at q;exact absurd (hm.1 a q) (yv a au)
   exact e⟩]
end
theorem ag5{ls ys:List cE}(hok:∀x,x∈ls->iu x)(hp:ys.Perm ls)(ag:ys.Pairwise λa b=>iv b a=false):lJ ys=qJ ls []:=by
 have Pr:∀x,x∈ys->iu x:=λx hx=>hok x (hp.mem_iff.1 hx);have hf:=Ed ls [] hok (λx hx=>by cases hx) List.Pairwise.nil;refine LQ (ok:=iu) (R:=uU) (λx hx=>DF hx) (λx y z hx aR aY h1 h2=>Bn hx aR aY h1 h2) _ _ (λx hx=>Pr x (J1.1 hx)) (NC (ok:=iu) (lt:=iv) (λx hx=>amP.2 (DF hx)) (λx y z hx aR aY h1 h2=>Bn hx aR aY h1 h2) (λx y hx aR=>G8 hx aR) Pr ag) hf.1 λx=>?_
 rw[J1,hp.mem_iff];exact⟨λq=>(hf.2 x).2 (.inl q),λq=>((hf.2 x).1 q).resolve_right (by simp)⟩
theorem V2(x:List UInt8):Op.bytesLess x []=false:=by cases x<;>rfl
theorem acH{t:aM}{ys:List ByteArray}(hp:ys.Perm (mM t))(ag:ys.Pairwise λa b=>gT b a=false):(if 0<(lJ ys).length/\(lJ ys).getD 0 default=a8 then(lJ ys).drop 1 else lJ ys)=b2 t:=by
 have hh:=NC (ok:=λ_:ByteArray=>True) (lt:=gT) (λx _=>vN x) (λx y z _ _ _ h1 h2=>xe h1 h2) (λx y _ _=>JU x y) dx ag;have hm:∀x,x∈lJ ys↔x∈mM t:=λx=>by rw[J1,hp.mem_iff]
 refine LQ (ok:=λ_=>True) (R:=ql) (λx _ h=>by unfold ql at h;rw[vN]at h;cases h) (λx y z _ _ _ h1 h2=>xe h1 h2) _ _ dx ?_ (xg t) λx=>?_
 ·split
  ·exact List.Pairwise.drop hh
  exact hh
 rw[uw,<-hm];cases aY:lJ ys with
 | nil=>simp
 | cons a r=>
  rw[aY,am2]at hh;have dC:∀b,b∈r->b≠a8:=λb hb e=>by have:=hh.1 b hb;rw[e]at this;unfold gT at this;rw[Dd a8]at this;rw[show a8.data.toList=[]from rfl,V2]at this;cases this
  show x∈(if 0<(a::r).length/\a=a8 then r else a::r)↔_;by_cases e:a=a8
  ·rw[amo ⟨by simp,e⟩,amG];exact⟨λq=>⟨.inr q,dC x q⟩,λq=>q.1.resolve_left λbn=>q.2 (bn.trans e)⟩
  rw[amn λq=>e q.2,amG];refine⟨λq=>⟨q,?_⟩,λq=>q.1⟩;rcases q with q | q
  ·rw[q];exact e
  exact dC x q
end Go.bU
namespace Go.Proofs.bK
theorem Wr(n:eU)(ak:Value)(w:World)(bh:kP an w n ak)(hok:∀x,x∈jz n->iu x)(w1:(jz n).length<=1024): bj prog 70 [.agg (gR (iP n ak)).toArray] w λm v I=>aV (Fr m) I ev 3 v (qJ (jz n) []):=by have gZ:=bh.aG;refine ca func70 ntmps70 ?_;refine ck λkc=>?_;refine cU λcW=>?_;refine dZ 25 3 ev ?_;refine cJ (Mem [(w,an)] (oa cW U []++[.box kc (gR (iP n ak)) 28])) (bV [1,0,2]) ?_;refine ao (en (a7:=λI hw=>Wg cW (SizeOf.sizeOf n+1) n ak U [] I (by omega) cZ (by simpa using(by omega:(jz n).length<=4096)) hw.dk.ei (bh.map λv c9 h=>hw.gw h aL λe he=>amE _ he)) (ab:=?_));rintro r bx es a6 ⟨rfl,v,aw,rfl⟩;show cL _ _ _ (Mem _ (.box cW [v] 38::.own v 25 3 ev ([]++jz n)::[.box kc (gR (iP n ak)) 28]));rw[anf];refine aa ?_;refine ao (vj 1 rfl (a7:=λI hw=>agq v (jz n) I (by omega) hok (hw.only ds)) (ab:=?_));rintro AD cp cd bX ⟨rfl,ys,rfl,hp,ag⟩;have o2:=hp.length_eq;refine aa ?_;refine ao (vj 1 rfl (a7:=λI hw=>agh v ys I aw (by omega) (hw.only ds)) (ab:=?_));rintro F9 hD hY gb ⟨dL,yl,rfl,rfl⟩;refine bl λI hw=>?_;rw[<-ag5 hok hp ag];exact hw.hK ds aL
theorem Nn(dD:Int)(n:eU)(ak:Value)(w:World)(bh:kP an w n ak):bj prog 22 [.agg (.int .i64 dD::gR (iP n ak)).toArray] w λm v I=>∃aU,v=.tuple #[aU,.int .i64 (oL 2 dD n)]/\aV (Fr m) I ev 3 aU (fK dD n):=by
 have gZ:=bh.aG;refine ca func22 ntmps22 ?_;refine ck λhc=>?_;refine ao (bw (λI hw=>Nl 2 dD n ak I (bh.map λv c9 h=>hw.now h)) ?_);rintro v bx a6 rfl cA;refine aa ?_;unfold fK;refine bA (λh1=>?_) λh1=>?_
 ·rw[amk,ar]at h1;refine aa ?_;refine bP rfl (.tmp rfl (.t1 rfl)) λI hw=>?_;rw[amn h1];exact⟨_,rfl,C8 _ _⟩
 rw[amm,aq]at h1;rw[amo h1];have tn:(il 2 n 0 0).2=0:=by
  unfold oL at h1;rw[amo (.inr rfl)]at h1;split at h1
  ·cases h1
  exact h1
 have bG:=(wq n 0 0 tn).2;have mB:u0 n:=⟨0,0,tn⟩;refine aa ?_;refine ao (iJ (a7:=λI hw=>Wr n ak I (bh.map λv c9 h=>hw.now h) mB.atoms (by omega)) (ab:=?_));rintro v2 cp bX iM fq;have kC:=F0 (jz n) [];refine aa ?_;refine ao (iJ (a7:=λI hw=>(age v2 _ I (hw.now iM) (by simp at kC;omega)).size (hw.sz gC)) (ab:=?_));rintro v3 hD gb ⟨pC,Jm⟩ nj;refine aa ?_;refine bP rfl (.tmp rfl (.t1 rfl)) λI hw=>?_;rw[h1];exact⟨_,rfl,hw.pass pC aL Jm⟩
theorem Oa(t:aM)(aj ae ak:Value)(vs:List Value)(w:World)(h:gz an w aj ae ak vs t):bj prog 64 [.agg (cQ t aj ae ak).toArray] w λm v I=>aV (Fr m) I ev 3 v (fK t.dD t.node):=by obtain⟨s1,s2,cy⟩:=h.iF;refine ca func64 ntmps64 ?_;refine ck λaT=>?_;refine ao (bw (λI hw=>(Nn t.dD t.node ak I (h.now hw).node).size (hw.sz aL)) ?_);rintro v bx a6 ⟨⟨aU,rfl,bp⟩,eh⟩ cA;refine bl λI hw=>?_;exact hw.pass bp aL eh
theorem Od(t:aM)(aj ae ak:Value)(vs:List Value)(w:World)(h:gz an w aj ae ak vs t)(eZ:ur t)(gB:t.init.length<=1024):bj prog 65 [.agg (cQ t aj ae ak).toArray] w λm v I=>aV (Fr m) I dV 1 v (b2 t):=by
 obtain⟨s1,s2,cy⟩:=h.iF;have eE:=h.mZ;have hM:=h.mx;have hle:=hM.le;have fi:=h.init;have HZ:=fi.le;have ri:=yX t.dD t.node;have eP:=Ss eZ gB;have vy:=KM t;refine ca func65 ntmps65 ?_;refine ck λaT=>?_;refine dZ 9 1 dV ?_;refine b9 (λs:Nat×Value×List ByteArray=>s.1<=t.init.length/\aD s.2.1/\s.2.2++((t.init.drop s.1).flatMap Cs++(t.code.flatMap sU++(fK t.dD t.node).map (·.loc)))=mM t) (λs=>[(15,true,.int .i64 s.1),(14,true,.int .i64 t.init.length),(13,true,aj),(3,true,s.2.1),(1,true,ax aT)]) (λs=>Mem [(w,an)] [.own s.2.1 9 1 dV s.2.2,.box aT (cQ t aj ae ak) 32]) (λs=>t.init.length-s.1) (0,U,[]) ⟨amz _,cZ,by rw[aon,vy];rfl⟩ ?_
 rintro⟨i,v,ys⟩ ⟨hi,aw,b8⟩;dsimp only at hi aw b8⊢;refine bg (λh1=>?_) λh1=>?_
 ·have cb:i<t.init.length:=by rw[aq]at h1;omega
  rw[vc cb,am0,amJ]at b8;have o2:=amC List.length b8;simp only[ams]at o2;refine aa ?_;refine cU λcW=>?_;refine bQ 0 ?_;refine ao (eA _ _ (ab:=λv25 Jg=>aa ?_));refine ao (e6 2 (hk:=rfl) (bG:=by simp;omega) (ab:=λv26 Jh=>aa ?_));exact bt (i+1,v26,ys++Cs (t.init.getD i default)) ⟨by dsimp only;omega,Jh,by dsimp only;rw[amJ];exact b8⟩ (by dsimp only;omega) (hA:=bV [2,3])
 have cb:i=t.init.length:=by rw[ar]at h1;omega
 rw[cb,anL,List.flatMap_nil,anf]at b8;refine aa ?_;refine b9 (λs:Nat×Value×List ByteArray=>s.1<=t.code.length/\aD s.2.1/\s.2.2++((t.code.drop s.1).flatMap sU++(fK t.dD t.node).map (·.loc))=mM t) (λs=>[(31,true,.int .i64 s.1),(30,true,.int .i64 vs.length),(29,true,ae),(3,true,s.2.1),(1,true,ax aT)]) (λs=>Mem [(w,an)] [.own s.2.1 9 1 dV s.2.2,.box aT (cQ t aj ae ak) 32]) (λs=>t.code.length-s.1) (0,v,ys) ⟨amz _,aw,by rw[aon];exact b8⟩ ?_
 clear b8 aw;rintro⟨k,v,ys⟩ ⟨hk,aw,b8⟩;dsimp only at hk aw b8⊢;refine bg (λh2=>?_) λh2=>?_
 ·have bF:k<t.code.length:=by rw[aq]at h2;omega
  have q9:=h.code k (by omega);have r5:=q9.le;rw[Np bF]at b8;refine aa ?_;refine b9 (λs:Nat×Value×List ByteArray=>s.1<=(t.code.getD k default).length/\aD s.2.1/\s.2.2++(((t.code.getD k default).drop s.1).map (·.loc)++((t.code.drop (k+1)).flatMap sU++(fK t.dD t.node).map (·.loc)))=mM t) (λs=>[(37,true,.int .i64 s.1),(36,true,.int .i64 (t.code.getD k default).length),(35,true,vs.getD k default),(31,true,.int .i64 k),(30,true,.int .i64 vs.length),(29,true,ae),(3,true,s.2.1),(1,true,ax aT)]) (λs=>Mem [(w,an)] [.own s.2.1 9 1 dV s.2.2,.box aT (cQ t aj ae ak) 32]) (λs=>(t.code.getD k default).length-s.1) (0,v,ys) ⟨amz _,aw,by rw[aon];exact b8⟩ ?_
  clear b8 aw;rintro⟨i,v,ys⟩ ⟨hi,aw,b8⟩;dsimp only at hi aw b8⊢;refine bg (λh3=>?_) λh3=>?_
  ·have dw:i<(t.code.getD k default).length:=by rw[aq]at h3;omega
   rw[vc dw,am8]at b8;have o2:=amC List.length b8;simp only[ams]at o2;refine aa ?_;refine cU λcW=>?_;refine bQ 0 ?_;refine ao (eA _ _ (ab:=λv44 PZ=>aa ?_));refine ao (e6 2 (hk:=rfl) (bG:=by simp;omega) (ab:=λv45 Ji=>aa ?_));exact bt (i+1,v45,ys++[((t.code.getD k default).getD i default).loc]) ⟨by dsimp only;omega,Ji,by dsimp only;rw[amJ];exact b8⟩ (by dsimp only;omega) (hA:=bV [2,3])
  have dw:i=(t.code.getD k default).length:=by rw[ar]at h3;omega
  rw[dw,anL,List.map_nil,anf]at b8;refine aa ?_;exact bt (k+1,v,ys) ⟨by dsimp only;omega,aw,b8⟩ (by dsimp only;omega)
 have bF:k=t.code.length:=by rw[ar]at h2;omega
 rw[bF,anL,List.flatMap_nil,anf]at b8;refine aa ?_;refine ao (bw (λI hw=>Oa t aj ae ak vs I (h.now hw)) ?_);rintro aU cp bX bp fq;have xZ:=bp.le;refine aa ?_;refine b9 (λs:Nat×Value×List ByteArray=>s.1<=(fK t.dD t.node).length/\aD s.2.1/\s.2.2++((fK t.dD t.node).drop s.1).map (·.loc)=mM t) (λs=>[(51,true,.int .i64 s.1),(50,true,.int .i64 (fK t.dD t.node).length),(49,true,aU),(3,true,s.2.1)]) (λs=>Mem [(bX,Fr cp),(w,an)] [.own s.2.1 9 1 dV s.2.2]) (λs=>(fK t.dD t.node).length-s.1) (0,v,ys) ⟨amz _,aw,by rw[aon];exact b8⟩ ?_ ⟨rfl,rfl,rfl,rfl,trivial⟩ (bV [0])
 clear b8 aw;rintro⟨i,v,ys⟩ ⟨hi,aw,b8⟩;dsimp only at hi aw b8⊢;refine bg (λh3=>?_) λh3=>?_
 ·have dw:i<(fK t.dD t.node).length:=by rw[aq]at h3;omega
  rw[vc dw,am8]at b8;have o2:=amC List.length b8;simp only[ams]at o2;refine aa ?_;refine cU λcW=>?_;refine bQ 0 ?_;refine ao (eA _ _ (ab:=λv58 Z8=>aa ?_));refine ao (e6 2 (hk:=rfl) (bG:=by simp;omega) (ab:=λv59 Cj=>aa ?_));exact bt (i+1,v59,ys++[((fK t.dD t.node).getD i default).loc]) ⟨by dsimp only;omega,Cj,by dsimp only;rw[amJ];exact b8⟩ (by dsimp only;omega) (hA:=bV [2])
 have dw:i=(fK t.dD t.node).length:=by rw[ar]at h3;omega
 rw[dw,anL,List.map_nil,amB]at b8;subst b8;refine aa ?_;refine ao (vj 0 rfl (a7:=λI hw=>agp v (mM t) I (by omega) (hw.only aL)) (ab:=?_));rintro AD hD cd gb ⟨rfl,zs,rfl,hp,ag⟩;have uo:=hp.length_eq;have Ik:=WB zs zs.length;have ER:=acH hp ag;refine aa ?_;refine ao (vj 0 rfl (a7:=λI hw=>agf v zs I aw (by omega) (hw.only aL)) (ab:=?_));rintro F9 jI hY jJ ⟨dL,yl,rfl,rfl⟩;refine bg (λaW=>?_) λaW=>?_
 ·rw[ami,aq,aq]at aW;rw[amo ⟨by omega,aW.2⟩]at ER;refine aa ?_;refine dg (AB dV 9 1 (lJ zs) (bY rfl) (bY rfl) aL λ_=>by omega) (ab:=aa ?_);refine bP rfl (.t1 rfl) λI hw=>?_;have:=(hw.hK aL ds).sub 1 (lJ zs).length (by omega) (amK _);rw[amU,ER]at this;exact this
 rw[amx,ar,ar]at aW;rw[amn λq=>aW.elim (λbn=>bn (by omega)) λbn=>bn q.2]at ER;refine bl λI hw=>?_;rw[<-ER];exact hw.hK aL ds
end Go.Proofs.bK
