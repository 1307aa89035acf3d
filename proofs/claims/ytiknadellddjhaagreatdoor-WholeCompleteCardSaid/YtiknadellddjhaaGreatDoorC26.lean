/- Lemmas for the law WholeComplete. -/
import Derived.Test.YtiknadellddjhaaGreatDoorC17
import Derived.Test.YtiknadellddjhaaGreatDoorC24
set_option linter.all false
open Go.Proofs.Tryz
set_option maxHeartbeats 6400000
open Go Go.b9 Go.bM
namespace Go.b9
open Go Go.RowKit
section
variable {P:Program} {N:Nat} {Q:Exit->Act->World->Prop} {K:Act->World->Prop} {tm:dY} {bs:List dm} {H:List aB}
theorem O3{k:Nat}{T:TypeId}{x:Operand}{name:String}{v:Value}{a:Act}{w:World}{d:Option Tmp}{ty:TypeId}{pos:String}{cV:Array Edge}{g:Option (Nat×Bool)}[hF:aS P k] (hx:a.eval x=.iface T v) (hm:∀r w,(Go.method (P.types.size+Made.depth) T r name).run P w=.ok (k,r) w): (execOp a.eval ⟨d,.call {callee:=.invoke x name,args:=#[],argTypes:=#[]},ty,pos,cV,g⟩).run P w=.ok (.enter k #[v]) w:=by
 obtain⟨fn,h1,h2,h3⟩:=hF.h;have bq:fn.name≠ "runtime.NumGoroutine" :=by simpa using h2
 have dE:fn.body≠none:=by intro h;rw[h]at h3;cases h3
 simp only[execOp,resolve,hx];simp[invoke,callMethod,callFunc,hm,h1,bq,dE]
theorem EU{d k:Nat}{T:TypeId}{x:Operand}{name:String}{v u:Value}[hF:aS P k](hx:bt tm true x (.iface T v))(hm:∀r w,(Go.method (P.types.size+Made.depth) T r name).run P w=.ok (k,r) w)(hd:Nat.blt d N=true) (bb:∀w,bl P k [v] w λ_ r _=>r=u) (ab:cR N K ((d,true,u)::tm) (Mem bs H)):gz P N (.call {callee:=.invoke x name,args:=#[],argTypes:=#[]}) (some d) Q tm (Mem bs H) K:=by unfold gz cR at *;intro a w ty pos cV g aj hw;unfold Oper.wp;rw[O3 (hx.get aj rfl) hm];simp only[Oper.upon];have uM:=bb w;unfold bl at uM;refine Calls.mono uM λe I h=>?_;unfold qy at h;obtain⟨dG,rfl,hb,rfl⟩:=h;exact ab _ _ (by simpa using aj.put (apv.mp hd) true dG) (hw.ext hb)
theorem E2{k:Nat}{T:TypeId}{c:Bool}{x:Operand}{name:String}{v u:Value}[hF:aS P k](hx:bt tm c x (.iface T v))(hm:∀r w,(Go.method (P.types.size+Made.depth) T r name).run P w=.ok (k,r) w) (bb:∀w,bl P k [v] w λ_ r _=>r=u):vo P N (.call {callee:=.invoke x name,args:=#[],argTypes:=#[]}) tm (Mem bs H) c u:=by unfold vo;intro ai Q K a w d ty pos cV g aj hw jR;unfold Oper.wp;rw[O3 (hx.get aj ai) hm];simp only[Oper.upon];have uM:=bb w;unfold bl at uM;refine Calls.mono uM λe I h=>?_;unfold qy at h;obtain⟨dG,rfl,hb,rfl⟩:=h;exact jR I (hw.ext hb)
end
end Go.b9
namespace Go.Proofs.bA
attribute [local irreducible] wpList Code.wp bodyPost Exit.then Exit.inBlock Calls
section
variable {N:Nat} {Q:Exit->Act->World->Prop} {K:Act->World->Prop} {tm:dY} {bs:List dm} {H:List aB}
theorem RI:∀r w,(Go.method (prog.types.size+Made.depth) 161 r "alembic/trace.open").run prog w=.ok (421,r) w:=by intro r w;kernel_rfl
theorem RG:∀r w,(Go.method (prog.types.size+Made.depth) 166 r "alembic/trace.open").run prog w=.ok (422,r) w:=by intro r w;kernel_rfl
theorem RJ:∀r w,(Go.method (prog.types.size+Made.depth) 176 r "alembic/trace.open").run prog w=.ok (423,r) w:=by intro r w;kernel_rfl
theorem RH:∀r w,(Go.method (prog.types.size+Made.depth) 327 r "alembic/trace.open").run prog w=.ok (426,r) w:=by intro r w;kernel_rfl
theorem YW{d:Nat}{x:Operand}(h:jZ)(hx:bt tm true x (iU h))(hd:Nat.blt d N=true)(ab:cR N K ((d,true,.bool h.oM)::tm) (Mem bs H)): gz prog N (.call {callee:=.invoke x "alembic/trace.open",args:=#[],argTypes:=#[]}) (some d) Q tm (Mem bs H) K:=by
 cases h with
 | num n=>exact EU hx RI hd (λw=>Ss n w) ab
 | ks n=>exact EU hx RG hd (λw=>Sq n w) ab
 | told n=>exact EU hx RJ hd (λw=>St n w) ab
 | hid=>exact EU hx RH hd (λw=>Sr w) ab
theorem Y3{c:Bool}{x:Operand}(h:jZ)(hx:bt tm c x (iU h)):vo prog N (.call {callee:=.invoke x "alembic/trace.open",args:=#[],argTypes:=#[]}) tm (Mem bs H) c (.bool h.oM):=by
 cases h with
 | num n=>exact E2 hx RI (λw=>Ss n w)
 | ks n=>exact E2 hx RG (λw=>Sq n w)
 | told n=>exact E2 hx RJ (λw=>St n w)
 | hid=>exact E2 hx RH λw=>Sr w
end
def V1(aU:Nat)(t:aV)(ah ad ao:Value)(bI:Int)(ak:Value)(aO:List ByteArray)(ahead:Nat)(q:j0)(s:cg)(k:Int)(i:Instr):Nat->Value->List aB->World->Prop:=λn r es I=>
 ((jL (bS s i.a).has).2=false/\r=.bool false/\es=cP aU t ah ad ao bI ak ahead q s false)\/
 ((jL (bS s i.a).has).2=true/\((i.op=7/\Nu aU t ah ad ao bI ak aO ahead q s k (jL (bS s i.a).has).1 (bS s i.a).on (bS s i.b) n r es I)\/(¬i.op=7/\r=.bool true/\Nl aU t ah ad ao bI ak aO ahead q s k (jL (bS s i.a).has).1 (bS s i.a).on i.d n (.tuple #[]) es I)))
theorem ai6(aU:Nat)(t:aV)(ah ad ao:Value)(bI:Int)(ak:Value)(aO:List ByteArray)(ahead:Nat)(q:j0)(s:cg)(k:Int)(i:Instr)(w:World)(bn:BW aO ahead q s)(eS:(jL (bS s i.a).has).2=true->(jL (bS s i.a).has).1∈aO)(ay:0<=i.a/\i.a<s.ag.length)(hb:0<=i.b/\i.b<s.ag.length)(hd:0<=i.d/\i.d<s.ag.length) (c0:aZ (bJ (cP aU t ah ad ao bI ak ahead q s false)) w dU 1 ak aO) (hw:Mem [] (cP aU t ah ad ao bI ak ahead q s false) w): eY prog 74 [av aU,.int .i64 k,.agg (cL i).toArray] (cP aU t ah ad ao bI ak ahead q s false) w (V1 aU t ah ad ao bI ak aO ahead q s k i):=by
 obtain⟨cB,bz,fc,iB,kp,oi⟩:=bn.q;have Jp:=c0.aK;have ep:(s.ag.map c9).length=s.ag.length:=aoJ _;have oH:(s.ag.map c9).getD i.a.toNat default=c9 (bS s i.a):=wO (by omega);have gN:(s.ag.map c9).getD i.b.toNat default=c9 (bS s i.b):=wO (by omega);refine tk func74 ntmps74 rfl rfl hw ?_;refine cA (Mem [(w,bJ (cP aU t ah ad ao bI ak ahead q s false))] [.box aU (gK t ah ad ao bI ak ⟨q.aE,q.aI,q.bv,q.aG,q.aR,q.ax⟩ s.bh ahead false) 85,.own q.aE 165 5 e5 ((s.ag).map c9),.own q.aI 138 6 ef (s.J),.own q.bv 140 3 fE (s.bars),.own q.aG 178 2 bB (s.addr),.own q.aR 178 2 bB (s.data),.own q.ax 178 2 bB (s.dF)]) (λ_ h=>h) (af ?_);refine e4 λbi=>?_;refine cz [0,1,2,3,4,5,6,7,8,9] mixed ?_;refine bQ ?_;refine bO _ (h:=fb ?_);intro dT;refine aF (bQ ?_) iR;rw[oH];refine gw (h:=bK 0 (h1:=.cons (qG _) (.cons rfl (.cons rfl (.cons rfl (.cons rfl .nil))))) (ab:=?_));refine cA (Mem [(w,bJ (cP aU t ah ad ao bI ak ahead q s false))] [.box aU (gK t ah ad ao bI ak ⟨q.aE,q.aI,q.bv,q.aG,q.aR,q.ax⟩ s.bh ahead false) 85,.own q.aE 165 5 e5 ((s.ag).map c9),.own q.aI 138 6 ef (s.J),.own q.bv 140 3 fE (s.bars),.own q.aG 178 2 bB (s.addr),.own q.aR 178 2 bB (s.data),.own q.ax 178 2 bB (s.dF),.box dT (e5 (c9 (bS s i.a))) 165,.box bi (cL i) 169]) (λ_ h=>h.perm (apx (l₁:=[_,_]))) (af ?_);refine dh (Mo (bS s i.a).has (b3 rfl)) (ab:=af ?_);refine bC (λh1=>?_) λh1=>?_
 ·rw[aoq]at h1;refine af ?_;exact eL rfl (.t1 rfl) (cP aU t ah ad ao bI ak ahead q s false) [0,1,2,3,4,5,6] λI hw=>.inl ⟨h1,rfl,rfl⟩
 rw[aos]at h1;refine dp (λh2=>?_) λh2=>?_
 ·rw[an]at h2;refine af ?_;refine cz [0,1,2,3,4,5,6,7,8,9,10,11,12,13,14] mixed ?_;refine bQ ?_;rw[gN];refine eP (λ_=>True) (h:=eB (es:=cP aU t ah ad ao bI ak ahead q s false) (H:=[.box dT (e5 (c9 (bS s i.a))) 165,.box bi (cL i) 169]) (bb:=λI hw=>MD aU t ah ad ao bI ak aO ahead q s k (jL (bS s i.a).has).1 (bS s i.a).on (bS s i.b) I bn (eS h1) (hw.iD c0 aP λe he=>aoK _ he) hw.dt.ew) (ab:=?_));rintro r bx es bc eJ;refine aF (aN ?_) dz;refine cA (Mem [(w,bJ (cP aU t ah ad ao bI ak ahead q s false))] es) (λ_ h=>h.dt) (af ?_);exact Se rfl (.t1 rfl) aP λI hw=>.inr ⟨h1,.inl ⟨h2,eJ⟩⟩
 rw[au]at h2;refine af ?_;refine aq (eB (es:=cP aU t ah ad ao bI ak ahead q s false) (H:=[.box dT (e5 (c9 (bS s i.a))) 165,.box bi (cL i) 169]) (bb:=λI hw=>U5 aU t ah ad ao bI ak aO ahead q s k (jL (bS s i.a).has).1 (bS s i.a).on i.d I bn (eS h1) hd (hw.iD c0 aP λe he=>aoK _ he) hw.dt.ew) (ab:=?_));rintro r bx es bc eJ;have aM:r=.tuple #[]:=by rcases eJ with⟨_,e,_⟩ | ⟨_,e,_⟩<;>exact e
 subst aM;refine cA (Mem [(w,bJ (cP aU t ah ad ao bI ak ahead q s false))] es) (λ_ h=>h.dt) (af ?_);exact Se rfl (.t1 rfl) aP λI hw=>.inr ⟨h1,.inr ⟨h2,rfl,eJ⟩⟩
theorem H8(h:jZ):(iU h).cells=[iU h].toArray:=by cases h<;>rfl
theorem ajb(aU:Nat)(t:aV)(ah ad ao:Value)(bI:Int)(ak:Value)(ahead:Nat)(q:j0)(s:cg)(i:Instr)(w:World)(ba:q.ok)(ay:0<=i.a/\i.a<s.ag.length)(hb:0<=i.b/\i.b<s.ag.length)(hd:0<=i.d/\i.d<s.ag.length)(hw:Mem [] (cP aU t ah ad ao bI ak ahead q s false) w): eY prog 75 [av aU,.agg (cL i).toArray] (cP aU t ah ad ao bI ak ahead q s false) w (Nj aU t ah ad ao bI ak ahead (.tuple #[]) q {s with ag:=gP t.aC s.ag i.d (jF s i)} false):=by
 obtain⟨cB,bz,fc,iB,kp,oi⟩:=ba;have ba:j0.ok q:=⟨cB,bz,fc,iB,kp,oi⟩;have ep:(s.ag.map c9).length=s.ag.length:=aoJ _;have oH:(s.ag.map c9).getD i.a.toNat default=c9 (bS s i.a):=wO (by omega);have gN:(s.ag.map c9).getD i.b.toNat default=c9 (bS s i.b):=wO (by omega);refine tk func75 ntmps75 rfl rfl hw ?_;refine cA (Mem [(w,bJ (cP aU t ah ad ao bI ak ahead q s false))] [.box aU (gK t ah ad ao bI ak ⟨q.aE,q.aI,q.bv,q.aG,q.aR,q.ax⟩ s.bh ahead false) 85,.own q.aE 165 5 e5 ((s.ag).map c9),.own q.aI 138 6 ef (s.J),.own q.bv 140 3 fE (s.bars),.own q.aG 178 2 bB (s.addr),.own q.aR 178 2 bB (s.data),.own q.ax 178 2 bB (s.dF)]) (λ_ h=>h) (af ?_);refine e4 λbi=>?_;refine ih (λ_:Nat×Nat=>True) (λz=>[(5,true,.pointer (some ⟨z.2,0,none⟩)),(4,true,.pointer (some ⟨z.1,0,none⟩)),(3,true,av bi),(0,true,av aU)]) (λz=>Mem [(w,bJ (cP aU t ah ad ao bI ak ahead q s false))] [.box aU (gK t ah ad ao bI ak ⟨q.aE,q.aI,q.bv,q.aG,q.aR,q.ax⟩ s.bh ahead false) 85,.own q.aE 165 5 e5 ((s.ag).map c9),.own q.aI 138 6 ef (s.J),.own q.bv 140 3 fE (s.bars),.own q.aG 178 2 bB (s.addr),.own q.aR 178 2 bB (s.data),.own q.ax 178 2 bB (s.dF),.box z.2 (e5 (c9 ⟨.num i.c3,0#64⟩)) 165,.box z.1 (e5 (c9 (bS s i.a))) 165,.box bi (cL i) 169]) ?_ ?_
 ·refine cz [0,1,2,3,4,5,6,7,8,9,10,11,999] mixed ?_;refine bQ ?_;refine jA (h:=wD (b3 rfl)) (ab:=?_);refine bQ ?_;rw[oH];refine mf 12 13 ?_ ?_
  ·refine cp [999] _ (h:=fb ?_);intro dT;refine aF ?_ iR;refine ed 13 ?_;refine cp [14,15] _ (h:=fb ?_);intro df;refine aF ?_ λ_ h=>h.tail.tail;refine bO _ (h:=bK 1 (h1:=.cons (qG _) (.cons rfl (.cons rfl (.cons rfl (.cons rfl .nil))))) (ab:=?_));refine aF ?_ (b4 [2,3,4,5,6,7,8,9]);refine gw (h:=bK 0 (h1:=.cons (qG _) (.cons rfl (.cons rfl (.cons rfl (.cons rfl .nil))))) (ab:=?_));exact b6 (dT,df) trivial (hA:=b4 [3,4,5,6,7,8,9,0,1,2])
  refine cp [999] _ (h:=fb ?_);intro df;refine aF ?_ iR;refine ed 12 ?_;refine cp [14,15] _ (h:=fb ?_);intro dT;refine aF ?_ λ_ h=>h.tail.tail;refine bO _ (h:=bK 0 (h1:=.cons (qG _) (.cons rfl (.cons rfl (.cons rfl (.cons rfl .nil))))) (ab:=?_));refine aF ?_ (b4 [2,3,4,5,6,7,8,9]);refine gw (h:=bK 1 (h1:=.cons (qG _) (.cons rfl (.cons rfl (.cons rfl (.cons rfl .nil))))) (ab:=?_));exact b6 (dT,df) trivial (hA:=b4 [3,4,5,6,7,8,9,1,0,2])
 rintro⟨dT,df⟩ _;dsimp only;refine af ?_;refine ih (λmr:eO=>mr=(if i.op=8 then⟨.num i.c3,0#64⟩else bS s i.b)) (λ_=>[(5,true,av df),(4,true,av dT),(3,true,av bi),(0,true,av aU)]) (λmr=>Mem [(w,bJ (cP aU t ah ad ao bI ak ahead q s false))] [.box aU (gK t ah ad ao bI ak ⟨q.aE,q.aI,q.bv,q.aG,q.aR,q.ax⟩ s.bh ahead false) 85,.own q.aE 165 5 e5 ((s.ag).map c9),.own q.aI 138 6 ef (s.J),.own q.bv 140 3 fE (s.bars),.own q.aG 178 2 bB (s.addr),.own q.aR 178 2 bB (s.data),.own q.ax 178 2 bB (s.dF),.box df (e5 (c9 mr)) 165,.box dT (e5 (c9 (bS s i.a))) 165,.box bi (cL i) 169]) ?_ ?_
 ·refine bC (λh1=>?_) λh1=>?_
  ·rw[aoq,au]at h1;refine af ?_;refine cz [0,1,2,3,4,5,6,7,8] mixed ?_;refine bQ ?_;rw[gN];refine gw (h:=bK 7 (h1:=.cons (qG _) (.cons rfl (.cons rfl (.cons rfl (.cons rfl .nil))))) (ab:=?_));exact b6 (bS s i.b) (by rw[aot h1])
  rw[aos,an]at h1;refine af ?_;exact b6 ⟨.num i.c3,0#64⟩ (by rw[aou h1])
 rintro mr FK;refine af ?_;refine ih (λ_:Nat=>True) (λz=>[(6,true,av z),(3,true,av bi),(0,true,av aU)]) (λz=>Mem [(w,bJ (cP aU t ah ad ao bI ak ahead q s false))] [.box aU (gK t ah ad ao bI ak ⟨q.aE,q.aI,q.bv,q.aG,q.aR,q.ax⟩ s.bh ahead false) 85,.own q.aE 165 5 e5 ((s.ag).map c9),.own q.aI 138 6 ef (s.J),.own q.bv 140 3 fE (s.bars),.own q.aG 178 2 bB (s.addr),.own q.aR 178 2 bB (s.data),.own q.ax 178 2 bB (s.dF),.box z (e5 (c9 ⟨pO i.op (bS s i.a).has mr.has,(bS s i.a).on||| mr.on⟩)) 165,.box bi (cL i) 169]) ?_ ?_
 ·refine cz [0,1,2,3,4,5,7,8,9,10,999] mixed ?_;refine bQ ?_;refine mf 6 13 ?_ ?_
  ·refine cp [999] _ (h:=bp (λI hw=>U2 i.op (bS s i.a).has mr.has I) ?_);rintro v bx bc rfl cu;refine aF ?_ ek;refine mf 11 13 ?_ ?_
   ·refine cp [12,999] _ (h:=bp (λI hw=>DL (bS s i.a).on mr.on I) ?_);rintro v ck bY rfl eZ;refine aF (aN ?_) λ_ h=>h.cX.cX;refine jA (v:=.agg (e5 (c9 ⟨pO i.op (bS s i.a).has mr.has,(bS s i.a).on||| mr.on⟩)).toArray) (h:=?_) (ab:=?_)
    ·exact Gy (hp:=.cons (b3 rfl) (H8 _) (.cons (b3 rfl) rfl .nil))
    refine aN ?_;refine ed 13 ?_;refine cp [14] _ (h:=fb ?_);intro eQ;refine aF ?_ λ_ h=>(h.last rfl).tail;refine gw (h:=bK 0 (h1:=.cons (qG _) (.cons rfl (.cons rfl (.cons rfl (.cons rfl .nil))))) (ab:=?_));exact b6 eQ trivial (hA:=bD [1,2,3,4,5,6,7,0,10])
   refine cp [999] _ (h:=fb ?_);intro eQ;refine aF ?_ λ_ h=>(h.last rfl).tail;refine ed 11 ?_;refine cp [12,14] _ (h:=bp (λI hw=>DL (bS s i.a).on mr.on I) ?_);rintro v ck bY rfl eZ;refine aF (aN ?_) λ_ h=>(h.last rfl).tail;refine jA (v:=.agg (e5 (c9 ⟨pO i.op (bS s i.a).has mr.has,(bS s i.a).on||| mr.on⟩)).toArray) (h:=?_) (ab:=?_)
   ·exact Gy (hp:=.cons (b3 rfl) (H8 _) (.cons (b3 rfl) rfl .nil))
   refine aN ?_;refine gw (h:=bK 0 (h1:=.cons (qG _) (.cons rfl (.cons rfl (.cons rfl (.cons rfl .nil))))) (ab:=?_));exact b6 eQ trivial (hA:=bD [1,2,3,4,5,6,7,0,10])
  refine cp [999] _ (h:=fb ?_);intro eQ;refine aF ?_ iR;refine ed 6 ?_;refine cp [999] _ (h:=bp (λI hw=>U2 i.op (bS s i.a).has mr.has I) ?_);rintro v bx bc rfl cu;refine aF ?_ λ_ h=>(h.last rfl).tail;refine ed 11 ?_;refine cp [12,14] _ (h:=bp (λI hw=>DL (bS s i.a).on mr.on I) ?_);rintro v ck bY rfl eZ;refine aF (aN ?_) λ_ h=>(h.last rfl).tail;refine jA (v:=.agg (e5 (c9 ⟨pO i.op (bS s i.a).has mr.has,(bS s i.a).on||| mr.on⟩)).toArray) (h:=?_) (ab:=?_)
  ·exact Gy (hp:=.cons (b3 rfl) (H8 _) (.cons (b3 rfl) rfl .nil))
  refine aN ?_;refine gw (h:=bK 0 (h1:=.cons (qG _) (.cons rfl (.cons rfl (.cons rfl (.cons rfl .nil))))) (ab:=?_));exact b6 eQ trivial (hA:=bD [1,2,3,4,5,6,7,0,10])
 rintro eQ _;refine af ?_;refine ih (λx:eO=>x=jF s i) (λ_=>[(6,true,av eQ),(3,true,av bi),(0,true,av aU)]) (λx=>Mem [(w,bJ (cP aU t ah ad ao bI ak ahead q s false))] [.box aU (gK t ah ad ao bI ak ⟨q.aE,q.aI,q.bv,q.aG,q.aR,q.ax⟩ s.bh ahead false) 85,.own q.aE 165 5 e5 ((s.ag).map c9),.own q.aI 138 6 ef (s.J),.own q.bv 140 3 fE (s.bars),.own q.aG 178 2 bB (s.addr),.own q.aR 178 2 bB (s.data),.own q.ax 178 2 bB (s.dF),.box eQ (e5 (c9 x)) 165,.box bi (cL i) 169]) ?_ ?_
 ·refine bC (λh1=>?_) λh1=>?_
  ·rw[aoo,an,an]at h1;refine af ?_;refine dh (wD (b3 rfl)) (ab:=af ?_);refine c7 7 ?_;exact b6 (⟨.num 0,(bS s i.a).on||| mr.on⟩:eO) (by rw[FK];unfold jF;dsimp only;rw[aou h1])
  rw[aoC,au,au]at h1;refine af ?_;exact b6 (⟨pO i.op (bS s i.a).has mr.has,(bS s i.a).on||| mr.on⟩:eO) (by rw[FK];unfold jF;dsimp only;rw[aot (show ¬(i.op=9/\i.a=i.b)from λq=>h1.elim (λz=>z q.1) λz=>z q.2)])
 rintro x rfl;refine af ?_;refine aq (eB (es:=cP aU t ah ad ao bI ak ahead q s false) (H:=[.box eQ (e5 (c9 (jF s i))) 165,.box bi (cL i) 169]) (bb:=λI hw=>MB aU t ah ad ao bI ak ahead q s false i.d (jF s i) I ba hd hw.dt.ew) (ab:=?_));rintro r bx es bc ⟨rfl,rfl⟩;refine af ?_;exact qV rfl .nil aP (cP aU t ah ad ao bI ak ahead q {s with ag:=gP t.aC s.ag i.d (jF s i)} false) [0,1,2,3,4,5,6] rfl (by decide) λI hw=>⟨rfl,rfl⟩
end Go.Proofs.bA
namespace Go.b9
open Go Go.RowKit
section
variable {P:Program} {N:Nat} {tm:dY} {A:World->Prop} {c:Bool}
theorem af8{aX:Type}{S:Nat->Prop}{B:World}{enc:aX->List Value}{sz t e b:Nat}{z v:Value}{mK nh:IntKind}{l h:Nat}{xs:List aX}{x y VH:Operand}[aJ:fD P t e][cF:dn P e sz b z] (hx:bt tm c x v) (aY:bt tm c y (.int mK (l:Int))) (J8:bt tm c VH (.int nh (h:Int))) (aj:aZ S B enc sz v xs) (hb:l<=h/\h<=xs.length):bW P N (.slice t x (some y) (some VH) none) tm A c (gU sz l h v):=by unfold bW;intro ai a w _ _ _ _ _ cy hw;simp only[execOp,hx.get cy ai,aY.get cy ai,J8.get cy ai,Option.map];obtain⟨dJ,m',cap,rfl,rfl,h1,h2,h3⟩:=aj.is;refine hX ?_;exact ag0 hb.1 (by omega)
end
end Go.b9
attribute [local irreducible] Go.wpList Go.Code.wp Go.bodyPost Go.Exit.then Go.Exit.inBlock Go.Calls
namespace Go.Proofs.bA
def oC(s:cg)(i:Instr):cg:={s with bh:=s.bh||| (bS s i.a).on||| (bS s i.b).on}
def VS(aU:Nat)(t:aV)(ah ad ao:Value)(bI:Int)(ak:Value)(ahead:Nat)(q:j0)(s:cg)(code:List Instr)(k cT:Nat):Nat->Value->List aB->World->Prop:=λ_ r es _=>es=cP aU t ah ad ao bI ak ahead q (oC s (code.getD k default)) false/\∃(ml:Int) (ok:Bool),r=.tuple #[.int .i64 ml,.bool ok]/\ (if(bS s (code.getD k default).a).has.oM||(bS s (code.getD k default).b).has.oM then ok=uR code (k+1) cT/\(ok=true->ml=(k:Int)+1)else ok=true/\ml=if sR (bS s (code.getD k default).a).has (bS s (code.getD k default).b).has then(cT:Int)else(k:Int)+1)
theorem Ko{code:List Instr}{k l:Nat}(aL:l<=code.length):uR code k l=true↔∀j,j<l-k->(code.getD (k+j) default).op=12:=by
 unfold uR;rw[HD];have bH:((code.take l).drop k).length=l-k:=by rw[apG,ao3];omega
 rw[bH];refine forall_congr' λj=>forall_congr' λae=>?_;rw[aop,aor,apW,apV,aou (by omega),aor]
theorem ai3(aU:Nat)(t:aV)(ah ad ao:Value)(bI:Int)(ak:Value)(ahead:Nat)(q:j0)(s:cg)(uo:Value)(code:List Instr)(k cT:Nat)(w:World)(ba:q.ok)(hk:k<code.length)(eA:code.length<=256)(pc:lC code (code.getD k default).label (k+1)=some cT)(ay:0<=(code.getD k default).a/\(code.getD k default).a<s.ag.length)(hb:0<=(code.getD k default).b/\(code.getD k default).b<s.ag.length) (hC:aZ (bJ (cP aU t ah ad ao bI ak ahead q s false)) w cL 8 uo code) (hw:Mem [] (cP aU t ah ad ao bI ak ahead q s false) w): eY prog 76 [av aU,uo,.int .i64 (k:Int)] (cP aU t ah ad ao bI ak ahead q s false) w (VS aU t ah ad ao bI ak ahead q s code k cT):=by
 obtain⟨cB,bz,fc,iB,kp,oi⟩:=ba;obtain⟨uI,sm,Fp,aak⟩:=wy.1 pc;have fP:=hC.aK;have ep:(s.ag.map c9).length=s.ag.length:=aoJ _;have oH:(s.ag.map c9).getD (code.getD k default).a.toNat default=c9 (bS s (code.getD k default).a):=wO (by omega);have gN:(s.ag.map c9).getD (code.getD k default).b.toNat default=c9 (bS s (code.getD k default).b):=wO (by omega);refine tk func76 ntmps76 rfl rfl hw ?_;refine cA (Mem [(w,bJ (cP aU t ah ad ao bI ak ahead q s false))] [.box aU (gK t ah ad ao bI ak ⟨q.aE,q.aI,q.bv,q.aG,q.aR,q.ax⟩ s.bh ahead false) 85,.own q.aE 165 5 e5 ((s.ag).map c9),.own q.aI 138 6 ef (s.J),.own q.bv 140 3 fE (s.bars),.own q.aG 178 2 bB (s.addr),.own q.aR 178 2 bB (s.data),.own q.ax 178 2 bB (s.dF)]) (λ_ h=>h) (af ?_);refine ei λbi=>?_;refine c7 0 ?_;refine bX (λl:Nat=>k+1<=l/\l<=cT) (λl=>[(9,true,.int .i64 l),(8,true,av bi),(2,true,.int .i64 (k:Int)),(1,true,uo),(0,true,av aU)]) (λ_=>Mem [(w,bJ (cP aU t ah ad ao bI ak ahead q s false))] [.box bi (cL (code.getD k default)) 169,.box aU (gK t ah ad ao bI ak ⟨q.aE,q.aI,q.bv,q.aG,q.aR,q.ax⟩ s.bh ahead false) 85,.own q.aE 165 5 e5 ((s.ag).map c9),.own q.aI 138 6 ef (s.J),.own q.bv 140 3 fE (s.bars),.own q.aG 178 2 bB (s.addr),.own q.aR 178 2 bB (s.data),.own q.ax 178 2 bB (s.dF)]) (λl=>cT-l) (k+1) ⟨aoL _,uI⟩ ?_
 rintro l ⟨sn,iy⟩;have Jl:l<code.length:=by omega
 refine af ?_;refine cz [0,1,2,3,4,5,6,7,8,9,10,11,12,13,14,15] mixed ?_;refine bQ ?_;refine dp (λh1=>?_) λh1=>?_
 ·have dq:l<cT:=by
   rcases ao6 l cT with q | q
   ·exact q
   exfalso;obtain rfl:l=cT:=by omega
   unfold ko at Fp;rw[aoo,aop,aop]at Fp;rw[aox,aoq,aoq,au,au]at h1;exact h1.elim (λz=>z Fp.1) λz=>z Fp.2
  refine af ?_;exact bm (l+1) ⟨by omega,by omega⟩ (by omega)
 have hle:l=cT:=by
  rcases ao6 l cT with q | q
  ·exfalso;have:=aak l sn q;unfold ko at this;rw[aoz,aos,aos,an,an]at h1;rw[aow h1.1,aow h1.2]at this;cases this
  omega
 subst hle;refine af ?_;refine ih (λ_:Nat×Nat=>True) (λz=>[(11,true,.pointer (some ⟨z.2,0,none⟩)),(10,true,.pointer (some ⟨z.1,0,none⟩)),(9,true,.int .i64 (l:Int)),(2,true,.int .i64 (k:Int)),(1,true,uo),(0,true,av aU)]) (λz=>Mem [(w,bJ (cP aU t ah ad ao bI ak ahead q s false))] [.box aU (gK t ah ad ao bI ak ⟨q.aE,q.aI,q.bv,q.aG,q.aR,q.ax⟩ s.bh ahead false) 85,.own q.aE 165 5 e5 ((s.ag).map c9),.own q.aI 138 6 ef (s.J),.own q.bv 140 3 fE (s.bars),.own q.aG 178 2 bB (s.addr),.own q.aR 178 2 bB (s.data),.own q.ax 178 2 bB (s.dF),.box z.2 (e5 (c9 (bS s (code.getD k default).b))) 165,.box z.1 (e5 (c9 (bS s (code.getD k default).a))) 165]) ?_ ?_
 ·refine cz [0,1,2,3,4,5,6,7,8,9,10,11,12,13,14,15,999] mixed ?_;refine bQ ?_;rw[oH,gN];refine mf 16 17 ?_ ?_
  ·refine cp [999] _ (h:=fb ?_);intro dT;refine aF ?_ iR;refine ed 17 ?_;refine cp [18,19] _ (h:=fb ?_);intro df;refine aF ?_ λ_ h=>h.tail.tail;refine bO _ (h:=bK 1 (h1:=.cons (qG _) (.cons rfl (.cons rfl (.cons rfl (.cons rfl .nil))))) (ab:=?_));refine aF ?_ (b4 [2,3,4,5,6,7,8,9]);refine gw (h:=bK 0 (h1:=.cons (qG _) (.cons rfl (.cons rfl (.cons rfl (.cons rfl .nil))))) (ab:=?_));exact b6 (dT,df) trivial (hA:=b4 [3,4,5,6,7,8,9,0,1])
  refine cp [999] _ (h:=fb ?_);intro df;refine aF ?_ iR;refine ed 16 ?_;refine cp [18,19] _ (h:=fb ?_);intro dT;refine aF ?_ λ_ h=>h.tail.tail;refine bO _ (h:=bK 0 (h1:=.cons (qG _) (.cons rfl (.cons rfl (.cons rfl (.cons rfl .nil))))) (ab:=?_));refine aF ?_ (b4 [2,3,4,5,6,7,8,9]);refine gw (h:=bK 1 (h1:=.cons (qG _) (.cons rfl (.cons rfl (.cons rfl (.cons rfl .nil))))) (ab:=?_));exact b6 (dT,df) trivial (hA:=b4 [3,4,5,6,7,8,9,1,0])
 rintro⟨dT,df⟩ _;dsimp only;refine af ?_;refine fw (Mem [(w,bJ (cP aU t ah ad ao bI ak ahead q s false))] [.box aU (gK t ah ad ao bI ak ⟨q.aE,q.aI,q.bv,q.aG,q.aR,q.ax⟩ s.bh ahead false) 85,.box df (e5 (c9 (bS s (code.getD k default).b))) 165,.box dT (e5 (c9 (bS s (code.getD k default).a))) 165]) [0,1,2,3,4,5,6,8,9,7,10,11,12,13] mixed (b4 [0,7,8]) ?_;refine bQ ?_;refine bO _ (h:=bp (λI hw=>DL s.bh (bS s (code.getD k default).a).on I) ?_);rintro v bx bc rfl cu;refine aF (aN ?_) (bD [0,7,8]);refine bO _ (h:=bp (λI hw=>DL (s.bh||| (bS s (code.getD k default).a).on) (bS s (code.getD k default).b).on I) ?_);rintro v ck bY rfl eZ;refine aF (aN ?_) (bD [0,7,8]);refine eP (λ_=>True) (h:=uC rfl tT ?_);refine aF (aN ?_) dz;refine bO _ (h:=bK 0 (ab:=?_));refine aF (aN ?_) dz;refine cA (Mem [(w,bJ (cP aU t ah ad ao bI ak ahead q s false))] [.box aU (gK t ah ad ao bI ak ⟨q.aE,q.aI,q.bv,q.aG,q.aR,q.ax⟩ (s.bh||| (bS s (code.getD k default).a).on||| (bS s (code.getD k default).b).on) ahead false) 85,.own q.aE 165 5 e5 ((s.ag).map c9),.own q.aI 138 6 ef (s.J),.own q.bv 140 3 fE (s.bars),.own q.aG 178 2 bB (s.addr),.own q.aR 178 2 bB (s.data),.own q.ax 178 2 bB (s.dF),.box df (e5 (c9 (bS s (code.getD k default).b))) 165,.box dT (e5 (c9 (bS s (code.getD k default).a))) 165]) cv (af ?_);refine aq (YW (bS s (code.getD k default).a).has (b3 rfl) rfl ?_);refine af ?_;refine e1 (h:=Y3 (bS s (code.getD k default).b).has ⟨_,rfl,λh=>h⟩) (ab:=af ?_);refine bC (λh2=>?_) λh2=>?_
 ·refine af ?_;refine dh (af8 (l:=k+1) (h:=l) (xs:=code) (enc:=cL) (b3 rfl) (b3 rfl) (b3 rfl) hC ⟨by omega,by omega⟩) (ab:=?_);have cG:=hC.sub (k+1) l (by omega) (by omega);have ak1:((code.take l).drop (k+1)).length=l-(k+1):=by rw[apG,ao3];omega
  refine af ?_;refine bX (λj:Nat=>j<=l-(k+1)/\∀p,p<j->(code.getD (k+1+p) default).op=12) (λj=>[(81,true,.int .i64 j),(80,true,.int .i64 ((code.take l).drop (k+1)).length),(79,true,gU 8 (k+1) l uo),(2,true,.int .i64 (k:Int))]) (λ_=>Mem [(w,bJ (cP aU t ah ad ao bI ak ahead q s false))] [.box aU (gK t ah ad ao bI ak ⟨q.aE,q.aI,q.bv,q.aG,q.aR,q.ax⟩ (s.bh||| (bS s (code.getD k default).a).on||| (bS s (code.getD k default).b).on) ahead false) 85,.own q.aE 165 5 e5 ((s.ag).map c9),.own q.aI 138 6 ef (s.J),.own q.bv 140 3 fE (s.bars),.own q.aG 178 2 bB (s.addr),.own q.aR 178 2 bB (s.data),.own q.ax 178 2 bB (s.dF)]) (λj=>l-j) 0 ⟨aoD _,λp hp=>by omega⟩ ?_ ⟨rfl,rfl,rfl,rfl,trivial⟩ (b4 [0,1,2,3,4,5,6])
  rintro j ⟨ae,bG⟩;refine dp (λh3=>?_) λh3=>?_
  ·have dE:j<((code.take l).drop (k+1)).length:=by rw[an]at h3;omega
   have az:((code.take l).drop (k+1)).getD j default=code.getD (k+1+j) default:=by rw[aor,apW,apV,aou (by omega),aor]
   refine af ?_;refine ei λfy=>?_;refine c7 0 ?_;refine bC (λaA=>?_) λaA=>?_
   ·rw[aoq,au]at aA;have aA:¬(((code.take l).drop (k+1)).getD j default).op=12:=aA;rw[az]at aA;refine af ?_;refine eL rfl (.tmp rfl (.t1 rfl)) (cP aU t ah ad ao bI ak ahead q (oC s (code.getD k default)) false) [1,2,3,4,5,6,7] λI hw=>⟨rfl,0,false,rfl,?_⟩;rw[aou h2];refine⟨?_,λz=>by cases z⟩;cases a1:uR code (k+1) l with
    | false=>rfl
    | true=>exact absurd ((Ko (by omega)).1 a1 j (by omega)) aA
   rw[aos,an]at aA;have aA:(((code.take l).drop (k+1)).getD j default).op=12:=aA;rw[az]at aA;refine af ?_;exact bm (j+1) ⟨by omega,λp hp=>by
    by_cases e:p<j
    ·exact bG p e
    rw[show p=j by omega];exact aA⟩ (by omega) ⟨rfl,rfl,rfl,rfl,trivial⟩ (b4 [1,2,3,4,5,6,7])
  have dE:j=l-(k+1):=by rw[au]at h3;omega
  refine af ?_;refine eL rfl (.tmp rfl (.t1 rfl)) (cP aU t ah ad ao bI ak ahead q (oC s (code.getD k default)) false) [0,1,2,3,4,5,6] λI hw=>⟨rfl,(k:Int)+1,true,rfl,?_⟩;rw[aou h2];exact⟨((Ko (by omega)).2 λp hp=>bG p (by omega)).symm,λ_=>rfl⟩
 refine af ?_;refine aq (bp (λI hw=>ajf (bS s (code.getD k default).a).has (bS s (code.getD k default).b).has I) ?_);rintro v hj fW rfl nG;refine dp (λa6=>?_) λa6=>?_
 ·refine af ?_;refine eL rfl (.tmp rfl (.t1 rfl)) (cP aU t ah ad ao bI ak ahead q (oC s (code.getD k default)) false) [0,1,2,3,4,5,6] λI hw=>⟨rfl,(l:Int),true,rfl,?_⟩;rw[aot (by rw[h2];simp),aou a6];exact⟨rfl,rfl⟩
 refine af ?_;refine eL rfl (.tmp rfl (.t1 rfl)) (cP aU t ah ad ao bI ak ahead q (oC s (code.getD k default)) false) [0,1,2,3,4,5,6] λI hw=>⟨rfl,(k:Int)+1,true,rfl,?_⟩;rw[aot (by rw[h2];simp),aot (by rw[a6];simp)];exact⟨rfl,rfl⟩
theorem SU(i:Nat):hV 0#64 i=[]:=by unfold hV my;rw[show(List.range 64).filter (λi=>(0#64:BitVec 64).getLsbD i)=[]from by simp];rfl
section
variable {cx:fg} {s:cg} {k:Nat} {loc:ByteArray} {on:BitVec 64}
theorem Hk{x:eO}(h:(hz x.has).2=false):kJ cx s k loc on x=.ho:=by unfold kJ;cases hx:x.has<;>rw[hx]at h<;>first | (cases h;done) | rfl
theorem Hl{x:eO}(h:(hz x.has).2=true)(fK:64<=cx.ahead+s.J.length):kJ cx s k loc on x=.full:=by unfold kJ sf;rw[sC h];dsimp only;rw[aow fK,aou rfl]
theorem Hm{x:eO}(h:(hz x.has).2=true)(fK:¬64<=cx.ahead+s.J.length):kJ cx s k loc on x=.go (zE cx.aO cx.aH s (k:Int) loc on (hz x.has).1 x.on) (k+1):=by unfold kJ sf;rw[sC h];dsimp only;rw[aoE fK,aot (by simp)];rfl
theorem LC{d:Int}(fK:64<=cx.ahead+s.J.length):mm cx s k loc on d=.full:=by unfold mm sf;rw[aow fK,aou rfl]
theorem LD{d:Int}(fK:¬64<=cx.ahead+s.J.length):mm cx s k loc on d=.go (zt cx.aC cx.aO cx.aH s (k:Int) loc on d) (k+1):=by unfold mm sf;rw[aoE fK,aot (by simp)];unfold sb zt yo;rw[SU,aoH]
end
section
variable {cx:fg} {dd:cg}
theorem Ty(C:l1 cx)(h0:gH cx dd 0){s:cg}{k:Nat}(h:Rd cx dd s k):∃n,cx.code.length<=n+k/\iQ cx cx.code.length dd 0=iQ cx n s k:=by
 induction h with
 | zero=>exact⟨cx.code.length,by omega,rfl⟩
 | step aM hk az bP=>
  obtain⟨n,h1,h2⟩:=bP;cases n with
  | zero=>omega
  | succ n=>
   have dq:=(wU C (aM.ok C h0) hk az).1;refine⟨n,by omega,?_⟩;rw[h2];conv=>lhs;unfold iQ
   rw[aou hk,az]
theorem DI(C:l1 cx)(h0:gH cx dd 0){s:cg}{k:Nat}(h:Rd cx dd s k)(hk:k<cx.code.length){r:oZ}(az:fR cx s k=r)(aM:∀s k,r≠.go s k):iQ cx cx.code.length dd 0=r:=by
 obtain⟨n,h1,h2⟩:=Ty C h0 h;cases n with
 | zero=>omega
 | succ n=>
  rw[h2];unfold iQ;rw[aou hk,az];cases r with
  | go s k=>exact absurd rfl (aM s k)
  | _=>rfl
theorem TY(C:l1 cx)(h0:gH cx dd 0){s:cg}{k:Nat}(h:Rd cx dd s k)(hk:cx.code.length<=k):iQ cx cx.code.length dd 0=.go s k:=by
 obtain⟨n,h1,h2⟩:=Ty C h0 h;rw[h2];cases n with
 | zero=>rfl
 | succ n=>unfold iQ;rw[aot (by omega)]
end
def Wa(cx:fg)(s:cg)(k:Nat)(z:j0×cg×Bool×Bool×Int):Prop:=
 z.1.ok/\((fR cx s k=.ho/\z.2.2.2.1=false)\/(fR cx s k=.full/\z.2.2.1=true/\z.2.2.2.1=true/\z.2.2.2.2=(k:Int)+1)\/ ∃oN:Nat,fR cx s k=.go z.2.1 oN/\z.2.2.1=false/\z.2.2.2.1=true/\z.2.2.2.2=(oN:Int))
section
variable {cx:fg} {s:cg} {k:Nat}
theorem st1(h:(cx.code.getD k default).op=1):fR cx s k=kJ cx s k (cx.code.getD k default).loc 0#64 ⟨.num (cx.code.getD k default).c3,0#64⟩:=by unfold fR;dsimp only;rw[aou h]
theorem st2(h:(cx.code.getD k default).op=2):fR cx s k=kJ cx s k (cx.code.getD k default).loc 0#64 (bS s (cx.code.getD k default).a):=by unfold fR;dsimp only;rw[aot (by omega),aou h]
theorem Mj(h:(cx.code.getD k default).op=3):fR cx s k=mm cx s k (cx.code.getD k default).loc 0#64 (cx.code.getD k default).d:=by unfold fR;dsimp only;rw[aot (by omega),aot (by omega),aou h]
theorem UA(h:(cx.code.getD k default).op=4):fR cx s k=.go {s with ag:=gP cx.aC s.ag (cx.code.getD k default).d ⟨.num (cx.code.getD k default).c3,0#64⟩} (k+1):=by unfold fR;dsimp only;rw[aot (by omega),aot (by omega),aot (by omega),aou h]
theorem UB(h:(cx.code.getD k default).op=5):fR cx s k=.go {s with bars:=s.bars++[⟨cx.aH,(k:Int),1⟩]} (k+1):=by unfold fR;dsimp only;rw[aot (by omega),aot (by omega),aot (by omega),aot (by omega),aou h]
theorem Mk(h:(cx.code.getD k default).op=6)(ay:(jL (bS s (cx.code.getD k default).a).has).2=true):fR cx s k=mm cx s k (jL (bS s (cx.code.getD k default).a).has).1 (bS s (cx.code.getD k default).a).on (cx.code.getD k default).d:=by unfold fR;dsimp only;rw[aot (by omega),aot (by omega),aot (by omega),aot (by omega),aot (by omega),aou h];cases hx:(bS s (cx.code.getD k default).a).has<;>rw[hx]at ay<;>first | (cases ay;done) | rfl
theorem UC(h:(cx.code.getD k default).op=6)(ay:(jL (bS s (cx.code.getD k default).a).has).2=false):fR cx s k=.ho:=by unfold fR;dsimp only;rw[aot (by omega),aot (by omega),aot (by omega),aot (by omega),aot (by omega),aou h];cases hx:(bS s (cx.code.getD k default).a).has<;>rw[hx]at ay<;>first | (cases ay;done) | rfl
theorem G3(h:(cx.code.getD k default).op=7)(ay:(jL (bS s (cx.code.getD k default).a).has).2=true):fR cx s k=kJ cx s k (jL (bS s (cx.code.getD k default).a).has).1 (bS s (cx.code.getD k default).a).on (bS s (cx.code.getD k default).b):=by unfold fR;dsimp only;rw[aot (by omega),aot (by omega),aot (by omega),aot (by omega),aot (by omega),aot (by omega),aou h];cases hx:(bS s (cx.code.getD k default).a).has<;>rw[hx]at ay<;>first | (cases ay;done) | rfl
theorem UD(h:(cx.code.getD k default).op=7)(ay:(jL (bS s (cx.code.getD k default).a).has).2=false):fR cx s k=.ho:=by unfold fR;dsimp only;rw[aot (by omega),aot (by omega),aot (by omega),aot (by omega),aot (by omega),aot (by omega),aou h];cases hx:(bS s (cx.code.getD k default).a).has<;>rw[hx]at ay<;>first | (cases ay;done) | rfl
theorem DO(h:(cx.code.getD k default).op=8\/(cx.code.getD k default).op=9\/(cx.code.getD k default).op=10):fR cx s k=.go {s with ag:=gP cx.aC s.ag (cx.code.getD k default).d (jF s (cx.code.getD k default))} (k+1):=by unfold fR;dsimp only;rw[aot (by omega),aot (by omega),aot (by omega),aot (by omega),aot (by omega),aot (by omega),aot (by omega),aou h]
theorem G2(h:(cx.code.getD k default).op=11):fR cx s k=qD cx s k:=by unfold fR;dsimp only;rw[aot (by omega),aot (by omega),aot (by omega),aot (by omega),aot (by omega),aot (by omega),aot (by omega),aot (by omega),aou h]
theorem Uz(h:(cx.code.getD k default).op=13):fR cx s k=.go {s with bars:=s.bars++[⟨cx.aH,(k:Int),(cx.code.getD k default).dA⟩]} (k+1):=by unfold fR;dsimp only;rw[aot (by omega),aot (by omega),aot (by omega),aot (by omega),aot (by omega),aot (by omega),aot (by omega),aot (by omega),aot (by omega),aou h]
theorem UE(h:∀n:Int,n=1\/n=2\/n=3\/n=4\/n=5\/n=6\/n=7\/n=8\/n=9\/n=10\/n=11\/n=13->¬(cx.code.getD k default).op=n):fR cx s k=.go s (k+1):=by unfold fR;dsimp only;rw[aot (h 1 (by decide)),aot (h 2 (by decide)),aot (h 3 (by decide)),aot (h 4 (by decide)),aot (h 5 (by decide)),aot (h 6 (by decide)),aot (h 7 (by decide)),aot λq=>q.elim (h 8 (by decide)) λq=>q.elim (h 9 (by decide)) (h 10 (by decide)),aot (h 11 (by decide)),aot (h 13 (by decide))]
end
theorem N4{cx:fg}{s:cg}{k:Nat}{ml:Int}{ok:Bool} (h:if(bS s (cx.code.getD k default).a).has.oM||(bS s (cx.code.getD k default).b).has.oM then ok=uR cx.code (k+1) (nJ cx.code k)/\(ok=true->ml=(k:Int)+1)else ok=true/\ml=if sR (bS s (cx.code.getD k default).a).has (bS s (cx.code.getD k default).b).has then((nJ cx.code k:Nat):Int)else(k:Int)+1): (qD cx s k=.ho/\ok=false)\/∃oN:Nat,qD cx s k=.go (oC s (cx.code.getD k default)) oN/\ok=true/\ml=(oN:Int):=by
 unfold qD;dsimp only;split at h
 ·rename_i bn;rw[aou bn];obtain⟨h1,h2⟩:=h;cases aL:uR cx.code (k+1) (nJ cx.code k)with
  | false=>rw[aL]at h1;exact .inl ⟨aot (by simp),h1⟩
  | true=>rw[aL]at h1;exact .inr ⟨k+1,by rw[aou rfl];rfl,h1,h2 h1⟩
 rename_i bn;rw[aot bn];obtain⟨h1,h2⟩:=h;split at h2
 ·rename_i hu;exact .inr ⟨nJ cx.code k,by rw[aou hu];rfl,h1,h2⟩
 rename_i hu;exact .inr ⟨k+1,by rw[aot hu];rfl,h1,h2⟩
end Go.Proofs.bA
