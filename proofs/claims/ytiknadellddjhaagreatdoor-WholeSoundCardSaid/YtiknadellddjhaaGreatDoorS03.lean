/- Lemmas for the law WholeSound. -/
import Derived.Test.YtiknadellddjhaaGreatDoorS02
set_option linter.all false
open Go.cc Go
namespace Go.cc
structure dY where
 loc:ByteArray
 n:Int
 deriving DecidableEq,Inhabited
def dm(v:dY):List Value:=[.string v.loc,.int .i64 v.n]
def BC:List Value->dY | [a,b]=>⟨AY a,iS b⟩ | _=>⟨ByteArray.empty,0⟩
structure Instr where
 op:Int
 d:Int
 a:Int
 b:Int
 cY:Int
 loc:ByteArray
 label:ByteArray
 dE:Int
 deriving DecidableEq,Inhabited
def cC(i:Instr):List Value:=[.int .i64 i.op,.int .i64 i.d,.int .i64 i.a,.int .i64 i.b,.int .i64 i.cY,.string i.loc,.string i.label,.int .i64 i.dE]
def WN:List Value->Instr | [a,b,c,d,e,f,g,h]=>⟨iS a,iS b,iS c,iS d,iS e,AY f,AY g,iS h⟩ | _=>default
structure l0 where
 aI:Int
 bq:Int
 loc:ByteArray
 value:dY
 deriving DecidableEq,Inhabited
def oO(x:l0):List Value:=[.int .i64 x.aI,.int .i64 x.bq,.string x.loc,.string x.value.loc,.int .i64 x.value.n]
inductive eU where
 | mk (kind:Int) (e3:cE) (value:Int) (kids:List eU)
def eU.kind:eU->Int | .mk k _ _ _=>k
def eU.e3:eU->cE | .mk _ t _ _=>t
def eU.value:eU->Int | .mk _ _ v _=>v
def eU.kids:eU->List eU | .mk _ _ _ l=>l
instance:Inhabited eU:=⟨.mk 0 default 0 []⟩
structure aM where
 az:Int
 name:ByteArray
 nF:ByteArray
 init:List l0
 code:List (List Instr)
 dD:Int
 node:eU
end Go.cc
namespace Go.bU
def a8:ByteArray:=ByteArray.empty
def mS(n:Int):Bool:=decide (0<=n)&&decide (n<15)
def nv(n:Int):Bool:=decide (0<=n)&&decide (n<32)
def rF(i:Instr):Instr:=
 if i.op=1 then⟨1,0,0,0,i.cY,i.loc,a8,0⟩else if i.op=2 then⟨2,0,i.a,0,0,i.loc,a8,0⟩
 else if i.op=3 then⟨3,i.d,0,0,0,i.loc,a8,0⟩else if i.op=4 then⟨4,i.d,0,0,i.cY,a8,a8,0⟩else⟨i.op,0,0,0,0,a8,a8,0⟩
def qG(i:Instr):Bool:=
 if i.op=1 then eC i.loc&&eJ i.cY else if i.op=2 then eC i.loc&&mS i.a
 else if i.op=3 then eC i.loc&&mS i.d else if i.op=4 then mS i.d&&eJ i.cY else decide (i.op=5)
def j7(i:Instr):Bool:=qG i&&decide (rF i=i)
def pP(i:Instr):Instr:=
 if i.op=6 then⟨6,i.d,i.a,0,0,a8,a8,0⟩else if i.op=7 then⟨7,0,i.a,i.b,0,a8,a8,0⟩
 else if i.op=8 then⟨8,i.d,i.a,0,i.cY,a8,a8,0⟩else if i.op=9\/i.op=10 then⟨i.op,i.d,i.a,i.b,0,a8,a8,0⟩
 else if i.op=11 then⟨11,0,i.a,i.b,0,a8,i.label,0⟩else if i.op=12 then⟨12,0,0,0,0,a8,i.label,0⟩
 else if i.op=13 then⟨13,0,0,0,0,a8,a8,i.dE⟩else⟨i.op,0,0,0,0,a8,a8,0⟩
def aoZ(i:Instr):Bool:=
 if i.op=6\/i.op=7\/i.op=9\/i.op=10 then true else if i.op=8 then decide (-2048<=i.cY)&&decide (i.cY<=2047)
 else if i.op=11\/i.op=12 then eC i.label else if i.op=13 then decide (2<=i.dE)&&decide (i.dE<=11)else false
def kG(i:Instr):Bool:=aoZ i&&decide (pP i=i)&&nv i.d&&nv i.a&&nv i.b
def mJ(az:Int)(i:Instr):Bool:=if az=1 then j7 i else kG i
def j8(s:ByteArray)(i:Instr):Bool:=decide (i.op=12)&&decide (i.label=s)
def k6(code:List Instr)(s:ByteArray)(k:Nat):Option Nat:=((List.range code.length).filter λj=>decide (k<=j)&&j8 s (code.getD j default)).head?
def kH(code:List Instr)(k:Nat):Bool:=
 if(code.getD k default).op=12 then k6 code (code.getD k default).label 0==some k
 else if(code.getD k default).op=11 then(k6 code (code.getD k default).label (k+1)).isSome else true
def mg(code:List Instr)(k:Nat):Int:=if(code.getD k default).op=11 then match k6 code (code.getD k default).label 0 with | some j=>(j:Int) | none=> -1 else -1
def lp(code:List Instr):Int:=if 256<code.length then 2 else if code.all kG then if(List.range code.length).all (kH code)then 0 else 93 else 91
def qD(code:List Instr):List Int:=(List.range code.length).map (mg code)
def q3(az:Int)(c:List Instr):Int:=if c.all (mJ az)then if az=2 then lp c else 0 else 91
def kS:List Int->Int | []=>0 | e::r=>if e=0 then kS r else e
def pW(t:aM):Int:=if t.code.length<1\/16<t.code.length then 2 else if t.code.any (λc=>decide (256<c.length))then 2 else kS (t.code.map (q3 t.az))
def lE(v:dY):Bool:=if v.loc=a8 then eJ v.n else eC v.loc&&decide (v.n=0)
def tu(t:aM)(x:l0):Bool:=
 if x.aI= -1 then eC x.loc&&decide (x.bq=0)&&decide (x.value.loc=a8)&&eJ x.value.n
 else decide (0<=x.aI)&&decide (x.aI<t.code.length)&&decide (x.loc=a8)&&(if t.az=2 then decide (1<=x.bq)&&decide (x.bq<32)else mS x.bq)&&lE x.value
def Lm(x y:l0):Bool:=decide (x.aI=y.aI)&&decide (x.bq=y.bq)&&decide (x.loc=y.loc)
def tr(t:aM)(i:Nat):Bool:=tu t (t.init.getD i default)&&(List.range i).all λk=>!Lm (t.init.getD i default) (t.init.getD k default)
def vH(t:aM):Int:=if 1024<t.init.length then 2 else if(List.range t.init.length).all (tr t)then 0 else 130
def k9(az:Int)(x:cE):Bool:=
 if x.aI= -1 then decide (x.bq=0)&&eC x.loc
 else decide (0<=x.aI)&&decide (x.aI<16)&&decide (0<=x.bq)&&decide (x.bq<if az=1 then 15 else 32)&&decide (x.loc=a8)
def vT(az:Int)(n:eU):Bool:=
 if n.kind=2 then n.kids.isEmpty&&k9 az n.e3&&eJ n.value
 else decide (n.e3=⟨0,0,a8⟩)&&decide (n.value=0)&& (if n.kind=1 then n.kids.isEmpty else if n.kind=3 then decide (n.kids.length=1)else decide (n.kind=4\/n.kind=5)&&decide (2<=n.kids.length))
mutual
def il(az:Int):eU->Nat->Nat->Nat×Int
 | .mk k x v l,met,deep=>if 1024<=met\/64<=deep then(met,2)else if vT az (.mk k x v l)then mV az l (met+1) (deep+1)else(met,80)
def mV(az:Int):List eU->Nat->Nat->Nat×Int
 | [],met,_=>(met,0)
 | n::r,met,deep=>if(il az n met deep).2=0 then mV az r (il az n met deep).1 deep else il az n met deep
end
def oL(az dD:Int)(n:eU):Int:=if az=1\/az=2 then if dD<1\/3<dD then 80 else(il az n 0 0).2 else 5
mutual
def jz:eU->List cE
 | .mk k x _ l=>(if k=2 then [x]else [])++pn l
def pn:List eU->List cE
 | []=>[]
 | n::r=>jz n++pn r
end
def h5(x:cE):List cE->List cE
 | []=>[x]
 | y::r=>if x=y then y::r else if iv x y then x::y::r else y::h5 x r
def fK(dD:Int)(n:eU):List cE:=if oL 2 dD n=0 then(jz n).foldl (λl x=>h5 x l) []else []
def sM(t:aM):Int:=if oL t.az t.dD t.node=0 then if(fK t.dD t.node).any (λx=>decide ((t.code.length:Int)<=x.aI))then 80 else 0 else oL t.az t.dD t.node
def kX(s:ByteArray):List ByteArray->List ByteArray
 | []=>[s]
 | y::r=>if s=y then y::r else if gT s y then s::y::r else y::kX s r
def qK(l:List ByteArray)(s:ByteArray):List ByteArray:=if s=a8 then l else kX s l
def mM(t:aM):List ByteArray:=t.init.flatMap (λx=>[x.loc,x.value.loc])++t.code.flatMap (λc=>c.map (·.loc))++(fK t.dD t.node).map (·.loc)
def b2(t:aM):List ByteArray:=(mM t).foldl qK []
def wi(lo:Nat)(s:ByteArray):Bool:=(List.range s.size).all λi=>decide (lo<=dM s i)&&decide (dM s i<=126)&&decide (dM s i≠34)
def qN(s:ByteArray):Bool:=decide (1<=s.size)&&decide (s.size<=1024)&&wi 33 s
def pX(s:ByteArray):Bool:=decide (s.size<=262144)&&wi 32 s&&(decide (s.size=0)||(decide (dM s 0≠32)&&decide (dM s (s.size-1)≠32)))
def pL(t:aM):Int:=
 if t.az=1\/t.az=2 then if qN t.name&&pX t.nF then
  kS [pW t,vH t,sM t,if 64<(b2 t).length then 2 else 0]else 130 else 5
inductive jK where
 | num (n:Int)
 | kb (s:ByteArray)
 | told (i:Nat)
 | hid
 deriving DecidableEq,Inhabited
structure eD where
 has:jK
 on:BitVec 64
 deriving Inhabited
def jK.ot:jK->Bool | .num _=>false | .kb _=>false | _=>true
structure fa where
 az:Int
 code:List Instr
 bb:List ByteArray
 aI:Int
 ahead:Nat
structure b6 where
 ah:List eD
 ba:BitVec 64
 J:List eL
 bars:List ny
 addr:List b5
 data:List b5
 dB:List b5
inductive oG where
 | go (s:b6) (at':Nat)
 | hg
 | full
def dp(l:List ByteArray)(s:ByteArray):Nat:=l.findIdx λx=>decide (x=s)
def l4(x:BitVec 64):List Nat:=(List.range 64).filter λi=>x.getLsbD i
def hS(x:BitVec 64)(i:Nat):List b5:=(l4 x).map λ(a:Nat)=>⟨(a:Int),(i:Int)⟩
def gJ(az:Int)(ah:List eD)(d:Int)(x:eD):List eD:=if az=2/\d=0 then ah else ah.set d.toNat x
def bJ(s:b6)(n:Int):eD:=s.ah.getD n.toNat default
def rQ(cx:fa)(s:b6)(k:Nat)(dir:Int)(loc:ByteArray)(val bq:Int)(on dat:BitVec 64):b6:={s with J:=s.J++[⟨cx.aI,(k:Int),dir,((dp cx.bb loc:Nat):Int),val,bq⟩],addr:=s.addr++hS on s.J.length,data:=s.data++hS dat s.J.length,dB:=s.dB++hS s.ba s.J.length}
def rU(cx:fa)(s:b6):Bool:=decide (64<=cx.ahead+s.J.length)
def kr(cx:fa)(s:b6)(k:Nat)(loc:ByteArray)(on:BitVec 64)(x:eD):oG:=
 match x.has with
 | .num n=>if rU cx s then .full else .go (rQ cx s k 2 loc n 0 on x.on) (k+1)
 | _=>.hg
def lT(cx:fa)(s:b6)(k:Nat)(loc:ByteArray)(on:BitVec 64)(d:Int):oG:=if rU cx s then .full else .go {rQ cx s k 1 loc 0 d on 0#64 with ah:=gJ cx.az s.ah d ⟨.told s.J.length,1#64<<<s.J.length⟩} (k+1)
def o7(op x y:Int):Int:=(if op=8 then BitVec.ofInt 32 x||| BitVec.ofInt 32 y else if op=9 then BitVec.ofInt 32 x ^^^ BitVec.ofInt 32 y else BitVec.ofInt 32 x+BitVec.ofInt 32 y).toInt
def pF(op:Int)(a b:jK):jK:=
 match a,b with
 | .num x,.num y=>.num (o7 op x y)
 | .num x,b=>if x=0 then b else .hid
 | a,.num y=>if y=0 then a else .hid
 | _,_=>.hid
def jt(s:b6)(i:Instr):eD:=
 let a:=bJ s i.a
 let b:=if i.op=8 then⟨.num i.cY,0#64⟩else bJ s i.b
 ⟨if i.op=9/\i.a=i.b then .num 0 else pF i.op a.has b.has,a.on||| b.on⟩
def sv:jK->jK->Bool
 | .num x,.num y=>!decide (x=y)
 | .kb x,.kb y=>!decide (x=y)
 | _,_=>true
def uq(code:List Instr)(k l:Nat):Bool:=((code.take l).drop k).all λi=>decide (i.op=12)
def np(code:List Instr)(k:Nat):Nat:=(k6 code (code.getD k default).label (k+1)).getD 0
def qp(cx:fa)(s:b6)(k:Nat):oG:=
 let i:=cx.code.getD k default
 let a:=bJ s i.a
 let b:=bJ s i.b
 let s':={s with ba:=s.ba||| a.on||| b.on}
 if a.has.ot||b.has.ot then if uq cx.code (k+1) (np cx.code k)then .go s' (k+1)else .hg
 else if sv a.has b.has then .go s' (np cx.code k)else .go s' (k+1)
def fJ(cx:fa)(s:b6)(k:Nat):oG:=
 let i:=cx.code.getD k default
 if i.op=1 then kr cx s k i.loc 0#64 ⟨.num i.cY,0#64⟩
 else if i.op=2 then kr cx s k i.loc 0#64 (bJ s i.a)
 else if i.op=3 then lT cx s k i.loc 0#64 i.d
 else if i.op=4 then .go {s with ah:=gJ cx.az s.ah i.d ⟨.num i.cY,0#64⟩} (k+1)
 else if i.op=5 then .go {s with bars:=s.bars++[⟨cx.aI,(k:Int),1⟩]} (k+1)
 else if i.op=6 then match(bJ s i.a).has with | .kb l=>lT cx s k l (bJ s i.a).on i.d | _=>.hg
 else if i.op=7 then match(bJ s i.a).has with | .kb l=>kr cx s k l (bJ s i.a).on (bJ s i.b) | _=>.hg
 else if i.op=8\/i.op=9\/i.op=10 then .go {s with ah:=gJ cx.az s.ah i.d (jt s i)} (k+1)
 else if i.op=11 then qp cx s k
 else if i.op=13 then .go {s with bars:=s.bars++[⟨cx.aI,(k:Int),i.dE⟩]} (k+1)
 else .go s (k+1)
def iE(cx:fa):Nat->b6->Nat->oG
 | 0,s,k=>.go s k
 | n+1,s,k=>if k<cx.code.length then match fJ cx s k with | .go s' cF=>iE cx n s' cF | r=>r else .go s k
def b3(az:Int):Nat:=if az=2 then 32 else 15
def oq(x:l0):eD:=⟨if x.value.loc=a8 then .num x.value.n else .kb x.value.loc,0#64⟩
def sn(t:aM)(k:Int):List eD:=t.init.foldl (λl x=>if x.aI=k then l.set x.bq.toNat (oq x)else l) (List.replicate (b3 t.az) ⟨.num 0,0#64⟩)
def ek(t:aM)(k:Nat)(ahead:Nat):fa:=⟨t.az,t.code.getD k default,b2 t,(k:Int),ahead⟩
def fg(t:aM)(k:Nat):b6:=⟨sn t k,0#64,[],[],[],[],[]⟩
def rz(t:aM)(k ahead:Nat):oG:=iE (ek t k ahead) (t.code.getD k default).length (fg t k) 0
def vd(first:Nat):jK->Option gG
 | .num n=>some ⟨1,n⟩
 | .told i=>some ⟨2,((first+i:Nat):Int)⟩
 | _=>none
def nc(first:Nat)(ah:List eD)(x:cE):Option gG:=vd first (ah.getD x.bq.toNat default).has
def nw(n:Nat)(p:b5):b5:=⟨(n:Int)+p.A,(n:Int)+p.B⟩
def kI(x y:b5):Bool:=decide (x.A<y.A)||(decide (x.A=y.A)&&decide (x.B<=y.B))
def h4(l:List b5)(n:Nat):List b5:=(l.map (nw n)).mergeSort kI
structure Acc where
 J:List eL
 bars:List ny
 addr:List b5
 data:List b5
 ba:List b5
 ends:List gG
inductive Vi where
 | ok (a:Acc)
 | bad (e:Int)
def rO(cw:List cE)(ends:List gG)(k:Nat)(first:Nat)(ah:List eD):List gG:=(List.range cw.length).map λi=>if(cw.getD i default).aI=(k:Int)then(nc first ah (cw.getD i default)).getD ⟨0,0⟩else ends.getD i default
def tT(cw:List cE)(k:Nat)(first:Nat)(ah:List eD):Bool:=cw.all λx=>!decide (x.aI=(k:Int))||(nc first ah x).isSome
def iT(t:aM)(cw:List cE):Nat->Vi
 | 0=>.ok ⟨[],[],[],[],[],List.replicate cw.length ⟨0,0⟩⟩
 | k+1=>match iT t cw k with
  | .bad e=>.bad e
  | .ok a=>match rz t k a.J.length with
   | .hg=>.bad 150
   | .full=>.bad 2
   | .go s _=>if tT cw k a.J.length s.ah then
    .ok ⟨a.J++s.J,a.bars++s.bars,a.addr++h4 s.addr a.J.length,a.data++h4 s.data a.J.length,a.ba++h4 s.dB a.J.length,rO cw a.ends k a.J.length s.ah⟩
    else .bad 150
def nR(t:aM):List Int:=t.init.foldl (λv x=>if x.aI= -1 then v.set (dp (b2 t) x.loc) x.value.n else v) (List.replicate (b2 t).length 0)
def xO(t:aM)(cw:List cE)(ends:List gG):List gG:=(List.range cw.length).map λi=>if(cw.getD i default).aI= -1 then⟨3,((dp (b2 t) (cw.getD i default).loc:Nat):Int)⟩else ends.getD i default
def bk(t:aM):List cE:=fK t.dD t.node
def du(t:aM):Int:=if pL t=0 then match iT t (bk t) t.code.length with | .ok _=>0 | .bad e=>e else pL t
def Rk:a1:=⟨[],[],[],[],[],[],[],[],[]⟩
def al(t:aM):a1:=if pL t=0 then match iT t (bk t) t.code.length with
 | .ok a=>⟨b2 t,nR t,a.J,a.bars,a.addr,a.data,a.ba,bk t,xO t (bk t) a.ends⟩
 | .bad _=>Rk else Rk
end Go.bU
namespace Go.cc
open Go Go.RowKit
def tx(r:Nat)(es:List MapEntry)(k:Nat):aA:=.gen [r] λw=>w.heap[r]?=some (.map es.toArray k)
theorem QS{r k:Nat}{es:List MapEntry}{w:World}(h:w.heap[r]?=some (.map es.toArray k)):(tx r es k).ok w:=λI cr=>(cr r (by simp)).trans h
theorem QR{r k:Nat}{es:List MapEntry}{w:World}(h:(tx r es k).ok w):w.heap[r]?=some (.map es.toArray k):=h w λ_ _=>rfl
theorem afo{P:Program}{w:World}{lO:TypeId}{x:Int}(hd:P.underlying lO=some (.int .i64))(e:Bool)(n:Nat):(Instr.checkKey e (n+1) lO (.int .i64 x)).run P w=.ok () w:=by unfold Instr.checkKey;simp only[Sem.run_bind,run_underlying hd,Result.andThen];rfl
theorem SY{P:Program}{w:World}{lO:TypeId}{x:Int}(hd:P.underlying lO=some (.int .i64))(e:Bool):(Instr.checkKey e 10000 lO (.int .i64 x)).run P w=.ok () w:=afo hd e 9999
theorem S0{P:Program}{w:World}{lO:TypeId}{k:Value}{l:List MapEntry}{a:Option (Nat×Value)}(hd:P.underlying lO=some (.int .i64))(h:Instr.findNow (.int .i64) k l 0=some a):(Instr.findKey lO k l).run P w=.ok a w:=by simp[Instr.findKey,run_underlying hd,Result.andThen,h]
theorem AN{P:Program}{w:World}{r:Nat}{es:Array MapEntry}{k:Nat}(hb:w.heap[r]?=some (.map es k)):(getObj r).run P w=.ok (.map es k) w:=by simp[getObj,Sem.run,hb]
theorem Le{P:Program}{w:World}{r:Nat}{es:Array MapEntry}{k:Nat}(o:Obj)(hb:w.heap[r]?=some (.map es k)):(setObj r o).run P w=.ok () {w with heap:=w.heap.setIfInBounds r o}:=by simp[setObj,Sem.run,hb]
theorem S2{P:Program}(t:TypeId)(w:World):(Instr.makeMap t none).run P w=.ok (.map (some w.heap.size)) (w.alloc (.map #[] 0)):=rfl
section
variable {P:Program} {N:Nat} {tm:dU} {bs:List dr} {H:List aA} {K:Act->World->Prop} {Q:Exit->Act->World->Prop} {A:World->Prop} {c:Bool}
theorem XH{d:Nat}{t:TypeId}(hd:Nat.blt d N=true:=by rfl) (ab:∀r,cL N K ((d,true,.map (some r))::tm) (Mem bs (tx r [] 0::H))):gq P N (.makeMap t none) (some d) Q tm (Mem bs H) K:=by
 unfold gq cL at *;intro a w ty pos cR g ag hw;unfold Oper.wp;have aH:(execOp a.eval ⟨some d,.makeMap t none,ty,pos,cR,g⟩).run P w=.ok (.value (.map (some w.heap.size))) (w.alloc (.map #[] 0)):=by simp only[execOp,Option.map_none,Sem.run_bind,S2,Result.andThen];rfl
 rw[aH];refine ab _ _ _ (by simpa using ag.put (anm.mp hd) true _) (hw.new rfl rfl rfl (by simp) (λk hk=>heap_alloc_old w _ hk) (QS (heap_alloc_new w _)) (λk hk=>?_) λk hk=>?_)
 ·simp only[tx,aA.cX,amv]at hk;subst hk;simp
 simp only[tx,aA.cX,amv]at hk;omega
theorem wS{t lO wO r k:Nat}{n:Int}{v:Value}{es:List MapEntry}{m x y:Operand}[aE:jg P t (.map lO wO)][hk:jg P lO (.int .i64)](i:Nat) (hi:H[i]?=some (tx r es k)) (hm:bo tm true m (.map (some r)):=by exact(bY rfl)) (hx:bo tm true x (.int .i64 n):=by exact(bY rfl)) (aR:bo tm true y v:=by exact(bY rfl)) (hf:Instr.findNow (.int .i64) (.int .i64 n) es 0=some none:=by rfl) (ab:cL N K tm (Mem bs (H.set i (tx r (es++[⟨.int .i64 n,v,k⟩]) (k+1))))):gq P N (.insert t m x y) none Q tm (Mem bs H) K:=by
 unfold gq cL at *;intro a w ty pos cR g ag hw;unfold Oper.wp;have hb:=QR (hw.own _ (amF hi));have eP:r<w.heap.size:=by
  rcases amY r w.heap.size with q | q
  ·exact q
  rw[anu q]at hb;cases hb
 have aH:(execOp a.eval ⟨none,.insert t m x y,ty,pos,cR,g⟩).run P w=.ok .skip {w with heap:=w.heap.setIfInBounds r (.map (es.toArray.push ⟨.int .i64 n,v,k⟩) (k+1))}:=by simp[execOp,hm.get ag rfl,hx.get ag rfl,aR.get ag rfl,Instr.mapUpdate,run_underlying aE.h,AN hb,SY hk.h,S0 hk.h hf,Le _ hb,Result.andThen]
 rw[aH];refine ab a _ ag (hw.rC hi rfl rfl rfl (by simp) (λj _ ad=>?_) (QS ?_) (λj ad=>?_) λj ad=>.inl ad)
 ·simp only[tx,aA.cX,amv]at ad;simp[Array.getElem?_setIfInBounds,show ¬r=j from λe=>ad e.symm]
 ·simp[eP]
 simp only[tx,aA.cX,amv]at ad;subst ad;simpa using eP
theorem aer{t lO wO r k j:Nat}{n:Int}{v:Value}{es:List MapEntry}{m x:Operand}[aE:jg P t (.map lO wO)][hk:jg P lO (.int .i64)] (hm:bo tm c m (.map (some r))) (hx:bo tm c x (.int .i64 n)) (hmem:tx r es k∈H) (hf:Instr.findNow (.int .i64) (.int .i64 n) es 0=some (some (j,v))):bR P N (.lookup t m x false) tm (Mem bs H) c v:=by unfold bR;intro ai a w d ty pos cR g cn hw;have hb:=QR (hw.own _ hmem);simp only[execOp,hm.get cn ai,hx.get cn ai];refine hG ?_;simp[Instr.lookup,run_underlying aE.h,AN hb,SY hk.h,S0 hk.h hf,Result.andThen]
theorem tA{x:Operand}{dI:Addr}(hx:bo tm c x (.pointer (some dI)):=by exact b7):bR P N (.nilCheck x) tm A c (.pointer (some dI)):=by unfold bR;intro ai a w d ty pos cR g cn hw;simp only[execOp,hx.get cn ai];simp
end
end Go.cc
