/- Lemmas for the law WholeComplete. -/
import Derived.Test.YtiknadellddjhaaGreatDoorC02
set_option linter.all false
open Go.Proofs.Tryz
set_option maxHeartbeats 1600000
open Go.b9 Go Go.bM
namespace Go.b9
structure eh where
 loc:ByteArray
 n:Int
 deriving DecidableEq,Inhabited
def dy(v:eh):List Value:=[.string v.loc,.int .i64 v.n]
def EB:List Value->eh | [a,b]=>⟨BD a,ja b⟩ | _=>⟨ByteArray.empty,0⟩
structure Instr where
 op:Int
 d:Int
 a:Int
 b:Int
 c3:Int
 loc:ByteArray
 label:ByteArray
 dA:Int
 deriving DecidableEq,Inhabited
def cL(i:Instr):List Value:=[.int .i64 i.op,.int .i64 i.d,.int .i64 i.a,.int .i64 i.b,.int .i64 i.c3,.string i.loc,.string i.label,.int .i64 i.dA]
def X0:List Value->Instr | [a,b,c,d,e,f,g,h]=>⟨ja a,ja b,ja c,ja d,ja e,BD f,BD g,ja h⟩ | _=>default
structure mu where
 aH:Int
 bo:Int
 loc:ByteArray
 value:eh
 deriving DecidableEq,Inhabited
def o6(x:mu):List Value:=[.int .i64 x.aH,.int .i64 x.bo,.string x.loc,.string x.value.loc,.int .i64 x.value.n]
inductive e3 where
 | mk (kind:Int) (e9:cK) (value:Int) (kids:List e3)
def e3.kind:e3->Int | .mk k _ _ _=>k
def e3.e9:e3->cK | .mk _ t _ _=>t
def e3.value:e3->Int | .mk _ _ v _=>v
def e3.kids:e3->List e3 | .mk _ _ _ l=>l
instance:Inhabited e3:=⟨.mk 0 default 0 []⟩
structure aV where
 aC:Int
 name:ByteArray
 nZ:ByteArray
 init:List mu
 code:List (List Instr)
 dH:Int
 node:e3
end Go.b9
attribute [local irreducible] Go.wpList Go.Code.wp Go.bodyPost Go.Exit.then Go.Exit.inBlock Go.Calls
namespace Go.bM
def bg:ByteArray:=ByteArray.empty
def nr(n:Int):Bool:=decide (0<=n)&&decide (n<15)
def nO(n:Int):Bool:=decide (0<=n)&&decide (n<32)
def rX(i:Instr):Instr:=
 if i.op=1 then⟨1,0,0,0,i.c3,i.loc,bg,0⟩else if i.op=2 then⟨2,0,i.a,0,0,i.loc,bg,0⟩
 else if i.op=3 then⟨3,i.d,0,0,0,i.loc,bg,0⟩else if i.op=4 then⟨4,i.d,0,0,i.c3,bg,bg,0⟩else⟨i.op,0,0,0,0,bg,bg,0⟩
def qW(i:Instr):Bool:=
 if i.op=1 then eE i.loc&&eF i.c3 else if i.op=2 then eE i.loc&&nr i.a
 else if i.op=3 then eE i.loc&&nr i.d else if i.op=4 then nr i.d&&eF i.c3 else decide (i.op=5)
def kn(i:Instr):Bool:=qW i&&decide (rX i=i)
def pV(i:Instr):Instr:=
 if i.op=6 then⟨6,i.d,i.a,0,0,bg,bg,0⟩else if i.op=7 then⟨7,0,i.a,i.b,0,bg,bg,0⟩
 else if i.op=8 then⟨8,i.d,i.a,0,i.c3,bg,bg,0⟩else if i.op=9\/i.op=10 then⟨i.op,i.d,i.a,i.b,0,bg,bg,0⟩
 else if i.op=11 then⟨11,0,i.a,i.b,0,bg,i.label,0⟩else if i.op=12 then⟨12,0,0,0,0,bg,i.label,0⟩
 else if i.op=13 then⟨13,0,0,0,0,bg,bg,i.dA⟩else⟨i.op,0,0,0,0,bg,bg,0⟩
def arh(i:Instr):Bool:=
 if i.op=6\/i.op=7\/i.op=9\/i.op=10 then true else if i.op=8 then decide (-2048<=i.c3)&&decide (i.c3<=2047)
 else if i.op=11\/i.op=12 then eE i.label else if i.op=13 then decide (2<=i.dA)&&decide (i.dA<=11)else false
def kW(i:Instr):Bool:=arh i&&decide (pV i=i)&&nO i.d&&nO i.a&&nO i.b
def ng(aC:Int)(i:Instr):Bool:=if aC=1 then kn i else kW i
def ko(s:ByteArray)(i:Instr):Bool:=decide (i.op=12)&&decide (i.label=s)
def lC(code:List Instr)(s:ByteArray)(k:Nat):Option Nat:=((List.range code.length).filter λj=>decide (k<=j)&&ko s (code.getD j default)).head?
def kX(code:List Instr)(k:Nat):Bool:=
 if(code.getD k default).op=12 then lC code (code.getD k default).label 0==some k
 else if(code.getD k default).op=11 then(lC code (code.getD k default).label (k+1)).isSome else true
def mM(code:List Instr)(k:Nat):Int:=if(code.getD k default).op=11 then match lC code (code.getD k default).label 0 with | some j=>(j:Int) | none=> -1 else -1
def lQ(code:List Instr):Int:=if 256<code.length then 2 else if code.all kW then if(List.range code.length).all (kX code)then 0 else 93 else 91
def qT(code:List Instr):List Int:=(List.range code.length).map (mM code)
def rq(aC:Int)(c:List Instr):Int:=if c.all (ng aC)then if aC=2 then lQ c else 0 else 91
def lf:List Int->Int | []=>0 | e::r=>if e=0 then lf r else e
def p2(t:aV):Int:=if t.code.length<1\/16<t.code.length then 2 else if t.code.any (λc=>decide (256<c.length))then 2 else lf (t.code.map (rq t.aC))
def lY(v:eh):Bool:=if v.loc=bg then eF v.n else eE v.loc&&decide (v.n=0)
def tN(t:aV)(x:mu):Bool:=
 if x.aH= -1 then eE x.loc&&decide (x.bo=0)&&decide (x.value.loc=bg)&&eF x.value.n
 else decide (0<=x.aH)&&decide (x.aH<t.code.length)&&decide (x.loc=bg)&&(if t.aC=2 then decide (1<=x.bo)&&decide (x.bo<32)else nr x.bo)&&lY x.value
def L9(x y:mu):Bool:=decide (x.aH=y.aH)&&decide (x.bo=y.bo)&&decide (x.loc=y.loc)
def tM(t:aV)(i:Nat):Bool:=tN t (t.init.getD i default)&&(List.range i).all λk=>!L9 (t.init.getD i default) (t.init.getD k default)
def wu(t:aV):Int:=if 1024<t.init.length then 2 else if(List.range t.init.length).all (tM t)then 0 else 130
def lG(aC:Int)(x:cK):Bool:=
 if x.aH= -1 then decide (x.bo=0)&&eE x.loc
 else decide (0<=x.aH)&&decide (x.aH<16)&&decide (0<=x.bo)&&decide (x.bo<if aC=1 then 15 else 32)&&decide (x.loc=bg)
def wF(aC:Int)(n:e3):Bool:=
 if n.kind=2 then n.kids.isEmpty&&lG aC n.e9&&eF n.value
 else decide (n.e9=⟨0,0,bg⟩)&&decide (n.value=0)&& (if n.kind=1 then n.kids.isEmpty else if n.kind=3 then decide (n.kids.length=1)else decide (n.kind=4\/n.kind=5)&&decide (2<=n.kids.length))
mutual
def iE(aC:Int):e3->Nat->Nat->Nat×Int
 | .mk k x v l,met,deep=>if 1024<=met\/64<=deep then(met,2)else if wF aC (.mk k x v l)then nv aC l (met+1) (deep+1)else(met,80)
def nv(aC:Int):List e3->Nat->Nat->Nat×Int
 | [],met,_=>(met,0)
 | n::r,met,deep=>if(iE aC n met deep).2=0 then nv aC r (iE aC n met deep).1 deep else iE aC n met deep
end
def o4(aC dH:Int)(n:e3):Int:=if aC=1\/aC=2 then if dH<1\/3<dH then 80 else(iE aC n 0 0).2 else 5
mutual
def jM:e3->List cK
 | .mk k x _ l=>(if k=2 then [x]else [])++pB l
def pB:List e3->List cK
 | []=>[]
 | n::r=>jM n++pB r
end
def ic(x:cK):List cK->List cK
 | []=>[x]
 | y::r=>if x=y then y::r else if h6 x y then x::y::r else y::ic x r
def fS(dH:Int)(n:e3):List cK:=if o4 2 dH n=0 then(jM n).foldl (λl x=>ic x l) []else []
def s6(t:aV):Int:=if o4 t.aC t.dH t.node=0 then if(fS t.dH t.node).any (λx=>decide ((t.code.length:Int)<=x.aH))then 80 else 0 else o4 t.aC t.dH t.node
def lj(s:ByteArray):List ByteArray->List ByteArray
 | []=>[s]
 | y::r=>if s=y then y::r else if fL s y then s::y::r else y::lj s r
def q1(l:List ByteArray)(s:ByteArray):List ByteArray:=if s=bg then l else lj s l
def ni(t:aV):List ByteArray:=t.init.flatMap (λx=>[x.loc,x.value.loc])++t.code.flatMap (λc=>c.map (·.loc))++(fS t.dH t.node).map (·.loc)
def cc(t:aV):List ByteArray:=(ni t).foldl q1 []
def wS(lo:Nat)(s:ByteArray):Bool:=(List.range s.size).all λi=>decide (lo<=dO s i)&&decide (dO s i<=126)&&decide (dO s i≠34)
def q6(s:ByteArray):Bool:=decide (1<=s.size)&&decide (s.size<=1024)&&wS 33 s
def p3(s:ByteArray):Bool:=decide (s.size<=262144)&&wS 32 s&&(decide (s.size=0)||(decide (dO s 0≠32)&&decide (dO s (s.size-1)≠32)))
def pT(t:aV):Int:=
 if t.aC=1\/t.aC=2 then if q6 t.name&&p3 t.nZ then
  lf [p2 t,wu t,s6 t,if 64<(cc t).length then 2 else 0]else 130 else 5
inductive jZ where
 | num (n:Int)
 | ks (s:ByteArray)
 | told (i:Nat)
 | hid
 deriving DecidableEq,Inhabited
structure eO where
 has:jZ
 on:BitVec 64
 deriving Inhabited
def jZ.oM:jZ->Bool | .num _=>false | .ks _=>false | _=>true
structure fg where
 aC:Int
 code:List Instr
 aO:List ByteArray
 aH:Int
 ahead:Nat
structure cg where
 ag:List eO
 bh:BitVec 64
 J:List eV
 bars:List nx
 addr:List ca
 data:List ca
 dF:List ca
inductive oZ where
 | go (s:cg) (at':Nat)
 | ho
 | full
def dr(l:List ByteArray)(s:ByteArray):Nat:=l.findIdx λx=>decide (x=s)
def my(x:BitVec 64):List Nat:=(List.range 64).filter λi=>x.getLsbD i
def hV(x:BitVec 64)(i:Nat):List ca:=(my x).map λ(a:Nat)=>⟨(a:Int),(i:Int)⟩
def gP(aC:Int)(ag:List eO)(d:Int)(x:eO):List eO:=if aC=2/\d=0 then ag else ag.set d.toNat x
def bS(s:cg)(n:Int):eO:=s.ag.getD n.toNat default
def sb(cx:fg)(s:cg)(k:Nat)(dir:Int)(loc:ByteArray)(val bo:Int)(on dat:BitVec 64):cg:={s with J:=s.J++[⟨cx.aH,(k:Int),dir,((dr cx.aO loc:Nat):Int),val,bo⟩],addr:=s.addr++hV on s.J.length,data:=s.data++hV dat s.J.length,dF:=s.dF++hV s.bh s.J.length}
def sf(cx:fg)(s:cg):Bool:=decide (64<=cx.ahead+s.J.length)
def kJ(cx:fg)(s:cg)(k:Nat)(loc:ByteArray)(on:BitVec 64)(x:eO):oZ:=
 match x.has with
 | .num n=>if sf cx s then .full else .go (sb cx s k 2 loc n 0 on x.on) (k+1)
 | _=>.ho
def mm(cx:fg)(s:cg)(k:Nat)(loc:ByteArray)(on:BitVec 64)(d:Int):oZ:=if sf cx s then .full else .go {sb cx s k 1 loc 0 d on 0#64 with ag:=gP cx.aC s.ag d ⟨.told s.J.length,1#64<<<s.J.length⟩} (k+1)
def pk(op x y:Int):Int:=(if op=8 then BitVec.ofInt 32 x||| BitVec.ofInt 32 y else if op=9 then BitVec.ofInt 32 x ^^^ BitVec.ofInt 32 y else BitVec.ofInt 32 x+BitVec.ofInt 32 y).toInt
def pO(op:Int)(a b:jZ):jZ:=
 match a,b with
 | .num x,.num y=>.num (pk op x y)
 | .num x,b=>if x=0 then b else .hid
 | a,.num y=>if y=0 then a else .hid
 | _,_=>.hid
def jF(s:cg)(i:Instr):eO:=
 let a:=bS s i.a
 let b:=if i.op=8 then⟨.num i.c3,0#64⟩else bS s i.b
 ⟨if i.op=9/\i.a=i.b then .num 0 else pO i.op a.has b.has,a.on||| b.on⟩
def sR:jZ->jZ->Bool
 | .num x,.num y=>!decide (x=y)
 | .ks x,.ks y=>!decide (x=y)
 | _,_=>true
def uR(code:List Instr)(k l:Nat):Bool:=((code.take l).drop k).all λi=>decide (i.op=12)
def nJ(code:List Instr)(k:Nat):Nat:=(lC code (code.getD k default).label (k+1)).getD 0
def qD(cx:fg)(s:cg)(k:Nat):oZ:=
 let i:=cx.code.getD k default
 let a:=bS s i.a
 let b:=bS s i.b
 let s':={s with bh:=s.bh||| a.on||| b.on}
 if a.has.oM||b.has.oM then if uR cx.code (k+1) (nJ cx.code k)then .go s' (k+1)else .ho
 else if sR a.has b.has then .go s' (nJ cx.code k)else .go s' (k+1)
def fR(cx:fg)(s:cg)(k:Nat):oZ:=
 let i:=cx.code.getD k default
 if i.op=1 then kJ cx s k i.loc 0#64 ⟨.num i.c3,0#64⟩
 else if i.op=2 then kJ cx s k i.loc 0#64 (bS s i.a)
 else if i.op=3 then mm cx s k i.loc 0#64 i.d
 else if i.op=4 then .go {s with ag:=gP cx.aC s.ag i.d ⟨.num i.c3,0#64⟩} (k+1)
 else if i.op=5 then .go {s with bars:=s.bars++[⟨cx.aH,(k:Int),1⟩]} (k+1)
 else if i.op=6 then match(bS s i.a).has with | .ks l=>mm cx s k l (bS s i.a).on i.d | _=>.ho
 else if i.op=7 then match(bS s i.a).has with | .ks l=>kJ cx s k l (bS s i.a).on (bS s i.b) | _=>.ho
 else if i.op=8\/i.op=9\/i.op=10 then .go {s with ag:=gP cx.aC s.ag i.d (jF s i)} (k+1)
 else if i.op=11 then qD cx s k
 else if i.op=13 then .go {s with bars:=s.bars++[⟨cx.aH,(k:Int),i.dA⟩]} (k+1)
 else .go s (k+1)
def iQ(cx:fg):Nat->cg->Nat->oZ
 | 0,s,k=>.go s k
 | n+1,s,k=>if k<cx.code.length then match fR cx s k with | .go s' c4=>iQ cx n s' c4 | r=>r else .go s k
def cn(aC:Int):Nat:=if aC=2 then 32 else 15
def oL(x:mu):eO:=⟨if x.value.loc=bg then .num x.value.n else .ks x.value.loc,0#64⟩
def sK(t:aV)(k:Int):List eO:=t.init.foldl (λl x=>if x.aH=k then l.set x.bo.toNat (oL x)else l) (List.replicate (cn t.aC) ⟨.num 0,0#64⟩)
def ez(t:aV)(k:Nat)(ahead:Nat):fg:=⟨t.aC,t.code.getD k default,cc t,(k:Int),ahead⟩
def fm(t:aV)(k:Nat):cg:=⟨sK t k,0#64,[],[],[],[],[]⟩
def rR(t:aV)(k ahead:Nat):oZ:=iQ (ez t k ahead) (t.code.getD k default).length (fm t k) 0
def vN(first:Nat):jZ->Option gl
 | .num n=>some ⟨1,n⟩
 | .told i=>some ⟨2,((first+i:Nat):Int)⟩
 | _=>none
def nC(first:Nat)(ag:List eO)(x:cK):Option gl:=vN first (ag.getD x.bo.toNat default).has
def nP(n:Nat)(p:ca):ca:=⟨(n:Int)+p.A,(n:Int)+p.B⟩
def kY(x y:ca):Bool:=decide (x.A<y.A)||(decide (x.A=y.A)&&decide (x.B<=y.B))
def h9(l:List ca)(n:Nat):List ca:=(l.map (nP n)).mergeSort kY
structure Acc where
 J:List eV
 bars:List nx
 addr:List ca
 data:List ca
 bh:List ca
 ends:List gl
inductive Wc where
 | ok (a:Acc)
 | bad (e:Int)
def r9(cf:List cK)(ends:List gl)(k:Nat)(first:Nat)(ag:List eO):List gl:=(List.range cf.length).map λi=>if(cf.getD i default).aH=(k:Int)then(nC first ag (cf.getD i default)).getD ⟨0,0⟩else ends.getD i default
def uw(cf:List cK)(k:Nat)(first:Nat)(ag:List eO):Bool:=cf.all λx=>!decide (x.aH=(k:Int))||(nC first ag x).isSome
def jb(t:aV)(cf:List cK):Nat->Wc
 | 0=>.ok ⟨[],[],[],[],[],List.replicate cf.length ⟨0,0⟩⟩
 | k+1=>match jb t cf k with
  | .bad e=>.bad e
  | .ok a=>match rR t k a.J.length with
   | .ho=>.bad 150
   | .full=>.bad 2
   | .go s _=>if uw cf k a.J.length s.ag then
    .ok ⟨a.J++s.J,a.bars++s.bars,a.addr++h9 s.addr a.J.length,a.data++h9 s.data a.J.length,a.bh++h9 s.dF a.J.length,r9 cf a.ends k a.J.length s.ag⟩
    else .bad 150
def od(t:aV):List Int:=t.init.foldl (λv x=>if x.aH= -1 then v.set (dr (cc t) x.loc) x.value.n else v) (List.replicate (cc t).length 0)
def yn(t:aV)(cf:List cK)(ends:List gl):List gl:=(List.range cf.length).map λi=>if(cf.getD i default).aH= -1 then⟨3,((dr (cc t) (cf.getD i default).loc:Nat):Int)⟩else ends.getD i default
def br(t:aV):List cK:=fS t.dH t.node
def dI(t:aV):Int:=if pT t=0 then match jb t (br t) t.code.length with | .ok _=>0 | .bad e=>e else pT t
def Sh:aW:=⟨[],[],[],[],[],[],[],[],[]⟩
def ar(t:aV):aW:=if pT t=0 then match jb t (br t) t.code.length with
 | .ok a=>⟨cc t,od t,a.J,a.bars,a.addr,a.data,a.bh,br t,yn t (br t) a.ends⟩
 | .bad _=>Sh else Sh
theorem A1{s:ByteArray}(h:s.size<1\/32<s.size\/kF (dO s 0)=false):eE s=false:=by
 by_cases aj:s.size=0
 ·simp[eE,aj]
 rcases h with h1 | h1 | h1
 ·omega
 ·simp[eE,show ¬s.size<=32 by omega]
 have:nV s 0=false:=by simp only[nV,h1,aqN,aqY,apy,aq1]
 rw[eE,hQ (i:=0) (by omega) this,apu]
theorem xc(s:ByteArray)(i:Nat):(!kF (dO s i)&&!(decide (48<=dO s i)&&decide (dO s i<=57))&&!bw ((dO s i:Int)=95))=!p1 s i:=by rw[show bw ((dO s i:Int)=95)=decide (dO s i=95) by rw[cd];exact ao7.2 (by omega)];unfold p1 yk;cases kF (dO s i)<;>cases decide (48<=dO s i)<;>cases decide (dO s i<=57)<;>cases decide (dO s i=95)<;>rfl
theorem A0{s:ByteArray}(h1:1<=s.size)(h2:s.size<=32)(h3:∀j,j<s.size->nV s j=true):eE s=true:=by simp only[eE,aoo,aop,fT];exact⟨⟨h1,h2⟩,h3⟩
theorem Eu{s:ByteArray}{i:Nat}:(!((bw ((97:Int)<=dO s i)&&bw ((dO s i:Int)<=122)||bw ((65:Int)<=dO s i)&&bw ((dO s i:Int)<=90))||bw (0<(i:Int))&&(bw ((48:Int)<=dO s i)&&bw ((dO s i:Int)<=57)||bw ((dO s i:Int)=95))))=!nV s i:=by refine aoI _ (aoR.2 ?_);simp only[nV,kF,yk,aox,aoo,aop,an];omega
theorem Bv{s:ByteArray}{i lo:Nat}:(bw ((dO s i:Int)<lo)||bw (126<(dO s i:Int))||bw ((dO s i:Int)=34))=!(decide (lo<=dO s i)&&decide (dO s i<=126)&&decide (dO s i≠34)):=by rw[aoR];simp only[aox,aoo,aoq,aoC,aoA,an];omega
theorem Me{s:ByteArray}{lo:Nat}:wS lo s=true↔∀i,i<s.size->(decide (lo<=dO s i)&&decide (dO s i<=126)&&decide (dO s i≠34))=true:=fT
theorem Mf{s:ByteArray}{i lo:Nat}(hi:i<s.size)(h:(decide (lo<=dO s i)&&decide (dO s i<=126)&&decide (dO s i≠34))=false):wS lo s=false:=hQ hi h
end Go.bM
namespace Go.Proofs.bA
theorem Ox(c:Nat)(w:World):bl prog 392 [.int .u8 c] w λ_ v _=>v=.bool (kF c):=by refine bZ func392 ntmps392 ?_;refine bT rfl (.t1 rfl) λI hw=>?_;refine aoI Value.bool (aoR.2 ?_);simp only[kF,aox,aoo,an,aop];omega
theorem XI(c:Nat)(w:World):bl prog 393 [.int .u8 c] w λ_ v _=>v=.bool (decide (48<=c)&&decide (c<=57)):=by refine bZ func393 ntmps393 ?_;refine bT rfl (.t1 rfl) λI hw=>?_;refine aoI Value.bool (aoR.2 ?_);simp only[kF,aox,aoo,an,aop];omega
theorem T7(c:Nat)(w:World):bl prog 360 [.int .u8 c] w λ_ v _=>v=.bool (kF c):=by refine bZ func360 ntmps360 ?_;refine bT rfl (.t1 rfl) λI hw=>?_;refine aoI Value.bool (aoR.2 ?_);simp only[kF,aox,aoo,an,aop];omega
theorem ahn(c:Nat)(w:World):bl prog 361 [.int .u8 c] w λ_ v _=>v=.bool (decide (48<=c)&&decide (c<=57)):=by refine bZ func361 ntmps361 ?_;refine bT rfl (.t1 rfl) λI hw=>?_;refine aoI Value.bool (aoR.2 ?_);simp only[kF,aox,aoo,an,aop];omega
theorem S3(c:Nat)(w:World):bl prog 402 [.int .u8 c] w λ_ v _=>v=.bool (kF c):=by refine bZ func402 ntmps402 ?_;refine bT rfl (.t1 rfl) λI hw=>?_;refine aoI Value.bool (aoR.2 ?_);simp only[kF,aox,aoo,an,aop];omega
theorem ae5(c:Nat)(w:World):bl prog 403 [.int .u8 c] w λ_ v _=>v=.bool (decide (48<=c)&&decide (c<=57)):=by refine bZ func403 ntmps403 ?_;refine bT rfl (.t1 rfl) λI hw=>?_;refine aoI Value.bool (aoR.2 ?_);simp only[kF,aox,aoo,an,aop];omega
theorem Tc(c:Nat)(w:World):bl prog 353 [.int .u8 c] w λ_ v _=>v=.bool (kF c):=by refine bZ func353 ntmps353 ?_;refine bT rfl (.t1 rfl) λI hw=>?_;refine aoI Value.bool (aoR.2 ?_);simp only[kF,aox,aoo,an,aop];omega
theorem ae8(c:Nat)(w:World):bl prog 354 [.int .u8 c] w λ_ v _=>v=.bool (decide (48<=c)&&decide (c<=57)):=by refine bZ func354 ntmps354 ?_;refine bT rfl (.t1 rfl) λI hw=>?_;refine aoI Value.bool (aoR.2 ?_);simp only[kF,aox,aoo,an,aop];omega
theorem Xw(s:ByteArray)(w:World):bl prog 362 [.string s] w λ_ v _=>v=.bool (eE s):=by
 refine bZ func362 ntmps362 ?_;refine e1 (h:=ev (bb:=λ_ I hw=>Ox _ I)) (ab:=U ?_);refine bC (λh1=>?_) λh1=>?_
 ·refine bf λI hw=>?_;simp only[aox,aoq,an]at h1;rw[A1 (by
   rcases h1 with(h1 | h1) | h1
   ·exact .inl (by omega)
   ·exact .inr (.inl (by omega))
   exact .inr (.inr h1))];rfl
 simp only[aoz,aos,au]at h1;refine U ?_;refine bX (λi:Nat=>0<=i/\i<=s.size/\∀j,j<i->p1 s j=true) (λi=>[(21,true,.int .i64 i),(20,true,.int .i64 s.size),(0,true,.string s)]) (λ_=>Mem [(w,al)] []) (λi=>s.size-i) 0 ⟨by omega,by omega,λj ae=>by omega⟩ ?_ ⟨rfl,rfl,rfl,trivial⟩ cv
 rintro i ⟨sk,hi,bG⟩;refine a8 (λh2=>?_) λh2=>?_
 ·have bq:i<s.size:=by rw[an]at h2;omega
  refine U ?_;refine aq (bp (λI hw=>Ox _ I) ?_);rintro v ck bY rfl eZ;refine U ?_;refine e1 (h:=ev (bb:=λ_ I hw=>XI _ I)) (ab:=U ?_);refine bC (λh3=>?_) λh3=>?_
  ·refine bf λI hw=>?_;have h3:=(xc s i).symm.trans h3;rw[aoq]at h3;rw[show eE s=false by simp[eE,hQ bq (Cd h3)]];rfl
  have h3:=(xc s i).symm.trans h3;rw[aos]at h3;refine U ?_;exact bm (i+1) ⟨by omega,by omega,jl bG h3⟩ (by omega) (hA:=cv)
 rw[au]at h2;refine bf λI hw=>?_;rw[A0 (by omega) (by omega) λj ae=>Cc h1.2 (bG j (by omega))];rfl
theorem L5(s:ByteArray)(w:World):bl prog 297 [.string s] w λ_ v _=>v=.bool (eE s):=by
 refine bZ func297 ntmps297 ?_;refine e1 (h:=ev (bb:=λ_ I hw=>T7 _ I)) (ab:=U ?_);refine bC (λh1=>?_) λh1=>?_
 ·refine bf λI hw=>?_;simp only[aox,aoq,an]at h1;rw[A1 (by
   rcases h1 with(h1 | h1) | h1
   ·exact .inl (by omega)
   ·exact .inr (.inl (by omega))
   exact .inr (.inr h1))];rfl
 simp only[aoz,aos,au]at h1;refine U ?_;refine bX (λi:Nat=>0<=i/\i<=s.size/\∀j,j<i->p1 s j=true) (λi=>[(21,true,.int .i64 i),(20,true,.int .i64 s.size),(0,true,.string s)]) (λ_=>Mem [(w,al)] []) (λi=>s.size-i) 0 ⟨by omega,by omega,λj ae=>by omega⟩ ?_ ⟨rfl,rfl,rfl,trivial⟩ cv
 rintro i ⟨sk,hi,bG⟩;refine a8 (λh2=>?_) λh2=>?_
 ·have bq:i<s.size:=by rw[an]at h2;omega
  refine U ?_;refine aq (bp (λI hw=>T7 _ I) ?_);rintro v ck bY rfl eZ;refine U ?_;refine e1 (h:=ev (bb:=λ_ I hw=>ahn _ I)) (ab:=U ?_);refine bC (λh3=>?_) λh3=>?_
  ·refine bf λI hw=>?_;have h3:=(xc s i).symm.trans h3;rw[aoq]at h3;rw[show eE s=false by simp[eE,hQ bq (Cd h3)]];rfl
  have h3:=(xc s i).symm.trans h3;rw[aos]at h3;refine U ?_;exact bm (i+1) ⟨by omega,by omega,jl bG h3⟩ (by omega) (hA:=cv)
 rw[au]at h2;refine bf λI hw=>?_;rw[A0 (by omega) (by omega) λj ae=>Cc h1.2 (bG j (by omega))];rfl
theorem aeZ(s:ByteArray)(w:World):bl prog 389 [.string s] w λ_ v _=>v=.bool (eE s):=by
 refine bZ func389 ntmps389 ?_;refine e1 (h:=ev (bb:=λ_ I hw=>S3 _ I)) (ab:=U ?_);refine bC (λh1=>?_) λh1=>?_
 ·refine bf λI hw=>?_;simp only[aox,aoq,an]at h1;rw[A1 (by
   rcases h1 with(h1 | h1) | h1
   ·exact .inl (by omega)
   ·exact .inr (.inl (by omega))
   exact .inr (.inr h1))];rfl
 simp only[aoz,aos,au]at h1;refine U ?_;refine bX (λi:Nat=>1<=i/\i<=s.size/\∀j,j<i->p1 s j=true) (λi=>[(3,true,.int .i64 i),(0,true,.string s)]) (λ_=>Mem [(w,al)] []) (λi=>s.size-i) 1 ⟨by omega,by omega,λj ae=>by(obtain rfl:j=0:=by omega);unfold p1;rw[show kF (dO s 0)=true from h1.2];rfl⟩ ?_ ⟨rfl,rfl,trivial⟩ cv
 rintro i ⟨sk,hi,bG⟩;refine a8 (λh2=>?_) λh2=>?_
 ·have bq:i<s.size:=by rw[an]at h2;omega
  refine U ?_;refine aq (bp (λI hw=>S3 _ I) ?_);rintro v ck bY rfl eZ;refine U ?_;refine e1 (h:=ev (bb:=λ_ I hw=>ae5 _ I)) (ab:=U ?_);refine bC (λh3=>?_) λh3=>?_
  ·refine bf λI hw=>?_;have h3:=(xc s i).symm.trans h3;rw[aoq]at h3;rw[show eE s=false by simp[eE,hQ bq (Cd h3)]];rfl
  have h3:=(xc s i).symm.trans h3;rw[aos]at h3;refine U ?_;exact bm (i+1) ⟨by omega,by omega,jl bG h3⟩ (by omega) (hA:=cv)
 rw[au]at h2;refine bf λI hw=>?_;rw[A0 (by omega) (by omega) λj ae=>Cc h1.2 (bG j (by omega))];rfl
theorem Tb(s:ByteArray)(w:World):bl prog 287 [.string s] w λ_ v _=>v=.bool (eE s):=by
 refine bZ func287 ntmps287 ?_;refine e1 (h:=ev (bb:=λ_ I hw=>Tc _ I)) (ab:=U ?_);refine bC (λh1=>?_) λh1=>?_
 ·refine bf λI hw=>?_;simp only[aox,aoq,an]at h1;rw[A1 (by
   rcases h1 with(h1 | h1) | h1
   ·exact .inl (by omega)
   ·exact .inr (.inl (by omega))
   exact .inr (.inr h1))];rfl
 simp only[aoz,aos,au]at h1;refine U ?_;refine bX (λi:Nat=>1<=i/\i<=s.size/\∀j,j<i->p1 s j=true) (λi=>[(3,true,.int .i64 i),(0,true,.string s)]) (λ_=>Mem [(w,al)] []) (λi=>s.size-i) 1 ⟨by omega,by omega,λj ae=>by(obtain rfl:j=0:=by omega);unfold p1;rw[show kF (dO s 0)=true from h1.2];rfl⟩ ?_ ⟨rfl,rfl,trivial⟩ cv
 rintro i ⟨sk,hi,bG⟩;refine a8 (λh2=>?_) λh2=>?_
 ·have bq:i<s.size:=by rw[an]at h2;omega
  refine U ?_;refine aq (bp (λI hw=>Tc _ I) ?_);rintro v ck bY rfl eZ;refine U ?_;refine e1 (h:=ev (bb:=λ_ I hw=>ae8 _ I)) (ab:=U ?_);refine bC (λh3=>?_) λh3=>?_
  ·refine bf λI hw=>?_;have h3:=(xc s i).symm.trans h3;rw[aoq]at h3;rw[show eE s=false by simp[eE,hQ bq (Cd h3)]];rfl
  have h3:=(xc s i).symm.trans h3;rw[aos]at h3;refine U ?_;exact bm (i+1) ⟨by omega,by omega,jl bG h3⟩ (by omega) (hA:=cv)
 rw[au]at h2;refine bf λI hw=>?_;rw[A0 (by omega) (by omega) λj ae=>Cc h1.2 (bG j (by omega))];rfl
theorem FT(s:ByteArray)(w:World):bl prog 221 [.string s] w λ_ v _=>v=.bool (eE s):=by
 refine bZ func221 ntmps221 ?_;refine bC (λh1=>?_) λh1=>?_
 ·refine bf λI hw=>?_;simp only[aox,an]at h1;rw[A1 (by omega)];rfl
 refine U ?_;simp only[aoz,au]at h1;refine bX (λi:Nat=>i<=s.size/\∀j,j<i->nV s j=true) (λs'=>[(3,true,.int .i64 s'),(0,true,.string s)]) (λ_=>Mem [(w,al)] []) (λi=>s.size-i) (0) ⟨by omega,λj ae=>by omega⟩ ?_ ⟨rfl,rfl,trivial⟩ cv
 rintro i ⟨hi,bG⟩;refine a8 (λh2=>?_) λh2=>?_
 ·have bq:i<s.size:=by rw[an]at h2;omega
  refine a8 (λh3=>?_) λh3=>?_
  ·refine bf λI hw=>?_;have h3:=Eu.symm.trans h3;rw[aoq]at h3;rw[show eE s=false by simp[eE,hQ bq h3]];rfl
  have h3:=Eu.symm.trans h3;rw[aos]at h3;refine U ?_;exact bm (i+1) ⟨by omega,jl bG h3⟩ (by omega) (hA:=cv)
 rw[au]at h2;refine bf λI hw=>?_;rw[A0 (by omega) (by omega) λj ae=>bG j (by omega)];rfl
theorem Pc(s:ByteArray)(w:World):bl prog 228 [.string s] w λ_ v _=>v=.bool (eE s):=by
 refine bZ func228 ntmps228 ?_;refine bC (λh1=>?_) λh1=>?_
 ·refine bf λI hw=>?_;simp only[aox,an]at h1;rw[A1 (by omega)];rfl
 refine U ?_;simp only[aoz,au]at h1;refine bX (λi:Nat=>i<=s.size/\∀j,j<i->nV s j=true) (λs'=>[(3,true,.int .i64 s'),(0,true,.string s)]) (λ_=>Mem [(w,al)] []) (λi=>s.size-i) (0) ⟨by omega,λj ae=>by omega⟩ ?_ ⟨rfl,rfl,trivial⟩ cv
 rintro i ⟨hi,bG⟩;refine a8 (λh2=>?_) λh2=>?_
 ·have bq:i<s.size:=by rw[an]at h2;omega
  refine a8 (λh3=>?_) λh3=>?_
  ·refine bf λI hw=>?_;have h3:=Eu.symm.trans h3;rw[aoq]at h3;rw[show eE s=false by simp[eE,hQ bq h3]];rfl
  have h3:=Eu.symm.trans h3;rw[aos]at h3;refine U ?_;exact bm (i+1) ⟨by omega,jl bG h3⟩ (by omega) (hA:=cv)
 rw[au]at h2;refine bf λI hw=>?_;rw[A0 (by omega) (by omega) λj ae=>bG j (by omega)];rfl
theorem Kf(n:Int)(w:World):bl prog 222 [.int .i64 n] w λ_ v _=>v=.bool (eF n):=by refine bZ func222 ntmps222 ?_;refine bT rfl (.t1 rfl) λI hw=>?_;simp only[eF,cd];rfl
theorem Pe(n:Int)(w:World):bl prog 229 [.int .i64 n] w λ_ v _=>v=.bool (eF n):=by refine bZ func229 ntmps229 ?_;refine bT rfl (.t1 rfl) λI hw=>?_;simp only[eF,cd];rfl
theorem Xy(n:Int)(w:World):bl prog 300 [.int .i64 n] w λ_ v _=>v=.bool (eF n):=by refine bZ func300 ntmps300 ?_;refine bT rfl (.t1 rfl) λI hw=>?_;simp only[eF,cd];rfl
theorem ae1(n:Int)(w:World):bl prog 352 [.int .i64 n] w λ_ v _=>v=.bool (eF n):=by refine bZ func352 ntmps352 ?_;refine bT rfl (.t1 rfl) λI hw=>?_;simp only[eF,cd];rfl
theorem Kg(n:Int)(w:World):bl prog 223 [.int .i64 n] w λ_ v _=>v=.bool (nr n):=by refine bZ func223 ntmps223 ?_;refine bT rfl (.t1 rfl) λI hw=>?_;simp only[nr,cd];rfl
theorem Lp(n:Int)(w:World):bl prog 348 [.int .i64 n] w λ_ v _=>v=.bool (nr n):=by refine bZ func348 ntmps348 ?_;refine bT rfl (.t1 rfl) λI hw=>?_;simp only[nr,cd];rfl
theorem L6(n:Int)(w:World):bl prog 225 [.int .i64 n] w λ_ v _=>v=.bool (nO n):=by refine bZ func225 ntmps225 ?_;refine bT rfl (.t1 rfl) λI hw=>?_;simp only[nO,cd];rfl
theorem Lq(n:Int)(w:World):bl prog 288 [.int .i64 n] w λ_ v _=>v=.bool (nO n):=by refine bZ func288 ntmps288 ?_;refine bT rfl (.t1 rfl) λI hw=>?_;refine aoI Value.bool (aoR.2 ?_);simp only[nO,aoo,an,aop];omega
theorem Xu(a:Int)(w:World):bl prog 140 [.int .i64 a] w λ_ v _=>v=.bool (decide (a=1\/a=2)):=by refine bZ func140 ntmps140 ?_;refine bT rfl (.t1 rfl) λI hw=>?_;refine aoI Value.bool (aoR.2 ?_);simp only[aox,an,aop]
theorem YE(a:Int)(w:World):bl prog 58 [.int .i64 a] w λ_ v _=>v=.bool (decide (a=1\/a=2)):=by refine bZ func58 ntmps58 ?_;refine bT rfl (.t1 rfl) λI hw=>?_;refine aoI Value.bool (aoR.2 ?_);simp only[aox,an,aop]
theorem aeW(a:Int)(w:World):bl prog 200 [.int .i64 a] w λ_ v _=>v=.bool (decide (a=1\/a=2)):=by refine bZ func200 ntmps200 ?_;refine bT rfl (.t1 rfl) λI hw=>?_;refine aoI Value.bool (aoR.2 ?_);simp only[aox,an,aop]
theorem aeV(a:Int)(w:World):bl prog 108 [.int .i64 a] w λ_ v _=>v=.bool (decide (a=1\/a=2)):=by refine bZ func108 ntmps108 ?_;refine bT rfl (.t1 rfl) λI hw=>?_;refine aoI Value.bool (aoR.2 ?_);simp only[aox,an,aop]
theorem Xz(a:Int)(w:World):bl prog 363 [.int .i64 a] w λ_ v _=>v=.int .i64 (if a=1 then 15 else 32):=by
 refine bZ func363 ntmps363 ?_;refine bC (λh1=>?_) λh1=>?_
 ·rw[an]at h1;refine bf λI hw=>?_;rw[aou h1];rfl
 rw[au]at h1;refine bf λI hw=>?_;rw[aot h1];rfl
theorem ae2(a:Int)(w:World):bl prog 390 [.int .i64 a] w λ_ v _=>v=.int .i64 (if a=1 then 15 else 32):=by
 refine bZ func390 ntmps390 ?_;refine bC (λh1=>?_) λh1=>?_
 ·rw[an]at h1;refine bf λI hw=>?_;rw[aou h1];rfl
 rw[au]at h1;refine bf λI hw=>?_;rw[aot h1];rfl
theorem Pf(s:ByteArray)(lo:Nat)(w:World)(aj:s.size<=9223372036854775807):bl prog 59 [.string s,.int .u8 lo] w λ_ v _=>v=.bool (wS lo s):=by
 refine bZ func59 ntmps59 ?_;refine bX (λi:Nat=>i<=s.size/\∀j,j<i->(decide (lo<=dO s j)&&decide (dO s j<=126)&&decide (dO s j≠34))=true) (λi=>[(5,true,.int .i64 i),(1,true,.int .u8 lo),(0,true,.string s)]) (λ_=>Mem [(w,al)] []) (λi=>s.size-i) 0 ⟨by omega,λj ae=>by omega⟩ ?_ ⟨rfl,rfl,rfl,trivial⟩ cv
 rintro i ⟨hi,bG⟩;refine a8 (λh1=>?_) λh1=>?_
 ·have bU:i<s.size:=by rw[an]at h1;omega
  refine a8 (λh2=>?_) λh2=>?_
  ·refine bf λI hw=>?_;have h2:=Bv.symm.trans h2;rw[aoq]at h2;rw[Mf bU h2];rfl
  have h2:=Bv.symm.trans h2;rw[aos]at h2;refine U ?_;exact bm (i+1) ⟨by omega,jl bG h2⟩ (by omega) (hA:=cv)
 rw[au]at h1;refine bf λI hw=>?_;rw[Me.2 λj ae=>bG j (by omega)];rfl
theorem aeU(s:ByteArray)(w:World):bl prog 109 [.string s] w λ_ v _=>v=.bool (q6 s):=by
 refine bZ func109 ntmps109 ?_;refine bC (λh1=>?_) λh1=>?_
 ·refine bf λI hw=>?_;simp only[aox,an]at h1;rw[show q6 s=false from by unfold q6;exact h1.elim (λq=>by rw[aoE (by omega)];rfl) λq=>by rw[aoE (p:=s.size<=1024) (by omega)];simp];rfl
 simp only[aoz,au]at h1;refine U ?_;refine bX (λi:Nat=>i<=s.size/\∀j,j<i->(decide (33<=dO s j)&&decide (dO s j<=126)&&decide (dO s j≠34))=true) (λi=>[(3,true,.int .i64 i),(0,true,.string s)]) (λ_=>Mem [(w,al)] []) (λi=>s.size-i) 0 ⟨by omega,λj ae=>by omega⟩ ?_ ⟨rfl,rfl,trivial⟩ cv
 rintro i ⟨hi,bG⟩;refine a8 (λh2=>?_) λh2=>?_
 ·have bq:i<s.size:=by rw[an]at h2;omega
  refine a8 (λh3=>?_) λh3=>?_
  ·refine bf λI hw=>?_;have h3:=(Bv (lo:=33)).symm.trans h3;rw[aoq]at h3;rw[show q6 s=false by unfold q6;rw[Mf bq h3];simp];rfl
  have h3:=(Bv (lo:=33)).symm.trans h3;rw[aos]at h3;refine U ?_;exact bm (i+1) ⟨by omega,jl bG h3⟩ (by omega) (hA:=cv)
 rw[au]at h2;refine U ?_;have xI:wS 33 s=true:=Me.2 λj ae=>bG j (by omega);refine bT rfl (.t1 rfl) λI hw=>?_;rw[show q6 s=true by unfold q6;rw[aow (by omega),aow (by omega),xI];rfl];rfl
end Go.Proofs.bA
