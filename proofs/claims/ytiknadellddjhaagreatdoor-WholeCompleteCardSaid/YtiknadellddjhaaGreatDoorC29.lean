/- Lemmas for the law WholeComplete. -/
import Derived.Test.YtiknadellddjhaaGreatDoorC28
set_option linter.all false
open Go.Proofs.Tryz
set_option maxHeartbeats 12800000
open Go Go.b9 Go.bM
namespace Go.bM
def sd(cf:List cK)(ends:List gl)(c:Int)(f:cK->gl)(i:Nat):List gl:=(List.range cf.length).map λj=>if j<i/\(cf.getD j default).aH=c then f (cf.getD j default)else ends.getD j default
theorem xn(cf:List cK)(ends:List gl)(c:Int)(f:cK->gl)(i:Nat):(sd cf ends c f i).length=cf.length:=by unfold sd;simp
theorem EN{cf:List cK}{ends:List gl}{c:Int}{f:cK->gl}{i j:Nat}(ae:j<cf.length):(sd cf ends c f i)[j]?=some (if j<i/\(cf.getD j default).aH=c then f (cf.getD j default)else ends.getD j default):=by unfold sd;rw[ao4,apk ae];rfl
theorem Im{cf:List cK}{ends:List gl}{c:Int}{f:cK->gl}(h:ends.length=cf.length):sd cf ends c f 0=ends:=by
 apply aqm;intro j;by_cases ae:j<cf.length
 ·rw[EN ae,aot (λq=>by omega),getD_some (by omega)]
 rw[aoV (by rw[xn];omega),aoV (by omega)]
theorem Il{cf:List cK}{ends:List gl}{c:Int}{f:cK->gl}{i:Nat}(hi:i<cf.length):sd cf ends c f (i+1)=if(cf.getD i default).aH=c then(sd cf ends c f i).set i (f (cf.getD i default))else sd cf ends c f i:=by
 apply aqm;intro j;by_cases ae:j<cf.length
 ·rw[EN ae];by_cases h:(cf.getD i default).aH=c
  ·rw[aou h,aqV];by_cases e:i=j
   ·subst e;rw[aou ⟨by omega,h⟩,aou rfl,aou (by rw[xn];exact hi)]
   rw[aot e,EN ae];by_cases q:j<i
   ·simp[q,show j<i+1 by omega]
   simp[q,show ¬j<i+1 by omega]
  rw[aot h,EN ae];by_cases e:i=j
  ·subst e;rw[aot λq=>h q.2,aot λq=>h q.2]
  by_cases q:j<i
  ·simp[q,show j<i+1 by omega]
  simp[q,show ¬j<i+1 by omega]
 rw[aoV (by rw[xn];omega)];split
 ·rw[aoV (by rw[aoU,xn];omega)]
 rw[aoV (by rw[xn];omega)]
theorem Pg(cf:List cK)(ends:List gl)(c:Int)(f:cK->gl):sd cf ends c f cf.length=(List.range cf.length).map λj=>if(cf.getD j default).aH=c then f (cf.getD j default)else ends.getD j default:=by
 unfold sd;refine apP λj ae=>?_;rw[aoQ]at ae;by_cases h:(cf.getD j default).aH=c
 ·rw[aou ⟨ae,h⟩,aou h]
 rw[aot λq=>h q.2,aot h]
def ux(cf:List cK)(ends:List gl)(k:Nat)(first:Nat)(ag:List eO)(i:Nat):List gl:=sd cf ends k (λx=>(nC first ag x).getD ⟨0,0⟩) i
theorem OS(cf:List cK)(ends:List gl)(k first:Nat)(ag:List eO)(i:Nat):(ux cf ends k first ag i).length=cf.length:=xn _ _ _ _ _
theorem OU{cf:List cK}{ends:List gl}{k first:Nat}{ag:List eO}(h:ends.length=cf.length):ux cf ends k first ag 0=ends:=Im h
theorem OR(cf:List cK)(ends:List gl)(k first:Nat)(ag:List eO):ux cf ends k first ag cf.length=r9 cf ends k first ag:=Pg _ _ _ _
theorem OT{cf:List cK}{ends:List gl}{k first:Nat}{ag:List eO}{i:Nat}(hi:i<cf.length):ux cf ends k first ag (i+1)=if(cf.getD i default).aH=(k:Int)then(ux cf ends k first ag i).set i ((nC first ag (cf.getD i default)).getD ⟨0,0⟩)else ux cf ends k first ag i:=Il hi
def vO(t:aV)(cf:List cK)(ends:List gl)(i:Nat):List gl:=sd cf ends (-1) (λx=>⟨3,((dr (cc t) x.loc:Nat):Int)⟩) i
theorem OO(t:aV)(cf:List cK)(ends:List gl):vO t cf ends cf.length=yn t cf ends:=Pg _ _ _ _
end Go.bM
namespace Go.Proofs.bA
def sw(t:aV)(j:Nat):List Int:=(t.init.take j).foldl (λv x=>if x.aH= -1 then v.set (dr (cc t) x.loc) x.value.n else v) (List.replicate (cc t).length 0)
theorem Kh(t:aV){j:Nat}(ae:j<t.init.length):sw t (j+1)=if(t.init.getD j default).aH= -1 then(sw t j).set (dr (cc t) (t.init.getD j default).loc) (t.init.getD j default).value.n else sw t j:=by unfold sw;rw[apn,getD_some ae,ap9];rfl
theorem Q7(t:aV):sw t t.init.length=od t:=by unfold sw od;rw[aoZ]
theorem FU(t:aV):∀j,j<=t.init.length->(sw t j).length=(cc t).length
 | 0,_=>by unfold sw;simp
 | j+1,h=>by
  rw[Kh t (by omega)];split
  ·rw[aoU,FU t j (by omega)]
  exact FU t j (by omega)
def Hx(t:aV):Nat->Value->World->Prop:=λn v I=>∃(ak ah aI bv aG aR ad aT bj:Value) (k:Int),v=.tuple #[.agg #[ak,ah,aI,bv,aG,aR,ad,aT,bj],.int .i64 (dI t),.int .i64 k]/\ (aD ak/\aD ah/\aD aI/\aD bv/\aD aG/\aD aR/\aD ad/\aD aT/\aD bj)/\(dI t=0->fB (Fr n) I ak ah aI bv aG aR ad aT bj (ar t))
theorem ajd{t:aV}{bI:List cK}{e:Int}{k:Nat}(h:jb t bI k=.bad e):∀m,k<=m->jb t bI m=.bad e:=λm hm=>by
 induction hm with
 | refl=>exact h
 | step _ bP=>unfold jb;rw[bP]
theorem BC{t:aV}(h0:pT t=0){e:Int}{k:Nat}(hk:k<=t.code.length)(h:jb t (br t) k=.bad e):dI t=e:=by unfold dI;rw[aou h0,ajd h _ hk]
theorem Gj{t:aV}{n:Nat}{I:World}{e k:Int}(he:dI t=e)(h0:e≠0):Hx t n (.tuple #[.agg #[aa,aa,aa,aa,aa,aa,aa,aa,aa],.int .i64 e,.int .i64 k]) I:=⟨_,_,_,_,_,_,_,_,_,k,by rw[he],⟨cU,cU,cU,cU,cU,cU,cU,cU,cU⟩,λz=>absurd (he.symm.trans z) h0⟩
theorem agq{cx:fg}(C:l1 cx){dd s:cg}{k:Nat}(h0:gH cx dd 0)(a1:mS cx dd 0)(h:Rd cx dd s k):mS cx s k:=by
 induction h with
 | zero=>exact a1
 | step q hk az bP=>exact G5 bP (Nat.le_of_lt (wU C (q.ok C h0) hk az).1) az
theorem OQ{cf:List cK}{k first:Nat}{ag:List eO}{x:cK}(hx:x∈cf)(hk:x.aH=(k:Int))(h:(nC first ag x).isSome=false):uw cf k first ag=false:=by unfold uw;rw[List.all_eq_false];exact⟨x,hx,by rw[hk,aow rfl,h];simp⟩
theorem OP{cf:List cK}{k first:Nat}{ag:List eO}(h:∀j,j<cf.length->(cf.getD j default).aH=(k:Int)->(nC first ag (cf.getD j default)).isSome=true):uw cf k first ag=true:=by
 unfold uw;rw[apt];intro x hx;obtain⟨j,ae,rfl⟩:=pj hx;by_cases q:(cf.getD j default).aH=(k:Int)
 ·rw[h j ae q,aqZ]
 rw[aoE q];rfl
end Go.Proofs.bA
namespace Go.Proofs.bA
attribute [local irreducible] wpList Code.wp bodyPost Exit.then Exit.inBlock Calls
def kq(z:iF)(l:j1)(aj:List fX):List aB:=.own z.rg 133 4 gu aj::np z l
def Nn(t:aV)(g:mv)(k:Int)(z:iF)(l:j1)(aj:List fX)(bh:BitVec 64)(l':j1)(qQ:List fX):Nat->Value->List aB->World->Prop:=λ_ v es _=>
 (64<=l.J.length/\∃eu,eu.bv=z.bv/\kM g eu/\v=.agg (gA t g k eu bh false true).toArray/\es=kq eu l aj)\/
 (l.J.length<64/\∃eu,eu.bv=z.bv/\kM g eu/\v=.agg (gA t g k eu bh false false).toArray/\es=kq eu l' qQ)
theorem agH(t:aV)(g:mv)(k:Int)(z:iF)(l:j1)(aj:List fX)(bh on:BitVec 64)(rZ loc bo:Int)(w:World)(ok:kM g z)(ay:l.addr.length<=500000)(hd:l.data.length<=500000)(ai:l.bh.length<=500000)(aM:0<=bo/\bo<aj.length)(eC:aj.length<=1000)(hw:Mem [] (kq z l aj) w): eY prog 206 [.agg (gA t g k z bh false false).toArray,.int .i64 rZ,.int .i64 loc,.int .i64 bo,u64 on] (kq z l aj) w (Nn t g k z l aj bh (uy l k ⟨0,rZ,1,loc,0,bo⟩ on 0#64 bh) (zn t.aC aj bo ⟨3,(l.J.length:Int),bg,1#64<<<l.J.length⟩)):=by
 have mO:=ok;obtain⟨g1,g2,g3,g4,g5,g6,g7,mP,z2,z3,z4,z5,ov⟩:=ok;refine j3 func206 ntmps206 hw ?_;refine e4 λec=>?_;refine ei λo1=>?_;refine cA (Mem [(w,bJ (kq z l aj))] (np z l++([.own z.rg 133 4 gu aj,.box o1 (gA ⟨0,ByteArray.empty,ByteArray.empty,[],[],0,default⟩ ⟨aa,aa,aa,aa,aa,aa,aa⟩ 0 ⟨aa,aa,aa,aa,aa,aa⟩ 0#64 false false) 129,.box ec (gA t g k z bh false false) 129]:List aB))) (b4 [3,4,5,6,2,0,1]) ?_;refine aq (eB (es:=np z l) (bb:=λI hw=>TF t g k z l bh on 0#64 false false ⟨0,rZ,1,loc,0,bo⟩ I mO ay hd ai hw.dt.ew) (ab:=?_));rintro amZ n22 es an2 Y5;rcases Y5 with⟨hf,rfl,rfl⟩ | ⟨hf,eu,bu,b2,qm,rfl,rfl⟩
 ·refine af ?_;refine aq (bK 6 (h1:=iP mO t k bh false true) (ab:=af ?_));refine cM rfl (λ_=>?_) (λh=>by cases h);refine af ?_;refine aq (bK 5 (h1:=iP mO t k bh false true) (ab:=af ?_));exact eL rfl (.c1 rfl pN rfl) (kq z l aj) [4,0,1,2,3] λI hw=>.inl ⟨hf,z,rfl,mO,rfl,rfl⟩
 refine af ?_;refine aq (bK 6 (h1:=iP qm t k bh false false) (ab:=af ?_));refine cM rfl (λh=>by cases h) λ_=>?_;refine af ?_;have xI:(BitVec.ofInt 64 (l.J.length:Int)).toNat=l.J.length:=by rw[BitVec.toNat_ofInt];omega
 rw[xI];refine cA (Mem [(w,bJ (kq z l aj))] ([.own eu.rg 133 4 gu aj]++(np eu (uy l k ⟨0,rZ,1,loc,0,bo⟩ on 0#64 bh)++([.box o1 (gA ⟨0,ByteArray.empty,ByteArray.empty,[],[],0,default⟩ ⟨aa,aa,aa,aa,aa,aa,aa⟩ 0 ⟨aa,aa,aa,aa,aa,aa⟩ 0#64 false false) 129,.box ec (gA t g k eu bh false false) 129]:List aB)))) (λ_ h=>by rw[bu];exact h.cC [4,0,1,2,3,5,6]) ?_;refine aq (eB (es:=[.own eu.rg 133 4 gu aj]) (bb:=λI hw=>Bp t g k eu aj bh false false bo ⟨3,(l.J.length:Int),bg,1#64<<<l.J.length⟩ I qm aM eC hw.dt.ew) (ab:=?_));rintro am2 n33 es an5 ⟨k1,aaL,rfl,rfl⟩;have zj:kM g {eu with rg:=k1}:=⟨g1,g2,g3,g4,g5,g6,g7,aaL,qm.aI,qm.bv,qm.aG,qm.aR,qm.r7⟩;refine af ?_;refine aq (bK 5 (h1:=iP zj t k bh false false) (ab:=af ?_));exact eL rfl (.c1 rfl pN rfl) (kq {eu with rg:=k1} (uy l k ⟨0,rZ,1,loc,0,bo⟩ on 0#64 bh) (zn t.aC aj bo ⟨3,(l.J.length:Int),bg,1#64<<<l.J.length⟩)) [0,1,2,3,4] λI hw=>.inr ⟨hf,{eu with rg:=k1},b2,zj,rfl,rfl⟩
theorem TK(t:aV)(g:mv)(k:Int)(z:iF)(l:j1)(aj:List fX)(bh on:BitVec 64)(rZ loc:Int)(x:fX)(w:World)(ok:kM g z)(ay:l.addr.length<=500000)(hd:l.data.length<=500000)(ai:l.bh.length<=500000)(hw:Mem [] (kq z l aj) w): eY prog 205 [.agg (gA t g k z bh false false).toArray,.int .i64 rZ,.int .i64 loc,.agg (gu x).toArray,u64 on] (kq z l aj) w λn v es I=>
  ((loc<0\/x.k≠1)/\v=.agg (gA t g k z bh true false).toArray/\es=kq z l aj)\/
  ((0<=loc/\x.k=1)/\Nn t g k z l aj bh (uy l k ⟨0,rZ,2,loc,x.n,0⟩ on x.on bh) aj n v es I):=by
 have mO:=ok;obtain⟨g1,g2,g3,g4,g5,g6,g7,mP,z2,z3,z4,z5,ov⟩:=ok;refine j3 func205 ntmps205 hw ?_;refine e4 λec=>?_;refine e4 λdx=>?_;refine ei λo1=>?_;refine bC (λh1=>?_) λh1=>?_
 ·have bU:loc<0\/x.k≠1:=by rw[aox,an,aoq,au]at h1;exact h1
  refine af ?_;refine c7 2 ?_;refine aq (bK 0 (h1:=iP mO t k bh true false) (ab:=af ?_));exact eL rfl (.c1 rfl aP rfl) (kq z l aj) [3,4,5,6,7] λI hw=>.inl ⟨bU,rfl,rfl⟩
 have bU:0<=loc/\x.k=1:=by rw[aoz,au,aos,an]at h1;exact⟨by omega,h1.2⟩
 refine af ?_;refine cA (Mem [(w,bJ (kq z l aj))] (np z l++([.own z.rg 133 4 gu aj,.box o1 (gA ⟨0,ByteArray.empty,ByteArray.empty,[],[],0,default⟩ ⟨aa,aa,aa,aa,aa,aa,aa⟩ 0 ⟨aa,aa,aa,aa,aa,aa⟩ 0#64 false false) 129]:List aB))) (b4 [4,5,6,7,3,0]) ?_;refine aq (eB (es:=np z l) (bb:=λI hw=>TF t g k z l bh on x.on false false ⟨0,rZ,2,loc,x.n,0⟩ I mO ay hd ai hw.dt.ew) (ab:=?_));rintro am0 n29 es an3 Y7;rcases Y7 with⟨hf,rfl,rfl⟩ | ⟨hf,eu,bu,b2,qm,rfl,rfl⟩
 ·refine af ?_;refine aq (bK 5 (h1:=iP mO t k bh false true) (ab:=af ?_));exact eL rfl (.c1 rfl pN rfl) (kq z l aj) [4,0,1,2,3] λI hw=>.inr ⟨bU,.inl ⟨hf,z,rfl,mO,rfl,rfl⟩⟩
 refine af ?_;refine aq (bK 5 (h1:=iP qm t k bh false false) (ab:=af ?_));exact eL rfl (.c1 rfl pN rfl) (kq eu (uy l k ⟨0,rZ,2,loc,x.n,0⟩ on x.on bh) aj) [4,0,1,2,3] (lu:=by unfold kq;rw[bu];rfl) λI hw=>.inr ⟨bU,.inr ⟨hf,eu,b2,qm,rfl,rfl⟩⟩
def F0(a b:fX):Bool:=!decide (a.k=b.k)||!decide (a.n=b.n)||!decide (a.loc=b.loc)
def Kn(a b:fX):Bool:=(decide (a.k=1)||decide (a.k=2))&&(decide (b.k=1)||decide (b.k=2))
theorem agE(a b:fX)(w:World):bl prog 204 [.agg (gu a).toArray,.agg (gu b).toArray] w λ_ v _=>v=.tuple #[.bool (F0 a b),.bool (Kn a b)]:=by refine ha func204 ntmps204 ?_;refine e4 λdC=>?_;refine e4 λdK=>?_;refine bT rfl (.tmp rfl (.t1 rfl)) λI hw=>?_;unfold F0 Kn;simp only[<-cd];rfl
end Go.Proofs.bA
namespace Go.b9
open Go Go.bM
theorem VE(n:Int):IntKind.i64.wrap n=(BitVec.ofInt 64 n).toInt:=by unfold IntKind.wrap;rw[aq8];simp only[IntKind.bits,IntKind.signed];unfold Int.bmod;simp;omega
section
variable {P:Program} {N:Nat} {A:World->Prop} {tm:dY} {c:Bool}
theorem af9{t de:TypeId}{x y:Operand}{m n:Int}(hx:bt tm c x (.int .i64 m))(aY:bt tm c y (.int .i64 n)):bW P N (.binOp .xor t x y de) tm A c (.int .i64 (BitVec.ofInt 64 m ^^^ BitVec.ofInt 64 n).toInt):=
 oj hx aY (λw=>by simp only[binOp,Op.intBits,ne_eq,arb,aqw];show Result.ok (Value.int .i64 (IntKind.i64.wrap (((BitVec.ofInt 64 m ^^^ BitVec.ofInt 64 n).toNat:Nat):Int))) w=_;rw[VE,aqv,BitVec.ofNat_toNat];simp)
theorem af1{t de:TypeId}{x y:Operand}{m n:Int}(hx:bt tm c x (.int .i64 m))(aY:bt tm c y (.int .i64 n)):bW P N (.binOp .or t x y de) tm A c (.int .i64 (BitVec.ofInt 64 m||| BitVec.ofInt 64 n).toInt):=
 oj hx aY (λw=>by simp only[binOp,Op.intBits,ne_eq,arb,aqw];show Result.ok (Value.int .i64 (IntKind.i64.wrap (((BitVec.ofInt 64 m||| BitVec.ofInt 64 n).toNat:Nat):Int))) w=_;rw[VE,aqv,BitVec.ofNat_toNat];simp)
end
theorem EJ{n:Int}(h: -2147483648<=n/\n<=2147483647):BitVec.ofInt 64 n=(BitVec.ofInt 32 n).signExtend 64:=by rw[BitVec.signExtend];congr 1;rw[aq8];unfold Int.bmod;simp;omega
theorem akj{m n:Int}(h1: -2147483648<=m/\m<=2147483647)(h2: -2147483648<=n/\n<=2147483647):(BitVec.ofInt 64 m ^^^ BitVec.ofInt 64 n).toInt=(BitVec.ofInt 32 m ^^^ BitVec.ofInt 32 n).toInt:=by rw[EJ h1,EJ h2,<-BitVec.signExtend_xor,BitVec.toInt_signExtend_of_le (by omega)]
theorem aec{m n:Int}(h1: -2147483648<=m/\m<=2147483647)(h2: -2147483648<=n/\n<=2147483647):(BitVec.ofInt 64 m||| BitVec.ofInt 64 n).toInt=(BitVec.ofInt 32 m||| BitVec.ofInt 32 n).toInt:=by rw[EJ h1,EJ h2,<-BitVec.signExtend_or,BitVec.toInt_signExtend_of_le (by omega)]
end Go.b9
attribute [local irreducible] Go.wpList Go.Code.wp Go.bodyPost Go.Exit.then Go.Exit.inBlock Go.Calls
namespace Go.Proofs.bA
theorem agL(n:Int)(w:World):bl prog 291 [.int .i64 n] w λ_ v _=>v=.int .i64 (BitVec.ofInt 32 n).toInt:=by refine ha func291 ntmps291 ?_;refine dh wM (ab:=af ?_);refine dh DB (ab:=af ?_);exact bT rfl (.t1 rfl) λI hw=>rfl
def ow(h:fX):Bool:=decide (h.k=1)&&decide (h.n=0)
def mU(a b:fX):Bool:=decide (a.k=1)&&decide (b.k=1)
def lD(op:Int)(a b:fX):fX:=
 if ow b=true then a else if ow a=true then b
 else if(mU a b&&decide (op=10))=true then⟨1,(BitVec.ofInt 32 (a.n+b.n)).toInt,bg,0#64⟩
 else if(mU a b&&decide (op=9))=true then⟨1,(BitVec.ofInt 64 a.n ^^^ BitVec.ofInt 64 b.n).toInt,bg,0#64⟩
 else if mU a b=true then⟨1,(BitVec.ofInt 64 a.n||| BitVec.ofInt 64 b.n).toInt,bg,0#64⟩
 else⟨4,0,bg,0#64⟩
def wC(op:Int)(a b:fX):fX:={lD op a b with on:=a.on||| b.on}
theorem LM(op:Int)(a b:fX)(w:World)(ay: -2147483648<=a.n/\a.n<=2147483647)(hb: -2147483648<=b.n/\b.n<=2147483647):bl prog 209 [.int .i64 op,.agg (gu a).toArray,.agg (gu b).toArray] w λ_ v _=>v=.agg (gu (wC op a b)).toArray:=by
 refine ha func209 ntmps209 ?_;refine e4 λcO=>?_;refine e4 λec=>?_;refine ei λcY=>?_;refine ei λey=>?_;refine c7 0 ?_;refine aq (bp (λI hw=>TL b I) ?_);rintro v11 bx bc rfl cu;refine af ?_;refine w0 (λ_:Unit=>True) (λ_=>[(7,true,av ey),(6,true,av cY),(5,true,av ec),(4,true,av cO)]) (λ_=>Mem [(w,al)] [.box ey (gu (lD op a b)) 133,.box cY [.int .i64 0,.int .i64 0,.string ByteArray.empty,u64 0#64] 133,.box ec (gu b) 133,.box cO (gu a) 133]) ?_ ?_
 ·refine bC (λh1=>?_) λh1=>?_
  ·have bU:ow b=true:=h1;refine af ?_;refine c7 0 ?_;exact b6 () trivial (hA:=λ_ h=>by unfold lD;rw[aou bU];exact h.cX)
  have bU:¬ow b=true:=by unfold ow;rw[h1];exact apK
  refine af ?_;refine aq (bp (λI hw=>TL a I) ?_);rintro ML ck bY rfl eZ;refine dp (λh2=>?_) λh2=>?_
  ·have bq:ow a=true:=h2;refine af ?_;refine c7 0 ?_;exact b6 () trivial (hA:=λ_ h=>by unfold lD;rw[aot bU,aou bq];exact h.cX.cX)
  have bq:¬ow a=true:=by unfold ow;rw[h2];exact apK
  refine af ?_;have EC:(bw (a.k=1)&&bw (b.k=1)&&bw (op=10))=(mU a b&&decide (op=10)):=by unfold mU;simp only[cd]
  have Ae:(bw (a.k=1)&&bw (b.k=1)&&bw (op=9))=(mU a b&&decide (op=9)):=by unfold mU;simp only[cd]
  have xi:(bw (a.k=1)&&bw (b.k=1))=mU a b:=by unfold mU;simp only[cd]
  refine bC (λh3=>?_) λh3=>?_
  ·rw[EC]at h3;refine af ?_;refine aq (bp (λI hw=>agL (a.n+b.n) I) ?_);rintro v35 hj fW rfl nG;refine af ?_;refine c7 0 ?_;exact b6 () trivial (hA:=λ_ h=>by unfold lD;rw[aot bU,aot bq,aou h3];exact h.cX.cX.cX)
  rw[EC]at h3;have dE:¬(mU a b&&decide (op=10))=true:=by rw[h3];exact apK
  refine dp (λaA=>?_) λaA=>?_
  ·rw[Ae]at aA;refine af ?_;refine dh (af9 (b3 rfl) (b3 rfl)) (ab:=af ?_);refine c7 0 ?_;exact b6 () trivial (hA:=λ_ h=>by unfold lD;rw[aot bU,aot bq,aot dE,aou aA];exact h.cX.cX)
  rw[Ae]at aA;have da:¬(mU a b&&decide (op=9))=true:=by rw[aA];exact apK
  refine dp (λa6=>?_) λa6=>?_
  ·rw[xi]at a6;refine af ?_;refine dh (af1 (b3 rfl) (b3 rfl)) (ab:=af ?_);refine c7 0 ?_;exact b6 () trivial (hA:=λ_ h=>by unfold lD;rw[aot bU,aot bq,aot dE,aot da,aou a6];exact h.cX.cX)
  rw[xi]at a6;refine af ?_;exact b6 () trivial (hA:=λ_ h=>by unfold lD;rw[aot bU,aot bq,aot dE,aot da,aot (by rw[a6];exact apK)];exact h.cX.cX)
 rintro⟨⟩ _;refine af ?_;refine c7 0 ?_;refine c7 1 ?_;exact bT rfl (.c1 rfl dg rfl) λI hw=>rfl
def qs(l:List ca)(n:Nat):List ca:=(List.range n).flatMap λ(a:Nat)=>l.filter λp=>decide (p.A=(a:Int))
theorem G1(l:List ca)(n:Nat):qs l (n+1)=qs l n++l.filter λp=>decide (p.A=(n:Int)):=by unfold qs;rw[ape,apc];simp
theorem YG(l:List ca)(a:Int){i:Nat}(hi:i<l.length):(l.take (i+1)).filter (λp=>decide (p.A=a))=if(l.getD i default).A=a then(l.take i).filter (λp=>decide (p.A=a))++[l.getD i default]else(l.take i).filter (λp=>decide (p.A=a)):=by
 rw[apn,getD_some hi,apl,show(some (l.getD i default)).toList=[l.getD i default]from rfl];generalize l.getD i default=x;have e:[x].filter (λp=>decide (p.A=a))=if x.A=a then [x]else []:=by simp[List.filter_cons]
 rw[e];by_cases q:x.A=a
 ·rw[aou q,aou q]
 rw[aot q,aot q,aoH]
theorem Ux(l:List ca):∀n,(qs l n).length<=n* l.length
 | 0=>by unfold qs;simp
 | n+1=>by rw[G1,aoy,aqD];exact Nat.add_le_add (Ux l n) (apr _ _)
theorem LN(ak:Value)(l:List ca)(w:World)(aL:aZ al w bB 2 ak l)(bd:l.length<=10000):bl prog 51 [ak] w λn v I=>aZ (Fr n) I bB 2 v (qs l 64):=by
 have tB:=aL.aK;refine ha func51 ntmps51 ?_;refine ea 178 2 bB ?_;refine bX (λz:Nat×Value=>z.1<=64/\aD z.2) (λz=>[(4,true,.int .i64 z.1),(3,true,z.2),(0,true,ak)]) (λz=>Mem [(w,al)] [.own z.2 178 2 bB (qs l z.1)]) (λz=>64-z.1) (0,aa) ⟨by omega,cU⟩ ?_
 rintro⟨a,v⟩ ⟨ay,ax⟩;dsimp only at ay ax⊢;have CR:=Ux l a;have hmul:a* l.length<=64* 10000:=Nat.mul_le_mul ay bd;refine dp (λh1=>?_) λh1=>?_
 ·have bU:a<64:=by rw[an]at h1;omega
  refine af ?_;refine bX (λz:Nat×Value=>z.1<=l.length/\aD z.2) (λz=>[(5,true,.int .i64 z.1),(4,true,.int .i64 a),(3,true,z.2),(0,true,ak)]) (λz=>Mem [(w,al)] [.own z.2 178 2 bB (qs l a++(l.take z.1).filter λp=>decide (p.A=(a:Int)))]) (λz=>l.length-z.1) (0,v) ⟨aoD _,ax⟩ ?_ ⟨rfl,rfl,rfl,rfl,trivial⟩ (λ_ h=>by dsimp only;rw[List.take_zero,List.filter_nil,aoH];exact h)
  rintro⟨i,v⟩ ⟨hi,ax⟩;dsimp only at hi ax⊢;have yG:((l.take i).filter λp=>decide (p.A=(a:Int))).length<=l.length:=ao5 (apr _ _) (List.length_take_le' ..);refine dp (λh2=>?_) λh2=>?_
  ·have bq:i<l.length:=by rw[an]at h2;omega
   have hf:=YG l (a:Int) bq;refine dp (λh3=>?_) λh3=>?_
   ·rw[an]at h3;rw[aou h3]at hf;refine af ?_;refine aq (eI (enc:=bB) (dec:=EA) (e:=178) (sz:=2) (len:=1) (dM:=[(0,bB (l.getD i default))]) (ab:=λv28 QQ=>af ?_));refine aq (e6 1 (hm:=aP) (hk:=rfl) (bH:=by simp only[aoy,aoJ,aoN,ao1];omega) (ab:=λHe JV=>af ?_));exact bm (i+1,He) ⟨bq,JV⟩ (show l.length-(i+1)<l.length-i by omega) (hA:=λ_ h=>by dsimp only;rw[hf,<-aoP];exact h.tail)
   rw[au]at h3;rw[aot h3]at hf;refine af ?_;exact bm (i+1,v) ⟨bq,ax⟩ (show l.length-(i+1)<l.length-i by omega) (hA:=λ_ h=>by dsimp only;rw[hf];exact h)
  have bq:i=l.length:=by rw[au]at h2;omega
  subst bq;refine af ?_;exact bm (a+1,v) ⟨bU,ax⟩ (show 64-(a+1)<64-a by omega) (hA:=λ_ h=>by dsimp only;rw[G1];rw[aoZ]at h;exact h)
 have bU:a=64:=by rw[au]at h1;omega
 subst bU;refine af ?_;exact bT rfl (.t1 rfl) λI hw=>hw.im aP aP
def ym(h:fX):Option gl:=if h.k=1 then some ⟨1,h.n⟩else if h.k=3 then some ⟨2,h.n⟩else none
theorem TE(h:fX)(w:World):bl prog 50 [.agg (gu h).toArray] w λ_ v _=>v=.tuple #[.agg (oF ((ym h).getD ⟨0,0⟩)).toArray,.bool (ym h).isSome]:=by
 refine ha func50 ntmps50 ?_;refine e4 λgn=>?_;refine ei λdC=>?_;refine bC (λh1=>?_) λh1=>?_
 ·rw[an]at h1;refine af ?_;refine c7 0 ?_;refine bT rfl (.dv rfl aP rfl (.t1 rfl)) λI hw=>?_;unfold ym;rw[aou h1];rfl
 rw[au]at h1;refine dp (λh2=>?_) λh2=>?_
 ·rw[an]at h2;refine af ?_;refine c7 0 ?_;refine bT rfl (.dv rfl aP rfl (.t1 rfl)) λI hw=>?_;unfold ym;rw[aot h1,aou h2];rfl
 rw[au]at h2;refine af ?_;refine c7 0 ?_;refine bT rfl (.dv rfl aP rfl (.t1 rfl)) λI hw=>?_;unfold ym;rw[aot h1,aot h2];rfl
end Go.Proofs.bA
