/- Lemmas for the law WholeComplete. -/
import Derived.Test.YtiknadellddjhaaGreatDoorC01
set_option linter.all false
open Go.Proofs.Tryz
set_option maxHeartbeats 1600000
open Go.b9 Go Go.bM
attribute [local irreducible] Go.wpList Go.Code.wp Go.bodyPost Go.Exit.then Go.Exit.inBlock Go.Calls
namespace Go.bM
structure aW where
 aO:List ByteArray
 init:List Int
 J:List eV
 bars:List nx
 addr:List ca
 data:List ca
 bh:List ca
 cf:List cK
 ends:List gl
def eF(n:Int):Bool:=decide (-2147483648<=n)&&decide (n<=2147483647)
def kF(b:Nat):Bool:=(decide (97<=b)&&decide (b<=122))||(decide (65<=b)&&decide (b<=90))
def yk(b:Nat):Bool:=(decide (48<=b)&&decide (b<=57))||decide (b=95)
def nV(s:ByteArray)(i:Nat):Bool:=kF (dO s i)||(decide (0<i)&&yk (dO s i))
def eE(s:ByteArray):Bool:=decide (1<=s.size)&&decide (s.size<=32)&&(List.range s.size).all (nV s)
def qY(bI pl:Int):Bool:=decide (0<=bI)&&decide (bI<16)&&decide (0<=pl)&&decide (pl<256)
def iI(a p b q:Int):Bool:=decide (a<b)||(decide (a=b)&&decide (p<q))
def uT(t:aW)(i:Nat):Bool:=eE (t.aO.getD i default)&&(decide (i=0)||fL (t.aO.getD (i-1) default) (t.aO.getD i default))&&eF (t.init.getD i default)
def kZ(t:aW):Bool:=decide (t.aO.length<=64)&&decide (t.init.length=t.aO.length)&&(List.range t.aO.length).all (uT t)
def Ac(x:eV):Bool:=(decide (x.dir=1)&&decide (x.value=0))||(decide (x.dir=2)&&decide (x.bo=0))
def qH(t:aW)(x:eV):Bool:=qY x.aH x.place&&decide (0<=x.loc)&&decide (x.loc<t.aO.length)&&eF x.value&&decide (0<=x.bo)&&decide (x.bo<=31)&&Ac x
def lL(t:aW)(i:Nat):Bool:=qH t (t.J.getD i default)&&(decide (i=0)||iI (t.J.getD (i-1) default).aH (t.J.getD (i-1) default).place (t.J.getD i default).aH (t.J.getD i default).place)
def jP(t:aW):Bool:=decide (t.J.length<=64)&&(List.range t.J.length).all (lL t)
def HG(t:aW)(b:nx):Bool:=(List.range t.J.length).all λk=>!(decide ((t.J.getD k default).aH=b.aH)&&decide ((t.J.getD k default).place=b.place))
def nz(t:aW)(i:Nat):Bool:=qY (t.bars.getD i default).aH (t.bars.getD i default).place&&decide (1<=(t.bars.getD i default).dA)&&decide ((t.bars.getD i default).dA<=11)&& (decide (i=0)||iI (t.bars.getD (i-1) default).aH (t.bars.getD (i-1) default).place (t.bars.getD i default).aH (t.bars.getD i default).place)&&HG t (t.bars.getD i default)
def k8(t:aW):Bool:=decide (t.bars.length<=4096)&&(List.range t.bars.length).all (nz t)
def aI(t:aW)(n:Int):eV:=t.J.getD n.toNat default
def Dv(t:aW)(w:Bool)(p:ca):Bool:=decide (0<=p.A)&&decide (p.A<p.B)&&decide (p.B<t.J.length)&&decide ((aI t p.A).dir=1)&&decide ((aI t p.A).aH=(aI t p.B).aH)&&(!w||decide ((aI t p.B).dir=2))
def qo(t:aW)(l:List ca)(w:Bool)(i:Nat):Bool:=Dv t w (l.getD i default)&&(decide (i=0)||iI (l.getD (i-1) default).A (l.getD (i-1) default).B (l.getD i default).A (l.getD i default).B)
def kc(t:aW)(l:List ca)(w:Bool):Bool:=(List.range l.length).all (qo t l w)
def vM(t:aW)(x:cK)(e:gl):Bool:=(decide (e.kind=1)&&eF e.n)||(decide (e.kind=2)&&decide (0<=e.n)&&decide (e.n<t.J.length)&&decide ((aI t e.n).dir=1)&&decide ((aI t e.n).aH=x.aH))
def AW(t:aW)(x:cK)(e:gl):Bool:=match t.aO.findIdx? (λs=>decide (s=x.loc))with
 | some k=>decide (x.bo=0)&&decide (e.kind=3)&&decide (e.n=(k:Int))
 | none=>false
def lk(t:aW)(x:cK)(e:gl):Bool:=if x.aH= -1 then AW t x e else decide (0<=x.aH)&&decide (x.aH<16)&&decide (0<=x.bo)&&decide (x.bo<=31)&&decide (x.loc=ByteArray.empty)&&vM t x e
def h6(a b:cK):Bool:=if a.aH= -1\/b.aH= -1 then !decide (a.aH= -1)||(decide (b.aH= -1)&&fL a.loc b.loc)else if a.aH=b.aH then decide (a.bo<b.bo)else decide (a.aH<b.aH)
def q5(t:aW)(i:Nat):Bool:=lk t (t.cf.getD i default) (t.ends.getD i default)&&(decide (i=0)||h6 (t.cf.getD (i-1) default) (t.cf.getD i default))
def tY(t:aW):Bool:=decide (t.cf.length=t.ends.length)&&decide (t.cf.length<=1024)&&(List.range t.cf.length).all (q5 t)
def e0(t:aW):Bool:=kZ t&&jP t&&k8 t&&kc t t.addr false&&kc t t.data true&&kc t t.bh false&&tY t
structure fB(S:Nat->Prop)(w:World)(ak ah aI bv aG aR ad aT bj:Value)(t:aW):Prop where
 aO:aZ S w dU 1 ak t.aO
 init:aZ S w a7 1 ah t.init
 J:aZ S w ef 6 aI t.J
 bars:aZ S w fE 3 bv t.bars
 addr:aZ S w bB 2 aG t.addr
 data:aZ S w bB 2 aR t.data
 bh:aZ S w bB 2 ad t.bh
 cf:aZ S w eH 3 aT t.cf
 ends:aZ S w oF 2 bj t.ends
theorem fB.now{S:Nat->Prop}{B I:World}{ak ah aI bv aG aR ad aT bj:Value}{t:aW}{bs:List dm}{H:List aB}(h:fB S B ak ah aI bv aG aR ad aT bj t)(hw:Mem bs H I)(hB:(B,S)∈bs:=by repeat (first | exact List.Mem.head _ | refine List.Mem.tail _ ?_)):fB al I ak ah aI bv aG aR ad aT bj t:=⟨hw.now h.aO hB,hw.now h.init hB,hw.now h.J hB,hw.now h.bars hB,hw.now h.addr hB,hw.now h.data hB,hw.now h.bh hB,hw.now h.cf hB,hw.now h.ends hB⟩
theorem fT{n:Nat}{p:Nat->Bool}:(List.range n).all p=true↔∀i,i<n->p i=true:=by simp
theorem hQ{n:Nat}{p:Nat->Bool}{i:Nat}(hi:i<n)(h:p i=false):(List.range n).all p=false:=by rw[List.all_eq_false];exact⟨i,aoQ.2 hi,by simp[h]⟩
theorem oh(i:Nat):((i:Int)-1).toNat=i-1:=by omega
theorem Cg(i:Nat):bw (0<(i:Int))=!decide (i=0):=by
 rw[cd];by_cases h:i=0
 ·simp[h]
 have:0<(i:Int):=by omega
 simp[h];omega
theorem jl{p:Nat->Bool}{i:Nat}(h:∀j,j<i->p j=true)(hp:p i=true):∀j,j<i+1->p j=true:=λj ae=>by
 by_cases kz:j<i
 ·exact h j kz
 obtain rfl:j=i:=by omega
 exact hp
theorem RC(t:aW)(i:Nat):(!eE (t.aO.getD i default)||bw (0<(i:Int))&&!fL (t.aO.getD ((i:Int)-1).toNat default) (t.aO.getD i default)||!eF (t.init.getD i default))=!uT t i:=by unfold uT;rw[oh,Cg];cases eE _<;>cases decide (i=0)<;>cases fL _ _<;>cases eF _<;>rfl
theorem Wm(a p b q:Int):(bw (b<a)||bw (a=b)&&bw (q<=p))=!iI a p b q:=by rw[aoR];simp only[iI,aox,aoo,aoq,aoz,aoC,an,aoA];omega
theorem zT(i:Nat)(a p b q:Int):(bw (0<(i:Int))&&(bw (b<a)||bw (a=b)&&bw (q<=p)))=!(decide (i=0)||iI a p b q):=by rw[Wm,Cg,Bool.not_or]
theorem Ii(t:aW)(x:eV):((!qY x.aH x.place||bw (x.loc<0)||bw ((t.aO.length:Int)<=x.loc)||!eF x.value||bw (x.bo<0)||bw (31<x.bo))||(!bw (x.dir=1)&&!bw (x.dir=2)||bw (x.dir=1)&&!bw (x.value=0)||bw (x.dir=2)&&!bw (x.bo=0)))=!qH t x:=by rw[aoR];simp only[qH,Ac,aox,aoo,aoq,aoz,aoC,an,au,aoA];cases qY x.aH x.place<;>cases eF x.value<;>simp<;>omega
end Go.bM
namespace Go.Proofs.bA
theorem aiQ(s:ByteArray)(w:World)  : bl prog 265 [.string s] w λ_ v _=>v=.bool (eE s):=by
 refine bZ func265 ntmps265 ?_;refine bC (λh1=>?_) λh1=>?_
 ·refine bf λI hw=>?_;have:eE s=false:=by simp only[aox,an]at h1;simp only[eE,aoC,aoA];omega
  rw[this];rfl
 refine U ?_;simp only[aoz,au]at h1;refine bX (λi:Nat=>i<=s.size/\∀j,j<i->nV s j=true) (λs'=>[(3,true,.int .i64 s'),(0,true,.string s)]) (λ_=>Mem [(w,al)] []) (λi=>s.size-i) (0) ⟨by omega,λj ae=>by omega⟩ ?_ ⟨rfl,rfl,trivial⟩ cv
 rintro i ⟨hi,bG⟩;refine a8 (λh2=>?_) λh2=>?_
 ·have bq:i<s.size:=by rw[an]at h2;omega
  refine a8 (λh3=>?_) λh3=>?_
  ·refine bf λI hw=>?_;have:eE s=false:=by
    have:nV s i=false:=by simp only[aoz,aoC,aoq,au]at h3;simp only[nV,kF,yk,aoz,aoC,aoA];omega
    simp[eE,hQ bq this]
   rw[this];rfl
  refine U ?_;refine bm ((i+1)) ⟨by omega,λj ae=>?_⟩ (by omega) (hA:=cv);by_cases kz:j<i
  ·exact bG j kz
  obtain rfl:j=i:=by omega
  simp only[aox,aoo,aos,an]at h3;simp only[nV,kF,yk,aox,aoo,aop];omega
 refine bf λI hw=>?_;have:eE s=true:=by rw[au]at h2;simp only[eE,aoo,aop,fT];exact⟨⟨by omega,by omega⟩,λj ae=>bG j (by omega)⟩
 rw[this];rfl
theorem Mt(n:Int)(w:World)  : bl prog 266 [.int .i64 n] w λ_ v _=>v=.bool (eF n):=by refine bZ func266 ntmps266 ?_;refine bT rfl (.t1 rfl) λI hw=>?_;simp only[eF,cd];rfl
theorem UZ(aH:Int)(place:Int)(w:World)  : bl prog 267 [.int .i64 aH,.int .i64 place] w λ_ v _=>v=.bool (qY aH place):=by refine bZ func267 ntmps267 ?_;refine bT rfl (.t1 rfl) λI hw=>?_;simp only[qY,cd];rfl
theorem aiV{ak ah aI bv aG aR ad aT bj:Value}{t:aW}(w:World)(h:fB al w ak ah aI bv aG aR ad aT bj t): bl prog 177 [.agg #[ak,ah,aI,bv,aG,aR,ad,aT,bj]] w λ_ v _=>v=.bool (kZ t):=by
 have c0:=h.aO;have fs:=h.init;have iy:=c0.le;have gJ:=fs.le;refine bZ func177 ntmps177 ?_;refine b7 λaQ=>?_;refine bC (λh1=>?_) λh1=>?_
 ·refine bf λI hw=>?_;have:kZ t=false:=by simp only[aox,aoq,an,au]at h1;simp only[kZ,aoC,aoA];omega
  rw[this];rfl
 simp only[aoz,aos,au,an]at h1;refine U ?_;refine bX (λi:Nat=>i<=t.aO.length/\∀j,j<i->uT t j=true) (λs=>[(21,true,.int .i64 s),(20,true,.int .i64 t.aO.length),(19,true,ak),(1,true,av aQ)]) (λs=>Mem [(w,al)] [.box aQ [ak,ah,aI,bv,aG,aR,ad,aT,bj] 41]) (λi=>t.aO.length-i) (0) ⟨by omega,λj ae=>by omega⟩ ?_ ⟨rfl,rfl,rfl,rfl,trivial⟩ cv
 rintro i ⟨hi,bG⟩;refine a8 (λh2=>?_) λh2=>?_
 ·have bq:i<t.aO.length:=by rw[an]at h2;omega
  refine U ?_;refine aq (bp (λI hw=>aiQ _ I) ?_);rintro v bx bc rfl cu;refine U ?_;refine e1 (h:=ev (bb:=λ_ I hw=>Mt _ I)) (ab:=U ?_);refine bC (λh3=>?_) λh3=>?_
  ·refine bf λI hw=>?_;rw[RC,aoq]at h3;have:kZ t=false:=by simp[kZ,hQ bq h3]
   rw[this];rfl
  refine U ?_;rw[RC,aos]at h3;exact bm ((i+1)) ⟨by omega,jl bG h3⟩ (by omega) (hA:=cv)
 refine bf λI hw=>?_;have:kZ t=true:=by rw[au]at h2;simp only[kZ,aoo,aop,fT];exact⟨⟨by omega,by omega⟩,λj ae=>bG j (by omega)⟩
 rw[this];rfl
theorem aiM{ak ah aI bv aG aR ad aT bj:Value}{t:aW}(w:World)(h:fB al w ak ah aI bv aG aR ad aT bj t): bl prog 178 [.agg #[ak,ah,aI,bv,aG,aR,ad,aT,bj]] w λ_ v _=>v=.bool (jP t):=by
 have c0:=h.aO;have cF:=h.J;have iy:=c0.le;have j5:=cF.le;refine bZ func178 ntmps178 ?_;refine b7 λaQ=>?_;refine bC (λh1=>?_) λh1=>?_
 ·refine bf λI hw=>?_;have:jP t=false:=by rw[an]at h1;simp only[jP,aoC,aoA];omega
  rw[this];rfl
 rw[au]at h1;refine U ?_;refine bX (λi:Nat=>i<=t.J.length/\∀j,j<i->lL t j=true) (λs=>[(12,true,.int .i64 s),(11,true,.int .i64 t.J.length),(10,true,aI),(1,true,av aQ)]) (λs=>Mem [(w,al)] [.box aQ [ak,ah,aI,bv,aG,aR,ad,aT,bj] 41]) (λs=>t.J.length-s) (0) ⟨by omega,λj ae=>by omega⟩ ?_ ⟨rfl,rfl,rfl,rfl,trivial⟩ cv
 rintro i ⟨hi,bG⟩;refine a8 (λh2=>?_) λh2=>?_
 ·have bq:i<t.J.length:=by rw[an]at h2;omega
  refine U ?_;refine cH λbe=>?_;refine bN 0 ?_;refine aq (bp (λI hw=>UZ _ _ I) ?_);rintro v bx bc rfl cu;refine U ?_;refine e1 (h:=ev (bb:=λ_ I hw=>Mt _ I)) (ab:=U ?_);refine bC (λh3=>?_) λh3=>?_
  ·refine bf λI hw=>?_;have he:=Ii t (t.J.getD i default);rw[h3,Bool.true_or]at he;have ft:lL t i=false:=by rw[lL,show qH t (t.J.getD i default)=false by simpa using he.symm,apy]
   have:jP t=false:=by simp[jP,hQ bq ft]
   rw[this];rfl
  refine a8 (λaA=>?_) λaA=>?_
  ·refine bf λI hw=>?_;have he:=Ii t (t.J.getD i default);rw[aA,aqZ]at he;have ft:lL t i=false:=by rw[lL,show qH t (t.J.getD i default)=false by simpa using he.symm,apy]
   have:jP t=false:=by simp[jP,hQ bq ft]
   rw[this];rfl
  refine U ?_;refine cz [0,1,2,3,4,5,6,7,8,9,10,11,12,13,14,15,16,17,18,19,20,21,22,23,24,25,26,27,28,29,30,31,32,33,34,35,36,37] mixed ?_;refine aN ?_;refine a8 (λa6=>?_) λa6=>?_
  ·refine bf λI hw=>?_;rw[oh,zT,aoq]at a6;have ft:lL t i=false:=by rw[lL,a6,apu]
   have:jP t=false:=by simp[jP,hQ bq ft]
   rw[this];rfl
  refine U ?_;have he:=Ii t (t.J.getD i default);rw[h3,aA,aq1,Bool.false_eq,aos]at he;rw[oh,zT,aos]at a6;exact bm ((i+1)) ⟨by omega,jl bG (by rw[lL,he,a6];rfl)⟩ (by omega) (hA:=bD [1])
 refine bf λI hw=>?_;have:jP t=true:=by rw[au]at h2;simp only[jP,aoo,aop,fT];exact⟨by omega,λj ae=>bG j (by omega)⟩
 rw[this];rfl
end Go.Proofs.bA
namespace Go.bM
theorem NL(x:nx):(!qY x.aH x.place||bw (x.dA<1)||bw (11<x.dA))=!(qY x.aH x.place&&decide (1<=x.dA)&&decide (x.dA<=11)):=by rw[aoR];simp only[aox,aoo,aoq,aoz,aoC,an,au,aoA];cases qY x.aH x.place<;>simp<;>omega
def Dq(t:aW)(b:nx)(k:Nat):Bool:=!(decide ((t.J.getD k default).aH=b.aH)&&decide ((t.J.getD k default).place=b.place))
theorem El(t:aW)(b:nx):HG t b=(List.range t.J.length).all (Dq t b):=rfl
theorem Gm(t:aW)(b:nx)(k:Nat):(bw ((t.J.getD k default).aH=b.aH)&&bw ((t.J.getD k default).place=b.place))=!Dq t b k:=by rw[Dq,Bool.not_not,cd,cd]
theorem Gs(t:aW)(w:Bool)(p:ca):(bw (p.A<0)||bw (p.B<=p.A)||bw ((t.J.length:Int)<=p.B)||!bw ((t.J.getD p.A.toNat default).dir=1)||!bw ((t.J.getD p.A.toNat default).aH=(t.J.getD p.B.toNat default).aH)||w&&!bw ((t.J.getD p.B.toNat default).dir=2))=!Dv t w p:=by rw[aoR];simp only[Dv,aI,aox,aoo,aoq,aoz,aoC,an,au,aoA];cases w<;>simp<;>omega
end Go.bM
namespace Go.Proofs.bA
theorem aiI{ak ah aI bv aG aR ad aT bj:Value}{t:aW}(w:World)(h:fB al w ak ah aI bv aG aR ad aT bj t): bl prog 179 [.agg #[ak,ah,aI,bv,aG,aR,ad,aT,bj]] w λ_ v _=>v=.bool (k8 t):=by
 have hB:=h.bars;have cF:=h.J;have lr:=hB.le;have j5:=cF.le;refine bZ func179 ntmps179 ?_;refine b7 λaQ=>?_;refine bC (λh1=>?_) λh1=>?_
 ·refine bf λI hw=>?_;have:k8 t=false:=by rw[an]at h1;simp only[k8,aoC,aoA];omega
  rw[this];rfl
 rw[au]at h1;refine U ?_;refine bX (λi:Nat=>i<=t.bars.length/\∀j,j<i->nz t j=true) (λs=>[(14,true,.int .i64 s),(13,true,.int .i64 t.bars.length),(12,true,bv),(1,true,av aQ)]) (λs=>Mem [(w,al)] [.box aQ [ak,ah,aI,bv,aG,aR,ad,aT,bj] 41]) (λs=>t.bars.length-s) (0) ⟨by omega,λj ae=>by omega⟩ ?_ ⟨rfl,rfl,rfl,rfl,trivial⟩ cv
 rintro i ⟨hi,bG⟩;refine a8 (λh2=>?_) λh2=>?_
 ·have bq:i<t.bars.length:=by rw[an]at h2;omega
  refine U ?_;refine cH λdf=>?_;refine bN 0 ?_;refine aq (bp (λI hw=>UZ _ _ I) ?_);rintro v bx bc rfl cu;refine a8 (λh3=>?_) λh3=>?_
  ·refine bf λI hw=>?_;rw[NL,aoq]at h3;have ft:nz t i=false:=by rw[nz,h3,apy,apy]
   have:k8 t=false:=by simp[k8,hQ bq ft]
   rw[this];rfl
  rw[NL,aos]at h3;refine U ?_;refine cz [0,1,2,3,4,5,6,7,8,9,10,11,12,13,14,15,16,17,18,19,20,21,22,23,24,25,26,27,28,29,30,31,32,33,34,35,36,37] mixed ?_;refine aN ?_;refine a8 (λaA=>?_) λaA=>?_
  ·refine bf λI hw=>?_;rw[oh,zT,aoq]at aA;have ft:nz t i=false:=by rw[nz,aA,apu,apy]
   have:k8 t=false:=by simp[k8,hQ bq ft]
   rw[this];rfl
  rw[oh,zT,aos]at aA;refine U ?_;refine bX (λk:Nat=>k<=t.J.length/\∀j,j<k->Dq t (t.bars.getD i default) j=true) (λs=>[(76,true,.int .i64 s),(75,true,.int .i64 t.J.length),(74,true,aI),(14,true,.int .i64 i),(13,true,.int .i64 t.bars.length),(12,true,bv),(4,true,av df),(1,true,av aQ)]) (λs=>Mem [(w,al)] [.box df [.int .i64 (t.bars.getD i default).aH,.int .i64 (t.bars.getD i default).place,.int .i64 (t.bars.getD i default).dA] 140,.box aQ [ak,ah,aI,bv,aG,aR,ad,aT,bj] 41]) (λs=>t.J.length-s) (0) ⟨by omega,λj ae=>by omega⟩ ?_ ⟨rfl,rfl,rfl,rfl,rfl,rfl,rfl,rfl,trivial⟩ cv
  rintro k ⟨hk,yQ⟩;refine a8 (λa6=>?_) λa6=>?_
  ·have mB:k<t.J.length:=by rw[an]at a6;omega
   refine U ?_;refine cH λbe=>?_;refine bN 0 ?_;refine bC (λcE=>?_) λcE=>?_
   ·refine bf λI hw=>?_;rw[Gm,aoq]at cE;have ft:nz t i=false:=by rw[nz,El,hQ mB cE,apu]
    have:k8 t=false:=by simp[k8,hQ bq ft]
    rw[this];rfl
   rw[Gm,aos]at cE;refine U ?_;exact bm ((k+1)) ⟨by omega,jl yQ cE⟩ (by omega) (hA:=b4 [1,2])
  rw[au]at a6;have he:nz t i=true:=by rw[nz,h3,aA,El,fT.2 λj ae=>yQ j (by omega)];rfl
  refine U ?_;exact bm ((i+1)) ⟨by omega,jl bG he⟩ (by omega) (hA:=bD [1])
 refine bf λI hw=>?_;have:k8 t=true:=by rw[au]at h2;simp only[k8,aoo,aop,fT];exact⟨by omega,λj ae=>bG j (by omega)⟩
 rw[this];rfl
theorem Mw{ak ah aI bv aG aR ad aT bj:Value}{t:aW}(hW:Value)(l:List ca)(wr:Bool)(w:World)(h:fB al w ak ah aI bv aG aR ad aT bj t)(aL:aZ al w bB 2 hW l): bl prog 180 [.agg #[ak,ah,aI,bv,aG,aR,ad,aT,bj],hW,.bool wr] w λ_ v _=>v=.bool (kc t l wr):=by
 have cF:=h.J;have j5:=cF.le;have iy:=aL.le;refine bZ func180 ntmps180 ?_;refine b7 λaQ=>?_;refine bX (λi:Nat=>i<=l.length/\∀j,j<i->qo t l wr j=true) (λs=>[(15,true,.int .i64 s),(14,true,.int .i64 l.length),(13,true,hW),(7,true,.int .i64 t.J.length),(3,true,av aQ),(2,true,.bool wr),(1,true,hW)]) (λs=>Mem [(w,al)] [.box aQ [ak,ah,aI,bv,aG,aR,ad,aT,bj] 41]) (λs=>l.length-s) (0) ⟨by omega,λj ae=>by omega⟩ ?_ ⟨rfl,rfl,rfl,rfl,rfl,rfl,rfl,trivial⟩ cv
 rintro i ⟨hi,bG⟩;refine a8 (λh1=>?_) λh1=>?_
 ·have bU:i<l.length:=by rw[an]at h1;omega
  refine U ?_;refine cH λzY=>?_;refine bN 0 ?_;refine cz [0,1,2,3,4,5,6,7,8,9,10,11,12,13,14,15,16,17,18,19,20,21,22,23,24,25,26,27,28,29,30,31,32,33,34,35,36,37,38,39,40,41,42,43,44,45,46,47,48,49,50,51,52,53,54,55] mixed ?_;refine aN ?_;refine a8 (λh2=>?_) λh2=>?_
  ·refine bf λI hw=>?_;rw[Gs,aoq]at h2;have ft:qo t l wr i=false:=by rw[qo,h2,apy]
   have:kc t l wr=false:=by simp[kc,hQ bU ft]
   rw[this];rfl
  rw[Gs,aos]at h2;refine U ?_;refine cz [0,1,2,3,4,5,6,7,8,9,10,11,12,13,14,15,16,17,18,19,20,21,22,23,24,25,26,27,28,29,30,31,32,33,34] mixed ?_;refine aN ?_;refine a8 (λh3=>?_) λh3=>?_
  ·refine bf λI hw=>?_;rw[oh,zT,aoq]at h3;have ft:qo t l wr i=false:=by rw[qo,h3,apu]
   have:kc t l wr=false:=by simp[kc,hQ bU ft]
   rw[this];rfl
  rw[oh,zT,aos]at h3;refine U ?_;exact bm ((i+1)) ⟨by omega,jl bG (by rw[qo,h2,h3];rfl)⟩ (by omega) (hA:=b4 [1])
 refine bf λI hw=>?_;have:kc t l wr=true:=by rw[au]at h1;simp only[kc,fT];exact λj ae=>bG j (by omega)
 rw[this];rfl
end Go.Proofs.bA
namespace Go.bM
theorem HI:∀x:List UInt8,Op.bytesLess x x=false
 | []=>rfl
 | a::x=>by simp[Op.bytesLess,HI x,UInt8.lt_irrefl]
theorem N2:∀x y z:List UInt8,Op.bytesLess x y=true->Op.bytesLess y z=true->Op.bytesLess x z=true
 | [],[],_,h,_=>by simp[Op.bytesLess]at h
 | [],_::_,[],_,h=>by simp[Op.bytesLess]at h
 | [],_::_,_::_,_,_=>by simp[Op.bytesLess]
 | _::_,[],_,h,_=>by simp[Op.bytesLess]at h
 | _::_,_::_,[],_,h=>by simp[Op.bytesLess]at h
 | a::x,b::y,c::z,h1,h2=>by
  simp only[Op.bytesLess,aox,aoo,aop,ap7]at h1 h2⊢;rcases h1 with h1 | ⟨rfl,h1⟩
  ·rcases h2 with h2 | ⟨rfl,h2⟩
   ·exact .inl (UInt8.lt_trans h1 h2)
   exact .inl h1
  rcases h2 with h2 | ⟨rfl,h2⟩
  ·exact .inl h2
  exact .inr ⟨rfl,N2 x y z h1 h2⟩
theorem tP(s:ByteArray):fL s s=false:=HI _
theorem wA{s u v:ByteArray}(h1:fL s u=true)(h2:fL u v=true):fL s v=true:=N2 _ _ _ h1 h2
def s5(xs:List ByteArray):Prop:=∀i,0<i->i<xs.length->fL (xs.getD (i-1) default) (xs.getD i default)=true
theorem s5.lt{xs:List ByteArray}(h:s5 xs)(i:Nat):∀j,i<j->j<xs.length->fL (xs.getD i default) (xs.getD j default)=true
 | 0,iw,_=>by omega
 | j+1,iw,ae=>by
  have h1:=h (j+1) (by omega) ae;by_cases he:i=j
  ·subst he;exact h1
  exact wA (h.lt i j (by omega) (by omega)) h1
theorem s5.uniq{xs:List ByteArray}(h:s5 xs){i j:Nat}{s:ByteArray}(hi:i<xs.length)(ae:j<xs.length)(h1:xs.getD i default=s)(h2:xs.getD j default=s):i=j:=by
 rcases arc i j with h3 | h3 | h3
 ·have:=h.lt i j h3 ae;rw[h1,h2,tP]at this;cases this
 ·exact h3
 have:=h.lt j i h3 hi;rw[h1,h2,tP]at this;cases this
theorem RD{t:aW}(h:kZ t=true):s5 t.aO/\t.aO.length<=64:=by
 simp only[kZ,aoo,aop,fT]at h;refine⟨λi h0 hi=>?_,h.1.1⟩;have:=h.2 i hi;simp only[uT,aoo,aox,aop]at this;rcases this.1.2 with h1 | h1
 ·omega
 exact h1
def zS(xs:List ByteArray)(s:ByteArray)(k:Nat)(b:Bool):Prop:=(b=true->k<xs.length/\xs.getD k default=s)/\(b=false->∀q,q<xs.length->xs.getD q default≠s)
theorem aif{xs:List ByteArray}{s:ByteArray}(hu:s5 xs){i:Nat}(hi:i<=xs.length)(h1:∀q,q<i->fL (xs.getD q default) s=true)(h2:∀q,i<=q->q<xs.length->fL (xs.getD q default) s=false): zS xs s i (bw ((i:Int)<(xs.length:Int))&&(bw (xs.getD i default=s)||false&&false)):=by
 refine⟨λh=>?_,λh q ba he=>?_⟩
 ·simp only[aoo,aox,an]at h;exact⟨by omega,h.2.resolve_right (by simp)⟩
 simp only[aoC,aoz,au]at h;rcases arc q i with h3 | h3 | h3
 ·have:=h1 q h3;rw[he,tP]at this;cases this
 ·subst h3;rcases h with h | h
  ·omega
  exact h.1 he
 have aA:=h2 i (aoL _) (by omega);have a6:=hu.lt i q h3 ba;rw[he,aA]at a6;cases a6
theorem Ky{t:aW}(hu:s5 t.aO)(x:cK)(e:gl){k:Nat}{b:Bool}(h:zS t.aO x.loc k b): (b&&bw (x.bo=0)&&bw (e.kind=3)&&bw (e.n=(k:Int)))=AW t x e:=by
 unfold AW;cases hb:t.aO.findIdx? (λs=>decide (s=x.loc))with
 | none=>
  cases b with
  | false=>rfl
  | true=>obtain⟨h1,h2⟩:=h.1 rfl;rw[List.findIdx?_eq_none_iff]at hb;have:=hb _ (aoM (getD_some h1));rw[h2]at this;simp at this
 | some q=>
  rw[List.findIdx?_eq_some_iff_getElem]at hb;obtain⟨h1,h2,h3⟩:=hb;have ba:t.aO.getD q default=x.loc:=by rw[aor,aov h1,apM];simpa using h2
  cases b with
  | false=>exact absurd ba (h.2 rfl q h1)
  | true=>obtain⟨aA,a6⟩:=h.1 rfl;obtain rfl:=hu.uniq h1 aA ba a6;simp only[apE,cd]
theorem adB{i j:Nat}(h1:i<j)(h2:j<=1000000):(BitVec.ofInt 64 ((i:Int)+(j:Int))>>>(1#64).toNat).toNat=(i+j) / 2:=by
 have:(BitVec.ofInt 64 ((i:Int)+(j:Int))).toNat=i+j:=by simp;omega
 rw[BitVec.toNat_ushiftRight,this,Nat.shiftRight_eq_div_pow];rfl
theorem HB(a b:cK):(if(bw (a.aH= -1)||bw (b.aH= -1))=true then !bw (a.aH= -1)||bw (b.aH= -1)&&fL a.loc b.loc else if bw (a.aH=b.aH)=true then bw (a.bo<b.bo)else bw (a.aH<b.aH))=h6 a b:=by unfold h6;simp only[aox,cd,aop]
end Go.bM
namespace Go.Proofs.bA
theorem Ut(x:ByteArray)(w:World)  : bl prog 68 [.string x] w λ_ v _=>v=.bool false:=by refine bZ func68 ntmps68 ?_;refine bT rfl (.t1 rfl) λI hw=>?_;simp[cd];rfl
theorem Oe(x:ByteArray)(w:World)  : bl prog 144 [.string x] w λ_ v _=>v=.bool false:=by refine bZ func144 ntmps144 ?_;refine bT rfl (.t1 rfl) λI hw=>?_;simp[cd];rfl
theorem Xk(x:ByteArray)(y:ByteArray)(w:World)  : bl prog 67 [.string x,.string y] w λ_ v _=>v=.bool (fL x y):=by refine bZ func67 ntmps67 ?_;refine aq (bp (λI hw=>Oe _ I) ?_);rintro v bx bc rfl cu;refine U ?_;refine e1 (h:=ev (bb:=λ_ I hw=>Oe _ I)) (ab:=U ?_);refine bT rfl (.t1 rfl) λI hw=>?_;simp;rfl
theorem yd(D4:Value)(target:ByteArray)(xs:List ByteArray)(w:World)(hx:aZ al w dU 1 D4 xs)(hu:s5 xs)(hb:xs.length<=1000000): bl prog 21 [D4,.string target] w λ_ v _=>∃k:Nat,∃b:Bool,v=.tuple #[.int .i64 (k:Int),.bool b]/\zS xs target k b:=by
 have aL:=hx.le;refine bZ func21 ntmps21 ?_;refine bX (λs:Nat×Nat=>s.2<=s.1/\s.1<=xs.length/\(∀q,q<s.2->fL (xs.getD q default) target=true)/\(∀q,s.1<=q->q<xs.length->fL (xs.getD q default) target=false)) (λs=>[(8,true,.int .i64 s.1),(7,true,.int .i64 s.2),(6,true,.int .i64 xs.length),(1,true,.string target),(0,true,D4)]) (λs=>Mem [(w,al)] []) (λs=>s.1-s.2) (xs.length,0) ⟨by omega,by omega,λq ba=>absurd ba (by simp),λq ba wb=>absurd ba (by simp only;omega)⟩ ?_ ⟨rfl,rfl,rfl,rfl,rfl,trivial⟩ cv
 rintro⟨j,i⟩ ⟨iw,ae,eS,Jd⟩;dsimp only at ae iw eS Jd⊢;refine a8 (λh1=>?_) λh1=>?_
 ·rw[an]at h1;have hm:=adB (i:=i) (j:=j) (by omega) (by omega);have so:(i+j) / 2<xs.length:=by omega
  have aam:(BitVec.ofInt 64 ((i:Int)+(j:Int))>>>(1#64).toNat).toNat<9223372036854775808:=by rw[hm];omega
  have aan:(BitVec.ofInt 64 ((i:Int)+(j:Int))>>>(1#64).toNat).toNat<xs.length:=by rw[hm];omega
  refine U ?_;refine aq (bp (λI hw=>Xk _ _ I) ?_);rintro v bx bc rfl cu;rw[hm];refine a8 (λh2=>?_) λh2=>?_
  ·refine U ?_;refine bm (j,(i+j) / 2+1) ⟨by simp only;omega,ae,λq ba=>?_,Jd⟩ (by omega) (hA:=cv);simp only at ba;by_cases kT:q=(i+j) / 2
   ·rw[kT];exact h2
   exact wA (hu.lt q _ (by omega) so) h2
  refine U ?_;refine bm ((i+j) / 2,i) ⟨by simp only;omega,by simp only;omega,eS,λq ba wb=>?_⟩ (by omega) (hA:=cv);simp only at ba;by_cases kT:q=(i+j) / 2
  ·rw[kT];exact h2
  refine aoW.2 λh3=>?_;rw[wA (hu.lt _ q (by omega) wb) h3]at h2;cases h2
 rw[au]at h1;obtain rfl:i=j:=by omega
 refine U ?_;refine e1 (h:=ev (bb:=λ_ I hw=>Ut _ I)) (ab:=U ?_);refine e1 (h:=ev (bb:=λ_ I hw=>Ut _ I)) (ab:=U ?_);refine bT rfl (.tmp rfl (.t1 rfl)) λI hw=>?_;exact⟨i,_,rfl,aif hu ae eS Jd⟩
theorem aiG(a b:cK)(w:World)  : bl prog 182 [.agg #[.int .i64 a.aH,.int .i64 a.bo,.string a.loc],.agg #[.int .i64 b.aH,.int .i64 b.bo,.string b.loc]] w λ_ v _=>v=.bool (h6 a b):=by
 refine bZ func182 ntmps182 ?_;refine b7 λdT=>?_;refine b7 λdf=>?_;refine bC (λh1=>?_) λh1=>?_
 ·refine bf λI hw=>?_;rw[<-HB,aou h1];rfl
 refine a8 (λh2=>?_) λh2=>?_
 ·refine bf λI hw=>?_;rw[aoq]at h2;rw[<-HB,aot (by rw[h1];simp),aot (by rw[h2];simp)];rfl
 refine bf λI hw=>?_;rw[aos]at h2;rw[<-HB,aot (by rw[h1];simp),aou h2];rfl
end Go.Proofs.bA
namespace Go.bM
theorem K3(x:cK):(bw (x.aH<0)||bw (16<=x.aH)||bw (x.bo<0)||bw (31<x.bo)||!bw (x.loc=ByteArray.empty))=!(decide (0<=x.aH)&&decide (x.aH<16)&&decide (0<=x.bo)&&decide (x.bo<=31)&&decide (x.loc=ByteArray.empty)):=by rw[aoR];simp only[aox,aoo,aoq,aoC,an,au,aoA];by_cases h:x.loc=ByteArray.empty<;>simp[h]<;>omega
end Go.bM
namespace Go.Proofs.bA
theorem aiL{ak ah aI bv aG aR ad aT bj:Value}{t:aW}(x:cK)(e:gl)(w:World)(h:fB al w ak ah aI bv aG aR ad aT bj t)(eS:kZ t=true): bl prog 181 [.agg #[ak,ah,aI,bv,aG,aR,ad,aT,bj],.agg #[.int .i64 x.aH,.int .i64 x.bo,.string x.loc],.agg #[.int .i64 e.kind,.int .i64 e.n]] w λ_ v _=>v=.bool (lk t x e):=by
 have cF:=h.J;have c0:=h.aO;have j5:=cF.le;obtain⟨hu,fK⟩:=RD eS;refine bZ func181 ntmps181 ?_;refine b7 λaQ=>?_;refine b7 λeQ=>?_;refine b7 λbe=>?_;refine bC (λh1=>?_) λh1=>?_
 ·have bU:x.aH= -1:=by rwa[an]at h1
  refine U ?_;refine aq (hq (bb:=λI hw=>yd ak x.loc t.aO I (hw.now c0) hu (by omega)) (ab:=?_));rintro v bx bc ⟨k,b,rfl,cS⟩ cu;refine bf λI hw=>?_;rw[Ky hu x e cS,lk,aou bU];rfl
 have bU:¬x.aH= -1:=by rwa[au]at h1
 refine a8 (λh2=>?_) λh2=>?_
 ·refine bf λI hw=>?_;have bq:=(K3 x).symm.trans h2;rw[aoq]at bq;rw[lk,aot bU,bq];rfl
 have bq:=(K3 x).symm.trans h2;rw[aos]at bq;refine a8 (λh3=>?_) λh3=>?_
 ·refine U ?_;refine aq (bp (λI hw=>Mt e.n I) ?_);rintro v ck bY rfl eZ;refine bf λI hw=>?_;rw[an]at h3;rw[lk,aot bU,bq,vM];simp[h3];rfl
 rw[au]at h3;refine a8 (λaA=>?_) λaA=>?_
 ·rw[an]at aA;refine U ?_;refine cz [0,1,2,3,4,5,6,7,8,9,10,11,12,13,14,15,16,17,18,19,20,21,22,23,24,25,26,27,28,29,30,31,32,33] mixed ?_;refine aN ?_;refine bf λI hw=>?_;rw[lk,aot bU,bq,vM];simp[aA,cd,Go.bM.aI];rfl
 rw[au]at aA;refine bf λI hw=>?_;rw[lk,aot bU,bq,vM];simp[h3,aA];rfl
def _root_.Go.bM.nt(t:aW):Int:=if e0 t=true then 0 else 1
theorem _root_.Go.bM.UP(t:aW)(i:Nat):(!lk t (t.cf.getD i default) (t.ends.getD i default)||bw (0<(i:Int))&&!h6 (t.cf.getD (i-1) default) (t.cf.getD i default))=!q5 t i:=by unfold q5;rw[Cg];cases lk _ _ _<;>cases decide (i=0)<;>cases h6 _ _<;>rfl
theorem Mp{ak ah aI bv aG aR ad aT bj:Value}{t:aW}(w:World)(h:fB al w ak ah aI bv aG aR ad aT bj t): bl prog 94 [.agg #[ak,ah,aI,bv,aG,aR,ad,aT,bj]] w λ_ v _=>v=.int .i64 (nt t):=by
 have bL:=h.cf;have ir:=h.ends;have qR:=bL.le;have ly:=ir.le;refine bZ func94 ntmps94 ?_;refine b7 λaQ=>?_;refine aq (bp (λI hw=>aiV I (h.now hw)) ?_);rintro v bx bc rfl cu;refine U ?_;refine e1 (h:=ev (bb:=λ_ I hw=>aiM I (h.now hw))) (ab:=U ?_);refine e1 (h:=ev (bb:=λ_ I hw=>aiI I (h.now hw))) (ab:=U ?_);refine e1 (h:=ev (bb:=λ_ I hw=>Mw aG t.addr false I (h.now hw) (hw.now h.addr))) (ab:=U ?_);refine e1 (h:=ev (bb:=λ_ I hw=>Mw aR t.data true I (h.now hw) (hw.now h.data))) (ab:=U ?_);refine e1 (h:=ev (bb:=λ_ I hw=>Mw ad t.bh false I (h.now hw) (hw.now h.bh))) (ab:=U ?_);refine bC (λh1=>?_) λh1=>?_
 ·refine bf λI hw=>?_;have:e0 t=false:=by simp only[aox,aoq]at h1;simp only[e0,aoC];exact .inl h1
  rw[nt,this];rfl
 simp only[aoz,aos]at h1;refine a8 (λh2=>?_) λh2=>?_
 ·refine bf λI hw=>?_;have:tY t=false:=by simp only[aox,aoq,an,au]at h2;simp only[tY,aoC,aoA];omega
  rw[nt,e0,this,apu];rfl
 simp only[aoz,aos,an,au]at h2;refine U ?_;refine bX (λi:Nat=>i<=t.cf.length/\∀j,j<i->q5 t j=true) (λs=>[(55,true,.int .i64 s),(54,true,.int .i64 t.cf.length),(53,true,aT),(1,true,av aQ)]) (λs=>Mem [(w,al)] [.box aQ [ak,ah,aI,bv,aG,aR,ad,aT,bj] 41]) (λs=>t.cf.length-s) (0) ⟨by omega,λj ae=>by omega⟩ ?_ ⟨rfl,rfl,rfl,rfl,trivial⟩ cv
 rintro i ⟨hi,bG⟩;refine a8 (λh3=>?_) λh3=>?_
 ·have dE:i<t.cf.length:=by rw[an]at h3;omega
  have akQ:i<t.ends.length:=by omega
  have eS:kZ t=true:=h1.1.1.1.1.1;refine U ?_;refine cH λeQ=>?_;refine bN 0 ?_;refine cz [0,1,2,3,4,5,6,7,8,9,10,11,12,13,14,15,16,17,18,19,20,21,22,23] mixed ?_;refine aN ?_;refine bO _ (h:=bp (λI hw=>aiL (t.cf.getD i default) (t.ends.getD i default) I (h.now hw) eS) ?_);rintro v n7 BJ rfl CI;refine aF ?_ ek;refine cA _ ek (aN ?_);refine rE ?_ (h:=ev (bb:=λ_ I hw=>aiG (t.cf.getD ((i:Int)-1).toNat default) (t.cf.getD i default) I));refine aN ?_;refine a8 (λaA=>?_) λaA=>?_
  ·refine bf λI hw=>?_;rw[oh,UP,aoq]at aA;have:tY t=false:=by simp[tY,hQ dE aA]
   rw[nt,e0,this,apu];rfl
  rw[oh,UP,aos]at aA;refine U ?_;exact bm ((i+1)) ⟨by omega,jl bG aA⟩ (by omega) (hA:=bD [1])
 refine bf λI hw=>?_;have:tY t=true:=by rw[au]at h3;simp only[tY,aoo,aop,fT];exact⟨⟨by omega,by omega⟩,λj ae=>bG j (by omega)⟩
 have:e0 t=true:=by simp[e0,h1,this]
 rw[nt,aou this];rfl
end Go.Proofs.bA
namespace Go.bM
def p1(s:ByteArray)(i:Nat):Bool:=kF (dO s i)||yk (dO s i)
theorem Cd{s:ByteArray}{i:Nat}(h:p1 s i=false):nV s i=false:=by simp only[p1,aoz]at h;simp[nV,h]
theorem Cc{s:ByteArray}{i:Nat}(h0:kF (dO s 0)=true)(h:p1 s i=true):nV s i=true:=by
 by_cases hi:i=0
 ·subst hi;simp[nV,h0]
 have:0<i:=by omega
 simp only[p1]at h;simpa[nV,this]using h
end Go.bM
namespace Go.Proofs.bA
theorem TN(c:Nat)(w:World)  : bl prog 349 [.int .u8 c] w λ_ v _=>v=.bool (kF c):=by refine bZ func349 ntmps349 ?_;refine bT rfl (.t1 rfl) λI hw=>?_;refine aoI Value.bool (aoR.2 ?_);simp only[kF,aox,aoo,an,aop];omega
theorem agr(c:Nat)(w:World)  : bl prog 350 [.int .u8 c] w λ_ v _=>v=.bool (decide (48<=c)&&decide (c<=57)):=by refine bZ func350 ntmps350 ?_;refine bT rfl (.t1 rfl) λI hw=>?_;refine aoI Value.bool (aoR.2 ?_);simp only[aox,aoo,an,aop];omega
theorem Bs(n:Int)(w:World)  : bl prog 292 [.int .i64 n] w λ_ v _=>v=.bool (eF n):=by refine bZ func292 ntmps292 ?_;refine bT rfl (.t1 rfl) λI hw=>?_;simp only[eF,cd];rfl
theorem GD(a:Int)(p:Int)(b:Int)(q:Int)(w:World)  : bl prog 293 [.int .i64 a,.int .i64 p,.int .i64 b,.int .i64 q] w λ_ v _=>v=.bool (iI a p b q):=by refine bZ func293 ntmps293 ?_;refine bT rfl (.t1 rfl) λI hw=>?_;simp only[iI,cd];rfl
theorem Br(s:ByteArray)(w:World)  : bl prog 285 [.string s] w λ_ v _=>v=.bool (eE s):=by
 refine bZ func285 ntmps285 ?_;refine e1 (h:=ev (bb:=λ_ I hw=>TN _ I)) (ab:=U ?_);refine bC (λh1=>?_) λh1=>?_
 ·refine bf λI hw=>?_;have:eE s=false:=by
   simp only[aox,aoq,an]at h1;by_cases aj:s.size=0
   ·simp[eE,aj]
   rcases h1 with(h1 | h1) | h1
   ·omega
   ·have:¬s.size<=32:=by omega
    simp[eE,this]
   have:nV s 0=false:=by simp only[nV,show kF (dO s 0)=false from h1,aqN,aqY,apy,aq1]
   rw[eE,hQ (i:=0) (by omega) this,apu]
  rw[this];rfl
 simp only[aoz,aos,au]at h1;refine U ?_;refine bX (λi:Nat=>i<=s.size/\∀j,j<i->p1 s j=true) (λi=>[(3,true,.int .i64 i),(0,true,.string s)]) (λ_=>Mem [(w,al)] []) (λi=>s.size-i) (0) ⟨by omega,λj ae=>by omega⟩ ?_ ⟨rfl,rfl,trivial⟩ cv
 rintro i ⟨hi,bG⟩;refine a8 (λh2=>?_) λh2=>?_
 ·have bq:i<s.size:=by rw[an]at h2;omega
  refine U ?_;refine aq (bp (λI hw=>TN _ I) ?_);rintro v ck bY rfl eZ;refine U ?_;refine e1 (h:=ev (bb:=λ_ I hw=>agr _ I)) (ab:=U ?_);have ai:(!kF (dO s i)&&!(decide (48<=dO s i)&&decide (dO s i<=57))&&!bw ((dO s i:Int)=95))=!p1 s i:=by rw[show bw ((dO s i:Int)=95)=decide (dO s i=95) by rw[cd];exact ao7.2 (by omega)];unfold p1 yk;cases kF (dO s i)<;>cases decide (48<=dO s i)<;>cases decide (dO s i<=57)<;>cases decide (dO s i=95)<;>rfl
  refine bC (λh3=>?_) λh3=>?_
  ·refine bf λI hw=>?_;have dE:=ai.symm.trans h3;rw[aoq]at dE;have:eE s=false:=by simp[eE,hQ bq (Cd dE)]
   rw[this];rfl
  have dE:=ai.symm.trans h3;rw[aos]at dE;refine U ?_;exact bm ((i+1)) ⟨by omega,jl bG dE⟩ (by omega) (hA:=cv)
 refine bf λI hw=>?_;have:eE s=true:=by rw[au]at h2;simp only[eE,aoo,aop,fT];exact⟨⟨by omega,by omega⟩,λj ae=>Cc h1.2 (bG j (by omega))⟩
 rw[this];rfl
end Go.Proofs.bA
namespace Go.bM
theorem HJ:∀x y:List UInt8,Op.bytesLess x y=true\/x=y\/Op.bytesLess y x=true
 | [],[]=>.inr (.inl rfl)
 | [],_::_=>.inl rfl
 | _::_,[]=>.inr (.inr rfl)
 | a::x,b::y=>by
  simp only[Op.bytesLess,aox,aoo,aop,ap7,aqT];by_cases h1:a<b
  ·exact .inl (.inl h1)
  by_cases h2:b<a
  ·exact .inr (.inr (.inl h2))
  have h3:a=b:=UInt8.le_antisymm (UInt8.not_lt.1 h2) (UInt8.not_lt.1 h1);subst h3;rcases HJ x y with h | h | h
  ·exact .inl (.inr ⟨rfl,h⟩)
  ·exact .inr (.inl ⟨rfl,h⟩)
  exact .inr (.inr (.inr ⟨rfl,h⟩))
theorem acS(s u:ByteArray):(fL s u||bw (s=u))=!fL u s:=by
 rw[<-Ai];cases h:fL u s with
 | true=>
  have h1:fL s u=false:=by refine aoW.2 λh2=>?_;have:=wA h h2;rw[tP]at this;cases this
  have h2:(s.toList==u.toList)=false:=by rw[beq_eq_false_iff_ne];intro e;unfold fL at h;rw[e,HI]at h;cases h
  rw[h1,h2];rfl
 | false=>
  rcases HJ s.toList u.toList with h1 | h1 | h1
  ·rw[show fL s u=true from h1];rfl
  ·rw[h1];simp
  unfold fL at h;rw[h1]at h;cases h
theorem TO(t:aW)(i:Nat):(!eE (t.aO.getD i default)||bw (0<(i:Int))&&(fL (t.aO.getD i default) (t.aO.getD (i-1) default)||bw (t.aO.getD i default=t.aO.getD (i-1) default))||!eF (t.init.getD i default))=!uT t i:=by unfold uT;rw[Cg,acS];cases eE _<;>cases decide (i=0)<;>cases fL _ _<;>cases eF _<;>rfl
theorem LK(t:aW)(x:eV):((bw (x.aH<0)||bw (15<x.aH)||bw (x.place<0)||bw (255<x.place)||bw (x.loc<0)||bw ((t.aO.length:Int)<=x.loc)||bw (x.bo<0)||bw (31<x.bo)||!eF x.value)||(!bw (x.dir=1)&&!bw (x.dir=2)||bw (x.dir=1)&&!bw (x.value=0)||bw (x.dir=2)&&!bw (x.bo=0)))=!qH t x:=by rw[aoR];simp only[qH,Ac,qY,aox,aoo,aoq,aoz,aoC,an,au,aoA];cases eF x.value<;>simp<;>omega
theorem Bl(i:Nat)(b:Bool):(bw (0<(i:Int))&&!b)=!(decide (i=0)||b):=by rw[Cg,Bool.not_or]
theorem Tq(x:nx):(bw (x.aH<0)||bw (15<x.aH)||bw (x.place<0)||bw (255<x.place)||bw (x.dA<1)||bw (11<x.dA))=!(qY x.aH x.place&&decide (1<=x.dA)&&decide (x.dA<=11)):=by rw[aoR];simp only[qY,aox,aoo,aoq,aoz,aoC,an,au,aoA];omega
end Go.bM
namespace Go.Proofs.bA
theorem agA{ak ah aI bv aG aR ad aT bj:Value}{t:aW}(w:World)(h:fB al w ak ah aI bv aG aR ad aT bj t): bl prog 212 [.agg #[ak,ah,aI,bv,aG,aR,ad,aT,bj]] w λ_ v _=>v=.bool (kZ t&&jP t):=by
 have c0:=h.aO;have fs:=h.init;have cF:=h.J;have iy:=c0.le;have gJ:=fs.le;have j5:=cF.le;refine bZ func212 ntmps212 ?_;refine b7 λaQ=>?_;refine bC (λh1=>?_) λh1=>?_
 ·refine bf λI hw=>?_;have:(kZ t&&jP t)=false:=by simp only[aox,aoq,an,au]at h1;simp only[kZ,jP,aoC,aoA];omega
  rw[this];rfl
 simp only[aoz,aos,an,au]at h1;refine U ?_;refine bX (λi:Nat=>i<=t.aO.length/\∀j,j<i->uT t j=true) (λs=>[(3,true,.int .i64 s),(1,true,av aQ)]) (λs=>Mem [(w,al)] [.box aQ [ak,ah,aI,bv,aG,aR,ad,aT,bj] 41]) (λs=>t.aO.length-s) (0) ⟨by omega,λj ae=>by omega⟩ ?_ ⟨rfl,rfl,trivial⟩ cv
 rintro i ⟨hi,bG⟩;refine a8 (λh2=>?_) λh2=>?_
 ·have bq:i<t.aO.length:=by rw[an]at h2;omega
  refine U ?_;refine cz [0,1,2,3,4,5,6,7,8,9,10,11,12,13,14,15,16,17,18,19,20,21,22,23,24,25,26,27,28,29,30,31,32,33] mixed ?_;refine aN ?_;refine bO _ (h:=bp (λI hw=>Br _ I) ?_);rintro v bx bc rfl cu;refine aF ?_ ek;refine cA _ ek (aN ?_);refine rE ?_ (h:=ev (bb:=λ_ I hw=>Bs _ I));refine aN ?_;refine a8 (λh3=>?_) λh3=>?_
  ·refine bf λI hw=>?_;rw[oh,TO,aoq]at h3;have:kZ t=false:=by simp[kZ,hQ bq h3]
   rw[this];rfl
  rw[oh,TO,aos]at h3;refine U ?_;exact bm ((i+1)) ⟨by omega,jl bG h3⟩ (by omega) (hA:=cv)
 have lN:kZ t=true:=by rw[au]at h2;simp only[kZ,aoo,aop,fT];exact⟨⟨by omega,by omega⟩,λj ae=>bG j (by omega)⟩
 rw[lN,apE];refine U ?_;refine bX (λi:Nat=>i<=t.J.length/\∀j,j<i->lL t j=true) (λs=>[(4,true,.int .i64 s),(1,true,av aQ)]) (λs=>Mem [(w,al)] [.box aQ [ak,ah,aI,bv,aG,aR,ad,aT,bj] 41]) (λs=>t.J.length-s) (0) ⟨by omega,λj ae=>by omega⟩ ?_ ⟨rfl,rfl,trivial⟩ cv
 rintro i ⟨hi,bG⟩;refine a8 (λaA=>?_) λaA=>?_
 ·have da:i<t.J.length:=by rw[an]at aA;omega
  refine U ?_;refine cH λeQ=>?_;refine bN 0 ?_;refine e1 (h:=ev (bb:=λ_ I hw=>Bs _ I)) (ab:=U ?_);refine bC (λa6=>?_) λa6=>?_
  ·refine bf λI hw=>?_;have he:=LK t (t.J.getD i default);rw[a6,Bool.true_or]at he;have ft:lL t i=false:=by rw[lL,show qH t (t.J.getD i default)=false by simpa using he.symm,apy]
   have:jP t=false:=by simp[jP,hQ da ft]
   rw[this];rfl
  refine a8 (λcE=>?_) λcE=>?_
  ·refine bf λI hw=>?_;have he:=LK t (t.J.getD i default);rw[cE,aqZ]at he;have ft:lL t i=false:=by rw[lL,show qH t (t.J.getD i default)=false by simpa using he.symm,apy]
   have:jP t=false:=by simp[jP,hQ da ft]
   rw[this];rfl
  have he:=LK t (t.J.getD i default);rw[a6,cE,aq1,Bool.false_eq,aos]at he;refine U ?_;refine cz [0,1,2,3,4,5,6,7,8,9,10,11,12,13,14,15,16,17,18,19,20,21,22,23] mixed ?_;refine aN ?_;refine rE ?_ (h:=ev (bb:=λ_ I hw=>GD _ _ _ _ I));refine aN ?_;refine a8 (λdL=>?_) λdL=>?_
  ·refine bf λI hw=>?_;rw[oh,Bl,aoq]at dL;have ft:lL t i=false:=by rw[lL,dL,apu]
   have:jP t=false:=by simp[jP,hQ da ft]
   rw[this];rfl
  rw[oh,Bl,aos]at dL;refine U ?_;exact bm ((i+1)) ⟨by omega,jl bG (by rw[lL,he,dL];rfl)⟩ (by omega) (hA:=bD [1])
 refine bf λI hw=>?_;have:jP t=true:=by rw[au]at aA;simp only[jP,aoo,aop,fT];exact⟨by omega,λj ae=>bG j (by omega)⟩
 rw[this];rfl
end Go.Proofs.bA
