/- Lemmas for the law WholeSound. -/
import Derived.Test.YtiknadellddjhaaGreatDoorS01
set_option linter.all false
open Go.Proofs.Tryz
set_option maxHeartbeats 1600000
open Go.cc Go Go.bU
attribute [local irreducible] Go.wpList Go.Code.wp Go.bodyPost Go.Exit.then Go.Exit.inBlock Go.Calls
namespace Go.bU
structure a1 where
 bb:List ByteArray
 init:List Int
 J:List eL
 bars:List ny
 addr:List b5
 data:List b5
 ba:List b5
 cw:List cE
 ends:List gG
def eJ(n:Int):Bool:=decide (-2147483648<=n)&&decide (n<=2147483647)
def kn(b:Nat):Bool:=(decide (97<=b)&&decide (b<=122))||(decide (65<=b)&&decide (b<=90))
def xL(b:Nat):Bool:=(decide (48<=b)&&decide (b<=57))||decide (b=95)
def nD(s:ByteArray)(i:Nat):Bool:=kn (dM s i)||(decide (0<i)&&xL (dM s i))
def eC(s:ByteArray):Bool:=decide (1<=s.size)&&decide (s.size<=32)&&(List.range s.size).all (nD s)
def tz(bu pl:Int):Bool:=decide (0<=bu)&&decide (bu<16)&&decide (0<=pl)&&decide (pl<256)
def jh(a p b q:Int):Bool:=decide (a<b)||(decide (a=b)&&decide (p<q))
def yC(t:a1)(i:Nat):Bool:=eC (t.bb.getD i default)&&(decide (i=0)||gT (t.bb.getD (i-1) default) (t.bb.getD i default))&&eJ (t.init.getD i default)
def o4(t:a1):Bool:=decide (t.bb.length<=64)&&decide (t.init.length=t.bb.length)&&(List.range t.bb.length).all (yC t)
def DX(x:eL):Bool:=(decide (x.dir=1)&&decide (x.value=0))||(decide (x.dir=2)&&decide (x.bq=0))
def vg(t:a1)(x:eL):Bool:=tz x.aI x.place&&decide (0<=x.loc)&&decide (x.loc<t.bb.length)&&eJ x.value&&decide (0<=x.bq)&&decide (x.bq<=31)&&DX x
def pY(t:a1)(i:Nat):Bool:=vg t (t.J.getD i default)&&(decide (i=0)||jh (t.J.getD (i-1) default).aI (t.J.getD (i-1) default).place (t.J.getD i default).aI (t.J.getD i default).place)
def oP(t:a1):Bool:=decide (t.J.length<=64)&&(List.range t.J.length).all (pY t)
def Hc(t:a1)(b:ny):Bool:=(List.range t.J.length).all λk=>!(decide ((t.J.getD k default).aI=b.aI)&&decide ((t.J.getD k default).place=b.place))
def sO(t:a1)(i:Nat):Bool:=tz (t.bars.getD i default).aI (t.bars.getD i default).place&&decide (1<=(t.bars.getD i default).dE)&&decide ((t.bars.getD i default).dE<=11)&& (decide (i=0)||jh (t.bars.getD (i-1) default).aI (t.bars.getD (i-1) default).place (t.bars.getD i default).aI (t.bars.getD i default).place)&&Hc t (t.bars.getD i default)
def q1(t:a1):Bool:=decide (t.bars.length<=4096)&&(List.range t.bars.length).all (sO t)
def aN(t:a1)(n:Int):eL:=t.J.getD n.toNat default
def CP(t:a1)(w:Bool)(p:b5):Bool:=decide (0<=p.A)&&decide (p.A<p.B)&&decide (p.B<t.J.length)&&decide ((aN t p.A).dir=1)&&decide ((aN t p.A).aI=(aN t p.B).aI)&&(!w||decide ((aN t p.B).dir=2))
def vX(t:a1)(l:List b5)(w:Bool)(i:Nat):Bool:=CP t w (l.getD i default)&&(decide (i=0)||jh (l.getD (i-1) default).A (l.getD (i-1) default).B (l.getD i default).A (l.getD i default).B)
def pa(t:a1)(l:List b5)(w:Bool):Bool:=(List.range l.length).all (vX t l w)
def zt(t:a1)(x:cE)(e:gG):Bool:=(decide (e.kind=1)&&eJ e.n)||(decide (e.kind=2)&&decide (0<=e.n)&&decide (e.n<t.J.length)&&decide ((aN t e.n).dir=1)&&decide ((aN t e.n).aI=x.aI))
def CE(t:a1)(x:cE)(e:gG):Bool:=match t.bb.findIdx? (λs=>decide (s=x.loc))with
 | some k=>decide (x.bq=0)&&decide (e.kind=3)&&decide (e.n=(k:Int))
 | none=>false
def tD(t:a1)(x:cE)(e:gG):Bool:=if x.aI= -1 then CE t x e else decide (0<=x.aI)&&decide (x.aI<16)&&decide (0<=x.bq)&&decide (x.bq<=31)&&decide (x.loc=ByteArray.empty)&&zt t x e
def iv(a b:cE):Bool:=if a.aI= -1\/b.aI= -1 then !decide (a.aI= -1)||(decide (b.aI= -1)&&gT a.loc b.loc)else if a.aI=b.aI then decide (a.bq<b.bq)else decide (a.aI<b.aI)
def AX(t:a1)(i:Nat):Bool:=tD t (t.cw.getD i default) (t.ends.getD i default)&&(decide (i=0)||iv (t.cw.getD (i-1) default) (t.cw.getD i default))
def uK(t:a1):Bool:=decide (t.cw.length=t.ends.length)&&decide (t.cw.length<=1024)&&(List.range t.cw.length).all (AX t)
def gL(t:a1):Bool:=o4 t&&oP t&&q1 t&&pa t t.addr false&&pa t t.data true&&pa t t.ba false&&uK t
structure ha(S:Nat->Prop)(w:World)(lv aj aN bv aK aX ae aU bE:Value)(t:a1):Prop where
 bb:aV S w dV 1 lv t.bb
 init:aV S w bd 1 aj t.init
 J:aV S w ec 6 aN t.J
 bars:aV S w fE 3 bv t.bars
 addr:aV S w bz 2 aK t.addr
 data:aV S w bz 2 aX t.data
 ba:aV S w bz 2 ae t.ba
 cw:aV S w ev 3 aU t.cw
 ends:aV S w pv 2 bE t.ends
theorem ha.now{S:Nat->Prop}{B I:World}{lv aj aN bv aK aX ae aU bE:Value}{t:a1}{bs:List dr}{H:List aA}(h:ha S B lv aj aN bv aK aX ae aU bE t)(hw:Mem bs H I)(hB:(B,S)∈bs:=by repeat (first | exact List.Mem.head _ | refine List.Mem.tail _ ?_)):ha an I lv aj aN bv aK aX ae aU bE t:=⟨hw.now h.bb hB,hw.now h.init hB,hw.now h.J hB,hw.now h.bars hB,hw.now h.addr hB,hw.now h.data hB,hw.now h.ba hB,hw.now h.cw hB,hw.now h.ends hB⟩
theorem fX{n:Nat}{p:Nat->Bool}:(List.range n).all p=true↔∀i,i<n->p i=true:=by simp
theorem kx{n:Nat}{p:Nat->Bool}{i:Nat}(hi:i<n)(h:p i=false):(List.range n).all p=false:=by rw[List.all_eq_false];exact⟨i,amH.2 hi,by simp[h]⟩
theorem vZ(i:Nat):((i:Int)-1).toNat=i-1:=by omega
theorem Hx(i:Nat):bO (0<(i:Int))=!decide (i=0):=by
 rw[ch];by_cases h:i=0
 ·simp[h]
 have:0<(i:Int):=by omega
 simp[h];omega
theorem kq{p:Nat->Bool}{i:Nat}(h:∀j,j<i->p j=true)(hp:p i=true):∀j,j<i+1->p j=true:=λj ad=>by
 by_cases kh:j<i
 ·exact h j kh
 obtain rfl:j=i:=by omega
 exact hp
theorem QG(t:a1)(i:Nat):(!eC (t.bb.getD i default)||bO (0<(i:Int))&&!gT (t.bb.getD ((i:Int)-1).toNat default) (t.bb.getD i default)||!eJ (t.init.getD i default))=!yC t i:=by unfold yC;rw[vZ,Hx];cases eC _<;>cases decide (i=0)<;>cases gT _ _<;>cases eJ _<;>rfl
theorem Vs(a p b q:Int):(bO (b<a)||bO (a=b)&&bO (q<=p))=!jh a p b q:=by rw[amN];simp only[jh,amr,ami,amk,amt,amx,aq,amu];omega
theorem za(i:Nat)(a p b q:Int):(bO (0<(i:Int))&&(bO (b<a)||bO (a=b)&&bO (q<=p)))=!(decide (i=0)||jh a p b q):=by rw[Vs,Hx,Bool.not_or]
theorem HG(t:a1)(x:eL):((!tz x.aI x.place||bO (x.loc<0)||bO ((t.bb.length:Int)<=x.loc)||!eJ x.value||bO (x.bq<0)||bO (31<x.bq))||(!bO (x.dir=1)&&!bO (x.dir=2)||bO (x.dir=1)&&!bO (x.value=0)||bO (x.dir=2)&&!bO (x.bq=0)))=!vg t x:=by rw[amN];simp only[vg,DX,amr,ami,amk,amt,amx,aq,ar,amu];cases tz x.aI x.place<;>cases eJ x.value<;>simp<;>omega
end Go.bU
namespace Go.Proofs.bK
theorem ag6(s:ByteArray)(w:World)  : bj prog 265 [.string s] w λ_ v _=>v=.bool (eC s):=by
 refine ca func265 ntmps265 ?_;refine bA (λh1=>?_) λh1=>?_
 ·refine bl λI hw=>?_;have:eC s=false:=by simp only[amr,aq]at h1;simp only[eC,amx,amu];omega
  rw[this];rfl
 refine aa ?_;simp only[amt,ar]at h1;refine b9 (λi:Nat=>i<=s.size/\∀j,j<i->nD s j=true) (λs'=>[(3,true,.int .i64 s'),(0,true,.string s)]) (λ_=>Mem [(w,an)] []) (λi=>s.size-i) (0) ⟨by omega,λj ad=>by omega⟩ ?_ ⟨rfl,rfl,trivial⟩ c7
 rintro i ⟨hi,bS⟩;refine bg (λh2=>?_) λh2=>?_
 ·have bF:i<s.size:=by rw[aq]at h2;omega
  refine bg (λh3=>?_) λh3=>?_
  ·refine bl λI hw=>?_;have:eC s=false:=by
    have:nD s i=false:=by simp only[amt,amx,amk,ar]at h3;simp only[nD,kn,xL,amt,amx,amu];omega
    simp[eC,kx bF this]
   rw[this];rfl
  refine aa ?_;refine bt ((i+1)) ⟨by omega,λj ad=>?_⟩ (by omega) (hA:=c7);by_cases kh:j<i
  ·exact bS j kh
  obtain rfl:j=i:=by omega
  simp only[amr,ami,amm,aq]at h3;simp only[nD,kn,xL,amr,ami,amj];omega
 refine bl λI hw=>?_;have:eC s=true:=by rw[ar]at h2;simp only[eC,ami,amj,fX];exact⟨⟨by omega,by omega⟩,λj ad=>bS j (by omega)⟩
 rw[this];rfl
theorem LB(n:Int)(w:World)  : bj prog 266 [.int .i64 n] w λ_ v _=>v=.bool (eJ n):=by refine ca func266 ntmps266 ?_;refine bP rfl (.t1 rfl) λI hw=>?_;simp only[eJ,ch];rfl
theorem T1(aI:Int)(place:Int)(w:World)  : bj prog 267 [.int .i64 aI,.int .i64 place] w λ_ v _=>v=.bool (tz aI place):=by refine ca func267 ntmps267 ?_;refine bP rfl (.t1 rfl) λI hw=>?_;simp only[tz,ch];rfl
theorem aha{lv aj aN bv aK aX ae aU bE:Value}{t:a1}(w:World)(h:ha an w lv aj aN bv aK aX ae aU bE t): bj prog 177 [.agg #[lv,aj,aN,bv,aK,aX,ae,aU,bE]] w λ_ v _=>v=.bool (o4 t):=by
 have c6:=h.bb;have fi:=h.init;have ja:=c6.le;have gB:=fi.le;refine ca func177 ntmps177 ?_;refine ck λaT=>?_;refine bA (λh1=>?_) λh1=>?_
 ·refine bl λI hw=>?_;have:o4 t=false:=by simp only[amr,amk,aq,ar]at h1;simp only[o4,amx,amu];omega
  rw[this];rfl
 simp only[amt,amm,ar,aq]at h1;refine aa ?_;refine b9 (λi:Nat=>i<=t.bb.length/\∀j,j<i->yC t j=true) (λs=>[(21,true,.int .i64 s),(20,true,.int .i64 t.bb.length),(19,true,lv),(1,true,ax aT)]) (λs=>Mem [(w,an)] [.box aT [lv,aj,aN,bv,aK,aX,ae,aU,bE] 41]) (λi=>t.bb.length-i) (0) ⟨by omega,λj ad=>by omega⟩ ?_ ⟨rfl,rfl,rfl,rfl,trivial⟩ c7
 rintro i ⟨hi,bS⟩;refine bg (λh2=>?_) λh2=>?_
 ·have bF:i<t.bb.length:=by rw[aq]at h2;omega
  refine aa ?_;refine ao (bw (λI hw=>ag6 _ I) ?_);rintro v bx a6 rfl cA;refine aa ?_;refine fm (h:=eY (a7:=λ_ I hw=>LB _ I)) (ab:=aa ?_);refine bA (λh3=>?_) λh3=>?_
  ·refine bl λI hw=>?_;rw[QG,amk]at h3;have:o4 t=false:=by simp[o4,kx bF h3]
   rw[this];rfl
  refine aa ?_;rw[QG,amm]at h3;exact bt ((i+1)) ⟨by omega,kq bS h3⟩ (by omega) (hA:=c7)
 refine bl λI hw=>?_;have:o4 t=true:=by rw[ar]at h2;simp only[o4,ami,amj,fX];exact⟨⟨by omega,by omega⟩,λj ad=>bS j (by omega)⟩
 rw[this];rfl
theorem ag2{lv aj aN bv aK aX ae aU bE:Value}{t:a1}(w:World)(h:ha an w lv aj aN bv aK aX ae aU bE t): bj prog 178 [.agg #[lv,aj,aN,bv,aK,aX,ae,aU,bE]] w λ_ v _=>v=.bool (oP t):=by
 have c6:=h.bb;have cP:=h.J;have ja:=c6.le;have lk:=cP.le;refine ca func178 ntmps178 ?_;refine ck λaT=>?_;refine bA (λh1=>?_) λh1=>?_
 ·refine bl λI hw=>?_;have:oP t=false:=by rw[aq]at h1;simp only[oP,amx,amu];omega
  rw[this];rfl
 rw[ar]at h1;refine aa ?_;refine b9 (λi:Nat=>i<=t.J.length/\∀j,j<i->pY t j=true) (λs=>[(12,true,.int .i64 s),(11,true,.int .i64 t.J.length),(10,true,aN),(1,true,ax aT)]) (λs=>Mem [(w,an)] [.box aT [lv,aj,aN,bv,aK,aX,ae,aU,bE] 41]) (λs=>t.J.length-s) (0) ⟨by omega,λj ad=>by omega⟩ ?_ ⟨rfl,rfl,rfl,rfl,trivial⟩ c7
 rintro i ⟨hi,bS⟩;refine bg (λh2=>?_) λh2=>?_
 ·have bF:i<t.J.length:=by rw[aq]at h2;omega
  refine aa ?_;refine cU λbe=>?_;refine bQ 0 ?_;refine ao (bw (λI hw=>T1 _ _ I) ?_);rintro v bx a6 rfl cA;refine aa ?_;refine fm (h:=eY (a7:=λ_ I hw=>LB _ I)) (ab:=aa ?_);refine bA (λh3=>?_) λh3=>?_
  ·refine bl λI hw=>?_;have he:=HG t (t.J.getD i default);rw[h3,Bool.true_or]at he;have gX:pY t i=false:=by rw[pY,show vg t (t.J.getD i default)=false by simpa using he.symm,anT]
   have:oP t=false:=by simp[oP,kx bF gX]
   rw[this];rfl
  refine bg (λaC=>?_) λaC=>?_
  ·refine bl λI hw=>?_;have he:=HG t (t.J.getD i default);rw[aC,aoR]at he;have gX:pY t i=false:=by rw[pY,show vg t (t.J.getD i default)=false by simpa using he.symm,anT]
   have:oP t=false:=by simp[oP,kx bF gX]
   rw[this];rfl
  refine aa ?_;refine cV [0,1,2,3,4,5,6,7,8,9,10,11,12,13,14,15,16,17,18,19,20,21,22,23,24,25,26,27,28,29,30,31,32,33,34,35,36,37] mixed ?_;refine aP ?_;refine bg (λaW=>?_) λaW=>?_
  ·refine bl λI hw=>?_;rw[vZ,za,amk]at aW;have gX:pY t i=false:=by rw[pY,aW,anM]
   have:oP t=false:=by simp[oP,kx bF gX]
   rw[this];rfl
  refine aa ?_;have he:=HG t (t.J.getD i default);rw[h3,aC,aoU,Bool.false_eq,amm]at he;rw[vZ,za,amm]at aW;exact bt ((i+1)) ⟨by omega,kq bS (by rw[pY,he,aW];rfl)⟩ (by omega) (hA:=bM [1])
 refine bl λI hw=>?_;have:oP t=true:=by rw[ar]at h2;simp only[oP,ami,amj,fX];exact⟨by omega,λj ad=>bS j (by omega)⟩
 rw[this];rfl
end Go.Proofs.bK
namespace Go.bU
theorem MQ(x:ny):(!tz x.aI x.place||bO (x.dE<1)||bO (11<x.dE))=!(tz x.aI x.place&&decide (1<=x.dE)&&decide (x.dE<=11)):=by rw[amN];simp only[amr,ami,amk,amt,amx,aq,ar,amu];cases tz x.aI x.place<;>simp<;>omega
def FP(t:a1)(b:ny)(k:Nat):Bool:=!(decide ((t.J.getD k default).aI=b.aI)&&decide ((t.J.getD k default).place=b.place))
theorem MP(t:a1)(b:ny):Hc t b=(List.range t.J.length).all (FP t b):=rfl
theorem Ro(t:a1)(b:ny)(k:Nat):(bO ((t.J.getD k default).aI=b.aI)&&bO ((t.J.getD k default).place=b.place))=!FP t b k:=by rw[FP,Bool.not_not,ch,ch]
theorem RM(t:a1)(w:Bool)(p:b5):(bO (p.A<0)||bO (p.B<=p.A)||bO ((t.J.length:Int)<=p.B)||!bO ((t.J.getD p.A.toNat default).dir=1)||!bO ((t.J.getD p.A.toNat default).aI=(t.J.getD p.B.toNat default).aI)||w&&!bO ((t.J.getD p.B.toNat default).dir=2))=!CP t w p:=by rw[amN];simp only[CP,aN,amr,ami,amk,amt,amx,aq,ar,amu];cases w<;>simp<;>omega
end Go.bU
namespace Go.Proofs.bK
theorem agY{lv aj aN bv aK aX ae aU bE:Value}{t:a1}(w:World)(h:ha an w lv aj aN bv aK aX ae aU bE t): bj prog 179 [.agg #[lv,aj,aN,bv,aK,aX,ae,aU,bE]] w λ_ v _=>v=.bool (q1 t):=by
 have hB:=h.bars;have cP:=h.J;have lj:=hB.le;have lk:=cP.le;refine ca func179 ntmps179 ?_;refine ck λaT=>?_;refine bA (λh1=>?_) λh1=>?_
 ·refine bl λI hw=>?_;have:q1 t=false:=by rw[aq]at h1;simp only[q1,amx,amu];omega
  rw[this];rfl
 rw[ar]at h1;refine aa ?_;refine b9 (λi:Nat=>i<=t.bars.length/\∀j,j<i->sO t j=true) (λs=>[(14,true,.int .i64 s),(13,true,.int .i64 t.bars.length),(12,true,bv),(1,true,ax aT)]) (λs=>Mem [(w,an)] [.box aT [lv,aj,aN,bv,aK,aX,ae,aU,bE] 41]) (λs=>t.bars.length-s) (0) ⟨by omega,λj ad=>by omega⟩ ?_ ⟨rfl,rfl,rfl,rfl,trivial⟩ c7
 rintro i ⟨hi,bS⟩;refine bg (λh2=>?_) λh2=>?_
 ·have bF:i<t.bars.length:=by rw[aq]at h2;omega
  refine aa ?_;refine cU λdc=>?_;refine bQ 0 ?_;refine ao (bw (λI hw=>T1 _ _ I) ?_);rintro v bx a6 rfl cA;refine bg (λh3=>?_) λh3=>?_
  ·refine bl λI hw=>?_;rw[MQ,amk]at h3;have gX:sO t i=false:=by rw[sO,h3,anT,anT]
   have:q1 t=false:=by simp[q1,kx bF gX]
   rw[this];rfl
  rw[MQ,amm]at h3;refine aa ?_;refine cV [0,1,2,3,4,5,6,7,8,9,10,11,12,13,14,15,16,17,18,19,20,21,22,23,24,25,26,27,28,29,30,31,32,33,34,35,36,37] mixed ?_;refine aP ?_;refine bg (λaC=>?_) λaC=>?_
  ·refine bl λI hw=>?_;rw[vZ,za,amk]at aC;have gX:sO t i=false:=by rw[sO,aC,anM,anT]
   have:q1 t=false:=by simp[q1,kx bF gX]
   rw[this];rfl
  rw[vZ,za,amm]at aC;refine aa ?_;refine b9 (λk:Nat=>k<=t.J.length/\∀j,j<k->FP t (t.bars.getD i default) j=true) (λs=>[(76,true,.int .i64 s),(75,true,.int .i64 t.J.length),(74,true,aN),(14,true,.int .i64 i),(13,true,.int .i64 t.bars.length),(12,true,bv),(4,true,ax dc),(1,true,ax aT)]) (λs=>Mem [(w,an)] [.box dc [.int .i64 (t.bars.getD i default).aI,.int .i64 (t.bars.getD i default).place,.int .i64 (t.bars.getD i default).dE] 140,.box aT [lv,aj,aN,bv,aK,aX,ae,aU,bE] 41]) (λs=>t.J.length-s) (0) ⟨by omega,λj ad=>by omega⟩ ?_ ⟨rfl,rfl,rfl,rfl,rfl,rfl,rfl,rfl,trivial⟩ c7
  rintro k ⟨hk,ES⟩;refine bg (λaW=>?_) λaW=>?_
  ·have oT:k<t.J.length:=by rw[aq]at aW;omega
   refine aa ?_;refine cU λbe=>?_;refine bQ 0 ?_;refine bA (λcM=>?_) λcM=>?_
   ·refine bl λI hw=>?_;rw[Ro,amk]at cM;have gX:sO t i=false:=by rw[sO,MP,kx oT cM,anM]
    have:q1 t=false:=by simp[q1,kx bF gX]
    rw[this];rfl
   rw[Ro,amm]at cM;refine aa ?_;exact bt ((k+1)) ⟨by omega,kq ES cM⟩ (by omega) (hA:=bV [1,2])
  rw[ar]at aW;have he:sO t i=true:=by rw[sO,h3,aC,MP,fX.2 λj ad=>ES j (by omega)];rfl
  refine aa ?_;exact bt ((i+1)) ⟨by omega,kq bS he⟩ (by omega) (hA:=bM [1])
 refine bl λI hw=>?_;have:q1 t=true:=by rw[ar]at h2;simp only[q1,ami,amj,fX];exact⟨by omega,λj ad=>bS j (by omega)⟩
 rw[this];rfl
theorem LF{lv aj aN bv aK aX ae aU bE:Value}{t:a1}(iQ:Value)(l:List b5)(wr:Bool)(w:World)(h:ha an w lv aj aN bv aK aX ae aU bE t)(aB:aV an w bz 2 iQ l): bj prog 180 [.agg #[lv,aj,aN,bv,aK,aX,ae,aU,bE],iQ,.bool wr] w λ_ v _=>v=.bool (pa t l wr):=by
 have cP:=h.J;have lk:=cP.le;have ja:=aB.le;refine ca func180 ntmps180 ?_;refine ck λaT=>?_;refine b9 (λi:Nat=>i<=l.length/\∀j,j<i->vX t l wr j=true) (λs=>[(15,true,.int .i64 s),(14,true,.int .i64 l.length),(13,true,iQ),(7,true,.int .i64 t.J.length),(3,true,ax aT),(2,true,.bool wr),(1,true,iQ)]) (λs=>Mem [(w,an)] [.box aT [lv,aj,aN,bv,aK,aX,ae,aU,bE] 41]) (λs=>l.length-s) (0) ⟨by omega,λj ad=>by omega⟩ ?_ ⟨rfl,rfl,rfl,rfl,rfl,rfl,rfl,trivial⟩ c7
 rintro i ⟨hi,bS⟩;refine bg (λh1=>?_) λh1=>?_
 ·have cb:i<l.length:=by rw[aq]at h1;omega
  refine aa ?_;refine cU λBu=>?_;refine bQ 0 ?_;refine cV [0,1,2,3,4,5,6,7,8,9,10,11,12,13,14,15,16,17,18,19,20,21,22,23,24,25,26,27,28,29,30,31,32,33,34,35,36,37,38,39,40,41,42,43,44,45,46,47,48,49,50,51,52,53,54,55] mixed ?_;refine aP ?_;refine bg (λh2=>?_) λh2=>?_
  ·refine bl λI hw=>?_;rw[RM,amk]at h2;have gX:vX t l wr i=false:=by rw[vX,h2,anT]
   have:pa t l wr=false:=by simp[pa,kx cb gX]
   rw[this];rfl
  rw[RM,amm]at h2;refine aa ?_;refine cV [0,1,2,3,4,5,6,7,8,9,10,11,12,13,14,15,16,17,18,19,20,21,22,23,24,25,26,27,28,29,30,31,32,33,34] mixed ?_;refine aP ?_;refine bg (λh3=>?_) λh3=>?_
  ·refine bl λI hw=>?_;rw[vZ,za,amk]at h3;have gX:vX t l wr i=false:=by rw[vX,h3,anM]
   have:pa t l wr=false:=by simp[pa,kx cb gX]
   rw[this];rfl
  rw[vZ,za,amm]at h3;refine aa ?_;exact bt ((i+1)) ⟨by omega,kq bS (by rw[vX,h2,h3];rfl)⟩ (by omega) (hA:=bV [1])
 refine bl λI hw=>?_;have:pa t l wr=true:=by rw[ar]at h1;simp only[pa,fX];exact λj ad=>bS j (by omega)
 rw[this];rfl
end Go.Proofs.bK
namespace Go.bU
theorem M8:∀x:List UInt8,Op.bytesLess x x=false
 | []=>rfl
 | a::x=>by simp[Op.bytesLess,M8 x,UInt8.lt_irrefl]
theorem Na:∀x y z:List UInt8,Op.bytesLess x y=true->Op.bytesLess y z=true->Op.bytesLess x z=true
 | [],[],_,h,_=>by simp[Op.bytesLess]at h
 | [],_::_,[],_,h=>by simp[Op.bytesLess]at h
 | [],_::_,_::_,_,_=>by simp[Op.bytesLess]
 | _::_,[],_,h,_=>by simp[Op.bytesLess]at h
 | _::_,_::_,[],_,h=>by simp[Op.bytesLess]at h
 | a::x,b::y,c::z,h1,h2=>by
  simp only[Op.bytesLess,amr,ami,amj,an1]at h1 h2⊢;rcases h1 with h1 | ⟨rfl,h1⟩
  ·rcases h2 with h2 | ⟨rfl,h2⟩
   ·exact .inl (UInt8.lt_trans h1 h2)
   exact .inl h1
  rcases h2 with h2 | ⟨rfl,h2⟩
  ·exact .inl h2
  exact .inr ⟨rfl,Na x y z h1 h2⟩
theorem vN(s:ByteArray):gT s s=false:=M8 _
theorem xe{s u v:ByteArray}(h1:gT s u=true)(h2:gT u v=true):gT s v=true:=Na _ _ _ h1 h2
def sK(xs:List ByteArray):Prop:=∀i,0<i->i<xs.length->gT (xs.getD (i-1) default) (xs.getD i default)=true
theorem sK.lt{xs:List ByteArray}(h:sK xs)(i:Nat):∀j,i<j->j<xs.length->gT (xs.getD i default) (xs.getD j default)=true
 | 0,hN,_=>by omega
 | j+1,hN,ad=>by
  have h1:=h (j+1) (by omega) ad;by_cases he:i=j
  ·subst he;exact h1
  exact xe (h.lt i j (by omega) (by omega)) h1
theorem sK.uniq{xs:List ByteArray}(h:sK xs){i j:Nat}{s:ByteArray}(hi:i<xs.length)(ad:j<xs.length)(h1:xs.getD i default=s)(h2:xs.getD j default=s):i=j:=by
 rcases aoV i j with h3 | h3 | h3
 ·have:=h.lt i j h3 ad;rw[h1,h2,vN]at this;cases this
 ·exact h3
 have:=h.lt j i h3 hi;rw[h1,h2,vN]at this;cases this
theorem abT{t:a1}(h:o4 t=true):sK t.bb/\t.bb.length<=64:=by
 simp only[o4,ami,amj,fX]at h;refine⟨λi h0 hi=>?_,h.1.1⟩;have:=h.2 i hi;simp only[yC,ami,amr,amj]at this;rcases this.1.2 with h1 | h1
 ·omega
 exact h1
def DC(xs:List ByteArray)(s:ByteArray)(k:Nat)(b:Bool):Prop:=(b=true->k<xs.length/\xs.getD k default=s)/\(b=false->∀q,q<xs.length->xs.getD q default≠s)
theorem agu{xs:List ByteArray}{s:ByteArray}(hu:sK xs){i:Nat}(hi:i<=xs.length)(h1:∀q,q<i->gT (xs.getD q default) s=true)(h2:∀q,i<=q->q<xs.length->gT (xs.getD q default) s=false): DC xs s i (bO ((i:Int)<(xs.length:Int))&&(bO (xs.getD i default=s)||false&&false)):=by
 refine⟨λh=>?_,λh q aZ he=>?_⟩
 ·simp only[ami,amr,aq]at h;exact⟨by omega,h.2.resolve_right (by simp)⟩
 simp only[amx,amt,ar]at h;rcases aoV q i with h3 | h3 | h3
 ·have:=h1 q h3;rw[he,vN]at this;cases this
 ·subst h3;rcases h with h | h
  ·omega
  exact h.1 he
 have aC:=h2 i (amK _) (by omega);have aW:=hu.lt i q h3 aZ;rw[he,aC]at aW;cases aW
theorem abR{t:a1}(hu:sK t.bb)(x:cE)(e:gG){k:Nat}{b:Bool}(h:DC t.bb x.loc k b): (b&&bO (x.bq=0)&&bO (e.kind=3)&&bO (e.n=(k:Int)))=CE t x e:=by
 unfold CE;cases hb:t.bb.findIdx? (λs=>decide (s=x.loc))with
 | none=>
  cases b with
  | false=>rfl
  | true=>obtain⟨h1,h2⟩:=h.1 rfl;rw[List.findIdx?_eq_none_iff]at hb;have:=hb _ (amF (getD_some h1));rw[h2]at this;simp at this
 | some q=>
  rw[List.findIdx?_eq_some_iff_getElem]at hb;obtain⟨h1,h2,h3⟩:=hb;have aZ:t.bb.getD q default=x.loc:=by rw[aml,amp h1,anE];simpa using h2
  cases b with
  | false=>exact absurd aZ (h.2 rfl q h1)
  | true=>obtain⟨aC,aW⟩:=h.1 rfl;obtain rfl:=hu.uniq h1 aC aZ aW;simp only[anA,ch]
theorem ach{i j:Nat}(h1:i<j)(h2:j<=1000000):(BitVec.ofInt 64 ((i:Int)+(j:Int))>>>(1#64).toNat).toNat=(i+j) / 2:=by
 have:(BitVec.ofInt 64 ((i:Int)+(j:Int))).toNat=i+j:=by simp;omega
 rw[BitVec.toNat_ushiftRight,this,Nat.shiftRight_eq_div_pow];rfl
theorem G7(a b:cE):(if(bO (a.aI= -1)||bO (b.aI= -1))=true then !bO (a.aI= -1)||bO (b.aI= -1)&&gT a.loc b.loc else if bO (a.aI=b.aI)=true then bO (a.bq<b.bq)else bO (a.aI<b.aI))=iv a b:=by unfold iv;simp only[amr,ch,amj]
end Go.bU
namespace Go.Proofs.bK
theorem Ty(x:ByteArray)(w:World)  : bj prog 68 [.string x] w λ_ v _=>v=.bool false:=by refine ca func68 ntmps68 ?_;refine bP rfl (.t1 rfl) λI hw=>?_;simp[ch];rfl
theorem Nk(x:ByteArray)(w:World)  : bj prog 144 [.string x] w λ_ v _=>v=.bool false:=by refine ca func144 ntmps144 ?_;refine bP rfl (.t1 rfl) λI hw=>?_;simp[ch];rfl
theorem Wa(x:ByteArray)(y:ByteArray)(w:World)  : bj prog 67 [.string x,.string y] w λ_ v _=>v=.bool (gT x y):=by refine ca func67 ntmps67 ?_;refine ao (bw (λI hw=>Nk _ I) ?_);rintro v bx a6 rfl cA;refine aa ?_;refine fm (h:=eY (a7:=λ_ I hw=>Nk _ I)) (ab:=aa ?_);refine bP rfl (.t1 rfl) λI hw=>?_;simp;rfl
theorem xE(Dr:Value)(target:ByteArray)(xs:List ByteArray)(w:World)(hx:aV an w dV 1 Dr xs)(hu:sK xs)(hb:xs.length<=1000000): bj prog 21 [Dr,.string target] w λ_ v _=>∃k:Nat,∃b:Bool,v=.tuple #[.int .i64 (k:Int),.bool b]/\DC xs target k b:=by
 have aB:=hx.le;refine ca func21 ntmps21 ?_;refine b9 (λs:Nat×Nat=>s.2<=s.1/\s.1<=xs.length/\(∀q,q<s.2->gT (xs.getD q default) target=true)/\(∀q,s.1<=q->q<xs.length->gT (xs.getD q default) target=false)) (λs=>[(8,true,.int .i64 s.1),(7,true,.int .i64 s.2),(6,true,.int .i64 xs.length),(1,true,.string target),(0,true,Dr)]) (λs=>Mem [(w,an)] []) (λs=>s.1-s.2) (xs.length,0) ⟨by omega,by omega,λq aZ=>absurd aZ (by simp),λq aZ vw=>absurd aZ (by simp only;omega)⟩ ?_ ⟨rfl,rfl,rfl,rfl,rfl,trivial⟩ c7
 rintro⟨j,i⟩ ⟨hN,ad,eZ,IA⟩;dsimp only at ad hN eZ IA⊢;refine bg (λh1=>?_) λh1=>?_
 ·rw[aq]at h1;have hm:=ach (i:=i) (j:=j) (by omega) (by omega);have B1:(i+j) / 2<xs.length:=by omega
  have Pm:(BitVec.ofInt 64 ((i:Int)+(j:Int))>>>(1#64).toNat).toNat<9223372036854775808:=by rw[hm];omega
  have Y7:(BitVec.ofInt 64 ((i:Int)+(j:Int))>>>(1#64).toNat).toNat<xs.length:=by rw[hm];omega
  refine aa ?_;refine ao (bw (λI hw=>Wa _ _ I) ?_);rintro v bx a6 rfl cA;rw[hm];refine bg (λh2=>?_) λh2=>?_
  ·refine aa ?_;refine bt (j,(i+j) / 2+1) ⟨by simp only;omega,ad,λq aZ=>?_,IA⟩ (by omega) (hA:=c7);simp only at aZ;by_cases kD:q=(i+j) / 2
   ·rw[kD];exact h2
   exact xe (hu.lt q _ (by omega) B1) h2
  refine aa ?_;refine bt ((i+j) / 2,i) ⟨by simp only;omega,by simp only;omega,eZ,λq aZ vw=>?_⟩ (by omega) (hA:=c7);simp only at aZ;by_cases kD:q=(i+j) / 2
  ·rw[kD];exact h2
  refine amP.2 λh3=>?_;rw[xe (hu.lt _ q (by omega) vw) h3]at h2;cases h2
 rw[ar]at h1;obtain rfl:i=j:=by omega
 refine aa ?_;refine fm (h:=eY (a7:=λ_ I hw=>Ty _ I)) (ab:=aa ?_);refine fm (h:=eY (a7:=λ_ I hw=>Ty _ I)) (ab:=aa ?_);refine bP rfl (.tmp rfl (.t1 rfl)) λI hw=>?_;exact⟨i,_,rfl,agu hu ad eZ IA⟩
theorem agW(a b:cE)(w:World)  : bj prog 182 [.agg #[.int .i64 a.aI,.int .i64 a.bq,.string a.loc],.agg #[.int .i64 b.aI,.int .i64 b.bq,.string b.loc]] w λ_ v _=>v=.bool (iv a b):=by
 refine ca func182 ntmps182 ?_;refine ck λdS=>?_;refine ck λdc=>?_;refine bA (λh1=>?_) λh1=>?_
 ·refine bl λI hw=>?_;rw[<-G7,amo h1];rfl
 refine bg (λh2=>?_) λh2=>?_
 ·refine bl λI hw=>?_;rw[amk]at h2;rw[<-G7,amn (by rw[h1];simp),amn (by rw[h2];simp)];rfl
 refine bl λI hw=>?_;rw[amm]at h2;rw[<-G7,amn (by rw[h1];simp),amo h2];rfl
end Go.Proofs.bK
