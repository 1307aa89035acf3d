/- Lemmas for the law WholeSound. -/
import Derived.Test.YtiknadellddjhaaGreatDoorS02
set_option linter.all false
open Go.Proofs.Tryz
set_option maxHeartbeats 1600000
open Go Go.cc Go.bU
namespace Go.bU
theorem RB(x:cE):(bO (x.aI<0)||bO (16<=x.aI)||bO (x.bq<0)||bO (31<x.bq)||!bO (x.loc=ByteArray.empty))=!(decide (0<=x.aI)&&decide (x.aI<16)&&decide (0<=x.bq)&&decide (x.bq<=31)&&decide (x.loc=ByteArray.empty)):=by rw[amN];simp only[amr,ami,amk,amx,aq,ar,amu];by_cases h:x.loc=ByteArray.empty<;>simp[h]<;>omega
end Go.bU
namespace Go.Proofs.bK
attribute [local irreducible] wpList Code.wp bodyPost Exit.then Exit.inBlock Calls
theorem ag1{lv aj aN bv aK aX ae aU bE:Value}{t:a1}(x:cE)(e:gG)(w:World)(h:ha an w lv aj aN bv aK aX ae aU bE t)(eZ:o4 t=true): bj prog 181 [.agg #[lv,aj,aN,bv,aK,aX,ae,aU,bE],.agg #[.int .i64 x.aI,.int .i64 x.bq,.string x.loc],.agg #[.int .i64 e.kind,.int .i64 e.n]] w λ_ v _=>v=.bool (tD t x e):=by
 have cP:=h.J;have c6:=h.bb;have lk:=cP.le;obtain⟨hu,fH⟩:=abT eZ;refine ca func181 ntmps181 ?_;refine ck λaT=>?_;refine ck λeN=>?_;refine ck λbe=>?_;refine bA (λh1=>?_) λh1=>?_
 ·have cb:x.aI= -1:=by rwa[aq]at h1
  refine aa ?_;refine ao (iJ (a7:=λI hw=>xE lv x.loc t.bb I (hw.now c6) hu (by omega)) (ab:=?_));rintro v bx a6 ⟨k,b,rfl,c4⟩ cA;refine bl λI hw=>?_;rw[abR hu x e c4,tD,amo cb];rfl
 have cb:¬x.aI= -1:=by rwa[ar]at h1
 refine bg (λh2=>?_) λh2=>?_
 ·refine bl λI hw=>?_;have bF:=(RB x).symm.trans h2;rw[amk]at bF;rw[tD,amn cb,bF];rfl
 have bF:=(RB x).symm.trans h2;rw[amm]at bF;refine bg (λh3=>?_) λh3=>?_
 ·refine aa ?_;refine ao (bw (λI hw=>LB e.n I) ?_);rintro v cp bX rfl fq;refine bl λI hw=>?_;rw[aq]at h3;rw[tD,amn cb,bF,zt];simp[h3];rfl
 rw[ar]at h3;refine bg (λaC=>?_) λaC=>?_
 ·rw[aq]at aC;refine aa ?_;refine cV [0,1,2,3,4,5,6,7,8,9,10,11,12,13,14,15,16,17,18,19,20,21,22,23,24,25,26,27,28,29,30,31,32,33] mixed ?_;refine aP ?_;refine bl λI hw=>?_;rw[tD,amn cb,bF,zt];simp[aC,ch,Go.bU.aN];rfl
 rw[ar]at aC;refine bl λI hw=>?_;rw[tD,amn cb,bF,zt];simp[h3,aC];rfl
def _root_.Go.bU.pN(t:a1):Int:=if gL t=true then 0 else 1
theorem _root_.Go.bU.TU(t:a1)(i:Nat):(!tD t (t.cw.getD i default) (t.ends.getD i default)||bO (0<(i:Int))&&!iv (t.cw.getD (i-1) default) (t.cw.getD i default))=!AX t i:=by unfold AX;rw[Hx];cases tD _ _ _<;>cases decide (i=0)<;>cases iv _ _<;>rfl
theorem TR{lv aj aN bv aK aX ae aU bE:Value}{t:a1}(w:World)(h:ha an w lv aj aN bv aK aX ae aU bE t): bj prog 94 [.agg #[lv,aj,aN,bv,aK,aX,ae,aU,bE]] w λ_ v _=>v=.int .i64 (pN t):=by
 have bp:=h.cw;have iK:=h.ends;have ri:=bp.le;have ln:=iK.le;refine ca func94 ntmps94 ?_;refine ck λaT=>?_;refine ao (bw (λI hw=>aha I (h.now hw)) ?_);rintro v bx a6 rfl cA;refine aa ?_;refine fm (h:=eY (a7:=λ_ I hw=>ag2 I (h.now hw))) (ab:=aa ?_);refine fm (h:=eY (a7:=λ_ I hw=>agY I (h.now hw))) (ab:=aa ?_);refine fm (h:=eY (a7:=λ_ I hw=>LF aK t.addr false I (h.now hw) (hw.now h.addr))) (ab:=aa ?_);refine fm (h:=eY (a7:=λ_ I hw=>LF aX t.data true I (h.now hw) (hw.now h.data))) (ab:=aa ?_);refine fm (h:=eY (a7:=λ_ I hw=>LF ae t.ba false I (h.now hw) (hw.now h.ba))) (ab:=aa ?_);refine bA (λh1=>?_) λh1=>?_
 ·refine bl λI hw=>?_;have:gL t=false:=by simp only[amr,amk]at h1;simp only[gL,amx];exact .inl h1
  rw[pN,this];rfl
 simp only[amt,amm]at h1;refine bg (λh2=>?_) λh2=>?_
 ·refine bl λI hw=>?_;have:uK t=false:=by simp only[amr,amk,aq,ar]at h2;simp only[uK,amx,amu];omega
  rw[pN,gL,this,anM];rfl
 simp only[amt,amm,aq,ar]at h2;refine aa ?_;refine b9 (λi:Nat=>i<=t.cw.length/\∀j,j<i->AX t j=true) (λs=>[(55,true,.int .i64 s),(54,true,.int .i64 t.cw.length),(53,true,aU),(1,true,ax aT)]) (λs=>Mem [(w,an)] [.box aT [lv,aj,aN,bv,aK,aX,ae,aU,bE] 41]) (λs=>t.cw.length-s) (0) ⟨by omega,λj ad=>by omega⟩ ?_ ⟨rfl,rfl,rfl,rfl,trivial⟩ c7
 rintro i ⟨hi,bS⟩;refine bg (λh3=>?_) λh3=>?_
 ·have dw:i<t.cw.length:=by rw[aq]at h3;omega
  have ai6:i<t.ends.length:=by omega
  have eZ:o4 t=true:=h1.1.1.1.1.1;refine aa ?_;refine cU λeN=>?_;refine bQ 0 ?_;refine cV [0,1,2,3,4,5,6,7,8,9,10,11,12,13,14,15,16,17,18,19,20,21,22,23] mixed ?_;refine aP ?_;refine bL _ (h:=bw (λI hw=>ag1 (t.cw.getD i default) (t.ends.getD i default) I (h.now hw) eZ) ?_);rintro v n7 A6 rfl B5;refine aF ?_ eS;refine cJ _ eS (aP ?_);refine w9 ?_ (h:=eY (a7:=λ_ I hw=>agW (t.cw.getD ((i:Int)-1).toNat default) (t.cw.getD i default) I));refine aP ?_;refine bg (λaC=>?_) λaC=>?_
  ·refine bl λI hw=>?_;rw[vZ,TU,amk]at aC;have:uK t=false:=by simp[uK,kx dw aC]
   rw[pN,gL,this,anM];rfl
  rw[vZ,TU,amm]at aC;refine aa ?_;exact bt ((i+1)) ⟨by omega,kq bS aC⟩ (by omega) (hA:=bM [1])
 refine bl λI hw=>?_;have:uK t=true:=by rw[ar]at h3;simp only[uK,ami,amj,fX];exact⟨⟨by omega,by omega⟩,λj ad=>bS j (by omega)⟩
 have:gL t=true:=by simp[gL,h1,this]
 rw[pN,amo this];rfl
end Go.Proofs.bK
namespace Go.bU
def pV(s:ByteArray)(i:Nat):Bool:=kn (dM s i)||xL (dM s i)
theorem By{s:ByteArray}{i:Nat}(h:pV s i=false):nD s i=false:=by simp only[pV,amt]at h;simp[nD,h]
theorem Bx{s:ByteArray}{i:Nat}(h0:kn (dM s 0)=true)(h:pV s i=true):nD s i=true:=by
 by_cases hi:i=0
 ·subst hi;simp[nD,h0]
 have:0<i:=by omega
 simp only[pV]at h;simpa[nD,this]using h
end Go.bU
namespace Go.Proofs.bK
attribute [local irreducible] wpList Code.wp bodyPost Exit.then Exit.inBlock Calls
theorem SP(c:Nat)(w:World)  : bj prog 349 [.int .u8 c] w λ_ v _=>v=.bool (kn c):=by refine ca func349 ntmps349 ?_;refine bP rfl (.t1 rfl) λI hw=>?_;refine amC Value.bool (amN.2 ?_);simp only[kn,amr,ami,aq,amj];omega
theorem aeY(c:Nat)(w:World)  : bj prog 350 [.int .u8 c] w λ_ v _=>v=.bool (decide (48<=c)&&decide (c<=57)):=by refine ca func350 ntmps350 ?_;refine bP rfl (.t1 rfl) λI hw=>?_;refine amC Value.bool (amN.2 ?_);simp only[amr,ami,aq,amj];omega
theorem K6(n:Int)(w:World)  : bj prog 292 [.int .i64 n] w λ_ v _=>v=.bool (eJ n):=by refine ca func292 ntmps292 ?_;refine bP rfl (.t1 rfl) λI hw=>?_;simp only[eJ,ch];rfl
theorem C1(s:ByteArray)(w:World)  : bj prog 285 [.string s] w λ_ v _=>v=.bool (eC s):=by
 refine ca func285 ntmps285 ?_;refine fm (h:=eY (a7:=λ_ I hw=>SP _ I)) (ab:=aa ?_);refine bA (λh1=>?_) λh1=>?_
 ·refine bl λI hw=>?_;have:eC s=false:=by
   simp only[amr,amk,aq]at h1;by_cases ag:s.size=0
   ·simp[eC,ag]
   rcases h1 with(h1 | h1) | h1
   ·omega
   ·have:¬s.size<=32:=by omega
    simp[eC,this]
   have:nD s 0=false:=by simp only[nD,show kn (dM s 0)=false from h1,aow,aoQ,anT,aoU]
   rw[eC,kx (i:=0) (by omega) this,anM]
  rw[this];rfl
 simp only[amt,amm,ar]at h1;refine aa ?_;refine b9 (λi:Nat=>i<=s.size/\∀j,j<i->pV s j=true) (λi=>[(3,true,.int .i64 i),(0,true,.string s)]) (λ_=>Mem [(w,an)] []) (λi=>s.size-i) (0) ⟨by omega,λj ad=>by omega⟩ ?_ ⟨rfl,rfl,trivial⟩ c7
 rintro i ⟨hi,bS⟩;refine bg (λh2=>?_) λh2=>?_
 ·have bF:i<s.size:=by rw[aq]at h2;omega
  refine aa ?_;refine ao (bw (λI hw=>SP _ I) ?_);rintro v cp bX rfl fq;refine aa ?_;refine fm (h:=eY (a7:=λ_ I hw=>aeY _ I)) (ab:=aa ?_);have ai:(!kn (dM s i)&&!(decide (48<=dM s i)&&decide (dM s i<=57))&&!bO ((dM s i:Int)=95))=!pV s i:=by rw[show bO ((dM s i:Int)=95)=decide (dM s i=95) by rw[ch];exact am3.2 (by omega)];unfold pV xL;cases kn (dM s i)<;>cases decide (48<=dM s i)<;>cases decide (dM s i<=57)<;>cases decide (dM s i=95)<;>rfl
  refine bA (λh3=>?_) λh3=>?_
  ·refine bl λI hw=>?_;have dw:=ai.symm.trans h3;rw[amk]at dw;have:eC s=false:=by simp[eC,kx bF (By dw)]
   rw[this];rfl
  have dw:=ai.symm.trans h3;rw[amm]at dw;refine aa ?_;exact bt ((i+1)) ⟨by omega,kq bS dw⟩ (by omega) (hA:=c7)
 refine bl λI hw=>?_;have:eC s=true:=by rw[ar]at h2;simp only[eC,ami,amj,fX];exact⟨⟨by omega,by omega⟩,λj ad=>Bx h1.2 (bS j (by omega))⟩
 rw[this];rfl
end Go.Proofs.bK
namespace Go.bU
theorem M9:∀x y:List UInt8,Op.bytesLess x y=true\/x=y\/Op.bytesLess y x=true
 | [],[]=>.inr (.inl rfl)
 | [],_::_=>.inl rfl
 | _::_,[]=>.inr (.inr rfl)
 | a::x,b::y=>by
  simp only[Op.bytesLess,amr,ami,amj,an1,aoB];by_cases h1:a<b
  ·exact .inl (.inl h1)
  by_cases h2:b<a
  ·exact .inr (.inr (.inl h2))
  have h3:a=b:=UInt8.le_antisymm (UInt8.not_lt.1 h2) (UInt8.not_lt.1 h1);subst h3;rcases M9 x y with h | h | h
  ·exact .inl (.inr ⟨rfl,h⟩)
  ·exact .inr (.inl ⟨rfl,h⟩)
  exact .inr (.inr (.inr ⟨rfl,h⟩))
def Bq(a b:cE):Bool:=if decide (a.aI= -1)≠decide (b.aI= -1)then decide (b.aI= -1)else if a.aI≠b.aI\/a.bq≠b.bq then jh a.aI a.bq b.aI b.bq else gT a.loc b.loc
def n0(t:a1)(loc:Int)(i:Nat):Bool:=decide ((t.J.getD i default).dir=2)&&decide ((t.J.getD i default).loc=loc)
def rH(t:a1)(loc:Int)(n:Nat):List Int:=((List.range n).filter (n0 t loc)).map λ(i:Nat)=>(i:Int)
def wr(t:a1)(loc:Int):List Int:=rH t loc t.J.length
theorem UE(t:a1)(loc:Int)(n:Nat):rH t loc (n+1)=rH t loc n++(if n0 t loc n=true then [(n:Int)]else []):=by unfold rH;rw[am6,anc,ane];cases h:n0 t loc n<;>simp[h]
theorem GM(t:a1)(loc:Int)(n:Nat):(rH t loc n).length<=n:=by unfold rH;rw[amD];exact ani (anj _ _) (by simp)
def cap(n:Nat):Nat:=min n 65537
theorem A1(t:a1):(!bO (pN t=0))=!gL t:=by rw[ch];unfold pN;cases gL t<;>rfl
theorem lD{t:a1}(h:gL t=true):t.J.length<=64/\t.bb.length<=64:=by simp only[gL,ami,o4,oP,amj]at h;exact⟨h.1.1.1.1.1.2.1,h.1.1.1.1.1.1.1.1⟩
end Go.bU
namespace Go.cc
open Go Go.RowKit
def inner(t:TypeId)(vs:List Value)(xss:List (List Int)):List aA:=List.zipWith (λv xs=>.own v t 1 bd xs) vs xss
theorem aax(t:TypeId){vs:List Value}{xss:List (List Int)}(h:vs.length=xss.length):(inner t vs xss).length=vs.length:=by simp[inner,h]
theorem Fg(t:TypeId){vs:List Value}{xss:List (List Int)}(h:vs.length=xss.length){i:Nat}(hi:i<vs.length):(inner t vs xss)[i]?=some (.own (vs.getD i default) t 1 bd (xss.getD i default)):=by unfold inner;rw[List.getElem?_zipWith,getD_some hi,getD_some (show i<xss.length by omega)]
theorem JA(t:TypeId)(vs:List Value)(xss:List (List Int))(i:Nat)(v:Value)(xs:List Int):(inner t vs xss).set i (.own v t 1 bd xs)=inner t (vs.set i v) (xss.set i xs):=by
 unfold inner
 induction vs generalizing xss i with
 | nil=>cases xss<;>rfl
 | cons a vs bH=>
  cases xss with
  | nil=>cases i<;>rfl
  | cons b xss=>
   cases i with
   | zero=>rfl
   | succ i=>simp only[List.zipWith_cons_cons,List.set_cons_succ,bH]
theorem Mem.swap{bs:List dr}{mf km:List aA}{w:World}(h:Mem bs (mf++km) w):Mem bs (km++mf) w:=by
 refine h.cm ((List.range km.length).map (· +mf.length)++List.range mf.length) ?_ ?_
 ·rw[ane,ane,aoP];congr 1
  ·apply aof;intro i;by_cases hi:i<km.length
   ·simp[hi,amL]
   simp[hi]
  apply aof;intro i;by_cases hi:i<mf.length
  ·simp[hi,amM]
  simp[hi]
 rw[aoW];refine⟨?_,an7,?_⟩
 ·rw[List.Nodup,anz];exact anV (λh=>by omega) an7
 intro a au b hb;simp at au hb;obtain⟨c,ai,rfl⟩:=au;omega
theorem Mem.acK{bs:List dr}{H:List aA}{w:World}(h:Mem bs H w)(t:TypeId)(n:Nat):Mem bs (inner t (List.replicate n U) (List.replicate n [])++H) w:=by
 induction n with
 | zero=>exact h
 | succ n bH=>rw[aoF,aoF];show Mem bs (.own U t 1 bd []::(inner t (List.replicate n U) (List.replicate n [])++H)) w;refine bH.new rfl rfl rfl (amK _) (λ_ _=>rfl) ⟨by simp,.inl ⟨rfl,rfl⟩⟩ (λk hk=>?_) (λk hk=>?_)<;>simp[aA.cX,Value.ownBlock]at hk
theorem Qj{N:Nat}{K:Act->World->Prop}{tm:dU}{bs:List dr}{H:List aA}(t:TypeId)(n:Nat)(h:cL N K tm (Mem bs (H++inner t (List.replicate n U) (List.replicate n [])))):cL N K tm (Mem bs H):=cJ _ (λ_ hw=>(hw.acK t n).swap) h
theorem Mem.put{bs:List dr}{e:aA}{H:List aA}{w:World}(h:Mem bs (e::H) w)(k:Nat):Mem bs (H.set k e) w:=by
 by_cases hk:k<H.length
 ·refine h.cm ((List.range H.length).map λj=>if j=k then 0 else j+1) ?_ ?_
  ·apply aof;intro i;by_cases hi:i<H.length
   ·by_cases nO:i=k
    ·subst nO;simp[hi]
    simp[hi,nO,List.getElem_set,show ¬k=i from λh=>nO h.symm]
   simp[hi]
  rw[List.Nodup,anz];refine anR (λ{a b} _ _ oe=>?_) an7;split<;>split<;>omega
 rw[List.set_eq_of_length_le (by omega)];exact h.tail
theorem aay(t:TypeId){vs:List Value}{xss:List (List Int)}(h:vs.length=xss.length){i:Nat}(hi:i<vs.length):aA.own (vs.getD i default) t 1 bd (xss.getD i default)∈inner t vs xss:=amF (Fg t h hi)
theorem To{α:Type _}(a b:List α)(i:Nat)(x:α):(a++b).set (a.length+i) x=a++b.set i x:=by
 induction a with
 | nil=>simp
 | cons c a bH=>rw[amI,Nat.add_right_comm];simp[bH]
theorem OI{α:Type _}(a b:List α)(i:Nat):(a++b)[a.length+i]?=b[i]?:=by rw[amL (by omega)];congr 1;omega
structure wB(S:Nat->Prop)(w:World)(v:Value)(xss:List (List Int)):Prop where
 out:∃vs,aV S w cD 1 v vs/\vs.length=xss.length/\∀i,i<xss.length->aV S w bd 1 (vs.getD i default) (xss.getD i default)
theorem Mem.OJ{bs:List dr}{H:List aA}{w I:World}{v:Value}{vs:List Value}{xss:List (List Int)}(t dt:TypeId)(hw:Mem bs H I)(bm:aA.own v dt 1 cD vs∈H)(aB:vs.length=xss.length)(hi:∀e,e∈inner t vs xss->e∈H)(hB:(w,an)∈bs):wB (Fr w.heap.size) I v xss:=⟨⟨vs,hw.hK bm hB,aB,λi h=>hw.hK (hi _ (aay t aB (by omega))) hB⟩⟩
def df(L:List aA):aA:=.gen (L.flatMap aA.cX) (Mem [] L)
theorem ac7{L:List aA}{w:World}(h:Mem [] L w):(df L).ok w:=λI ag=>by
 refine⟨λB hB=>?_,λe he=>aA.FQ (h.own e he) λk hk=>ag k (ana.2 ⟨e,he,hk⟩),λe he k hk=>?_,λB hB=>?_,h.h9⟩
 ·cases hB
 ·have h1:=ag k (ana.2 ⟨e,he,hk⟩);have h2:=h.fw e he k hk;rcases amY k I.heap.size with h3 | h3
  ·exact h3
  rw[anu h3,Array.getElem?_eq_getElem h2]at h1;cases h1
 cases hB
theorem Mem.pack{bs:List dr}{L H:List aA}{w:World}(h:Mem bs (L++H) w):Mem bs (df L::H) w:=by
 have c6:Mem [] L w:=h.dk.ei;have cX:∀k,k∈(df L).cX->∃(a:Nat) (e:aA),L[a]?=some e/\k∈e.cX:=λk hk=>by obtain⟨e,he,hk⟩:=ana.1 (show k∈L.flatMap aA.cX from hk);obtain⟨a,au⟩:=anv he;exact⟨a,e,au,hk⟩
 have Ct:∀{a:Nat} {e:aA},L[a]?=some e->(L++H)[a]?=some e/\a<L.length:=λ{a e} au=>by have dn:=(amV.1 au).1;exact⟨by rw[amM dn];exact au,dn⟩
 have Fc:∀{j:Nat} {e:aA},H[j]?=some e->(L++H)[L.length+j]?=some e:=λ{j e} ad=>by rw[OI];exact ad
 refine⟨h.base,λe he=>?_,λe he k hk=>?_,λB hB e he k hk ct=>?_,λi j fY gh hN hi ad k hk fe=>?_⟩
 ·rcases amG.1 he with rfl | he
  ·exact ac7 c6
  exact h.own e (anq _ he)
 ·rcases amG.1 he with rfl | he
  ·obtain⟨a,e,au,hk⟩:=cX k hk;exact h.fw e (amE _ (amF au)) k hk
  exact h.fw e (anq _ he) k hk
 ·rcases amG.1 he with rfl | he
  ·obtain⟨a,e,au,hk⟩:=cX k hk;exact h.apart B hB e (amE _ (amF au)) k hk ct
  exact h.apart B hB e (anq _ he) k hk ct
 cases i with
 | zero=>
  cases j with
  | zero=>exact hN rfl
  | succ j=>simp only[List.getElem?_cons_zero,aoc]at hi;subst hi;rw[anY]at ad;obtain⟨a,e,au,hk⟩:=cX k hk;exact h.h9 a (L.length+j) e gh (by have:=(Ct au).2;omega) (Ct au).1 (Fc ad) k hk fe
 | succ i=>
  rw[anY]at hi;cases j with
  | zero=>simp only[List.getElem?_cons_zero,aoc]at ad;subst ad;obtain⟨a,e,au,fe⟩:=cX k fe;exact h.h9 (L.length+i) a fY e (by have:=(Ct au).2;omega) (Fc hi) (Ct au).1 k hk fe
  | succ j=>rw[anY]at ad;exact h.h9 (L.length+i) (L.length+j) fY gh (by omega) (Fc hi) (Fc ad) k hk fe
theorem Mem.unpack{bs:List dr}{L H:List aA}{w:World}(h:Mem bs (df L::H) w):Mem bs (L++H) w:=by
 have h0:Mem [] L w:=h.own _ aL w λ_ _=>rfl;have cX:∀{e:aA} {k:Nat},e∈L->k∈e.cX->k∈(df L).cX:=λ{e k} he hk=>ana.2 ⟨e,he,hk⟩;have cut:∀{i:Nat} {e:aA},(L++H)[i]?=some e->(i<L.length/\L[i]?=some e)\/(L.length<=i/\H[i-L.length]?=some e):=λ{i e} hi=>by
  by_cases q:i<L.length
  ·rw[amM q]at hi;exact .inl ⟨q,hi⟩
  rw[amL (by omega)]at hi;exact .inr ⟨by omega,hi⟩
 refine⟨h.base,λe he=>?_,λe he k hk=>?_,λB hB e he k hk ct=>?_,λi j fY gh hN hi ad k hk fe=>?_⟩
 ·rcases amA.1 he with he | he
  ·exact h0.own e he
  exact h.own e (.tail _ he)
 ·rcases amA.1 he with he | he
  ·exact h0.fw e he k hk
  exact h.fw e (.tail _ he) k hk
 ·rcases amA.1 he with he | he
  ·exact h.apart B hB _ aL k (cX he hk) ct
  exact h.apart B hB e (.tail _ he) k hk ct
 rcases cut hi with⟨cq,hi⟩ | ⟨cq,hi⟩<;>rcases cut ad with⟨bn,ad⟩ | ⟨bn,ad⟩
 ·exact h0.h9 i j fY gh hN hi ad k hk fe
 ·exact h.h9 0 (j-L.length+1) (df L) gh (by omega) rfl (by rw[anY];exact ad) k (cX (amF hi) hk) fe
 ·exact h.h9 0 (i-L.length+1) (df L) fY (by omega) rfl (by rw[anY];exact hi) k (cX (amF ad) fe) hk
 exact h.h9 (i-L.length+1) (j-L.length+1) fY gh (by omega) (by rw[anY];exact hi) (by rw[anY];exact ad) k hk fe
theorem Mem.NG{aQ:Type}{enc:aQ->List Value}{sz tt:Nat}{v:Value}{xs:List aQ}{bs:List dr}{H:List aA}{w:World}[he:ee enc sz](hw:Mem bs H w)(k:Nat)(hk:H[k]?=some (.own v tt sz enc xs))(n:Nat)(bh:n<=xs.length): Mem bs (H.set k (.own (zl n v) tt sz enc (xs.take n))) w:=by
 have bm:(aA.own v tt sz enc xs).ok w:=hw.own _ (amF hk);have r0:(aA.own (zl n v) tt sz enc (xs.take n)).cX=(aA.own v tt sz enc xs).cX:=by
  cases v with
  | slice a _ _=>cases a<;>rfl
  | _=>rfl
 refine hw.rC hk rfl rfl rfl (amK _) (λ_ _ _=>rfl) ?_ (λq aZ=>?_) λq aZ=>.inl (by rw[<-r0];exact aZ)
 ·obtain⟨h1,h2⟩:=bm;have bG:(xs.take n).length=n:=by rw[amX];omega
  refine⟨by rw[nJ],?_⟩;rcases h2 with⟨aw,h0⟩ | ⟨g,cap,cur,aw,ay,eO,h3,aC,aW,cM⟩
  ·subst aw;rw[bG];obtain rfl:n=0:=by omega
   exact .inl ⟨rfl,rfl⟩
  subst aw;rw[bG];refine .inr ⟨g,cap,cur,rfl,ay,eO,by omega,aC,aW,?_⟩;rw[<-HN xs n bh,<-cM,List.take_take,aoA (anh _ bh)]
 rw[r0]at aZ;exact hw.fw _ (amF hk) q aZ
theorem Mem.pass{aQ:Type}{enc:aQ->List Value}{sz n m:Nat}{v:Value}{xs:List aQ}{B I:World}{bs:List dr}{H:List aA}[he:ee enc sz](hw:Mem bs H I)(h:aV (Fr n) B enc sz v xs)(hB:(B,Fr n)∈bs)(hm:m<=n):aV (Fr m) I enc sz v xs:=h.mono (hw.base _ hB) (λk _ hk=>ani hm hk) λx _=>he.ne x
theorem bj.size{P:Program}{k:FuncId}{args:List Value}{w:World}{Φ:Nat->Value->World->Prop}{m:Nat}(h:bj P k args w Φ)(hm:m<=w.heap.size):bj P k args w λn v I=>Φ n v I/\m<=n:=by unfold bj at *;refine Calls.mono h λx I cr=>?_;unfold qm at *;obtain⟨v,h1,h2,h3⟩:=cr;exact⟨v,h1,h2,h3,hm⟩
theorem Mem.qt{A B:dr}{bs:List dr}{H:List aA}{w:World}(h:Mem (A::B::bs) H w):Mem (A::bs) H w:=⟨λC hC=>h.base C (by rcases amG.1 hC with rfl | hC;exact .head _;exact .tail _ (.tail _ hC)),h.own,h.fw,λC hC=>h.apart C (by rcases amG.1 hC with rfl | hC;exact .head _;exact .tail _ (.tail _ hC)),h.h9⟩
theorem Mem.sz{S:Nat->Prop}{B w:World}{bs:List dr}{H:List aA}(hw:Mem bs H w)(hB:(B,S)∈bs):B.heap.size<=w.heap.size:=(hw.base _ hB).size
theorem cZ:aD U:=⟨_,_,_,rfl⟩
theorem Mem.perm{bs:List dr}{H H':List aA}{w:World}(h:Mem bs H w)(hp:H.Perm H'):Mem bs H' w:=by
 have key:∀l:List aA,(∀(i j:Nat) (fY gh:aA),i≠j->l[i]?=some fY->l[j]?=some gh->∀k,k∈fY.cX->k∈gh.cX->False)↔l.Pairwise λa b=>∀k,k∈a.cX->k∈b.cX->False:=λl=>by
  rw[am9];constructor
  ·intro h i j hi ad hN k;exact h i j _ _ (by omega) (amp hi) (amp ad) k
  intro h i j fY gh hN hi ad k hk fe;obtain⟨R5,rfl⟩:=amV.1 hi;obtain⟨R6,rfl⟩:=amV.1 ad;rcases amY i j with q | q
  ·exact h i j R5 R6 q k hk fe
  exact h j i R6 R5 (by omega) k fe hk
 refine⟨h.base,λe he=>h.own e (hp.mem_iff.2 he),λe he=>h.fw e (hp.mem_iff.2 he),λB hB e he=>h.apart B hB e (hp.mem_iff.2 he),?_⟩;rw[key];exact(hp.pairwise_iff λ{a b} h k hk fe=>h k fe hk).1 ((key H).1 h.h9)
theorem Mem.front{bs:List dr}{H:List aA}{w:World}(h:Mem bs H w)(k:Nat){e:aA}(hk:H[k]?=some e):Mem bs (e::H.eraseIdx k) w:=by
 obtain⟨q,rfl⟩:=amV.1 hk;refine h.perm ?_;rw[List.eraseIdx_eq_take_drop_succ];have e:H=H.take k++H[k]::H.drop (k+1):=by rw[<-List.drop_eq_getElem_cons q,List.take_append_drop]
 exact(List.Perm.of_eq e).trans List.perm_middle
end Go.cc
