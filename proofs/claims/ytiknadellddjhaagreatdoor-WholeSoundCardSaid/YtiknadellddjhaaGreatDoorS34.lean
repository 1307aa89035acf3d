/- Lemmas for the law WholeSound. -/
import Derived.Test.YtiknadellddjhaaGreatDoorS31
import Derived.Test.YtiknadellddjhaaGreatDoorS32
set_option linter.all false
open Go.Proofs.Tryz
set_option maxHeartbeats 12800000
open Go Go.cc Go.bU
namespace Go.cc
open Go Go.bU
structure fO where
 k:Int
 n:Int
 loc:ByteArray
 on:BitVec 64
 deriving Inhabited
def gi(h:fO):List Value:=[.int .i64 h.k,.int .i64 h.n,.string h.loc,u64 h.on]
instance:ee gi 4:=⟨λ_=>rfl,by decide⟩
instance:n5 gi (λ_=>True):=⟨λ_ _ u hu=>by simp[gi]at hu;rcases hu with rfl | rfl | rfl | rfl<;>rfl⟩
end Go.cc
namespace Go.Proofs.bK
attribute [local irreducible] wpList Code.wp bodyPost Exit.then Exit.inBlock Calls
theorem SM(h:fO)(w:World):bj prog 290 [.agg (gi h).toArray] w λ_ v _=>v=.bool (decide (h.k=1)&&decide (h.n=0)):=by refine gP func290 ntmps290 ?_;refine eQ λhJ=>?_;refine bP rfl (.t1 rfl) λI hw=>?_;rw[<-ch,<-ch];rfl
def xl(l:List ByteArray)(s:ByteArray):Int:=if dp l s<l.length then(dp l s:Int)else -1
theorem AJ(lv aj aN bv aK aX ae aU bE:Value)(l:List ByteArray)(s:ByteArray)(w:World)(aB:aV an w dV 1 lv l)(ag:aD aj/\aD aN/\aD bv/\aD aK/\aD aX/\aD ae/\aD aU/\aD bE):bj prog 47 [.agg #[lv,aj,aN,bv,aK,aX,ae,aU,bE],.string s] w λ_ v _=>v=.int .i64 (xl l s):=by
 obtain⟨g1,g2,g3,g4,g5,g6,g7,g8⟩:=ag;have ja:=aB.le;have te:=aB.aG;refine gP func47 ntmps47 ?_;refine eQ λdy=>?_;refine b9 (λi:Nat=>i<=l.length/\∀j,j<i->l.getD j default≠s) (λi=>[(5,true,.int .i64 i),(2,true,ax dy),(1,true,.string s)]) (λ_=>Mem [(w,an)] [.box dy [lv,aj,aN,bv,aK,aX,ae,aU,bE] 41]) (λi=>l.length-i) 0 ⟨amz _,λj ad=>absurd ad (anp _)⟩ ?_
 rintro i ⟨hi,bS⟩;have e7:i=l.length->s∉l:=λe hm=>by obtain⟨j,ad,Pg⟩:=aod hm;exact bS j (by omega) (by rw[aml,amp ad];exact Pg)
 refine di (λh3=>?_) λh3=>?_
 ·have dw:i<l.length:=by rw[aq]at h3;omega
  refine di (λaC=>?_) λaC=>?_
  ·rw[aq]at aC;refine px λI hw=>?_;have EH:dp l s=i:=by unfold dp;rw[List.findIdx_eq dw];refine⟨by rw[amj,<-aC,aml,amp dw];rfl,λj ad=>?_⟩;have:=bS j ad;rw[amu];rwa[aml,amp (by omega)]at this
   unfold xl;rw[EH,amo dw];rfl
  rw[ar]at aC;refine af ?_;refine bt (i+1) ⟨by omega,λj ad=>?_⟩ (by omega);by_cases e:j=i
  ·subst e;exact aC
  exact bS j (by omega)
 have dw:i=l.length:=by rw[ar]at h3;omega
 refine px λI hw=>?_;unfold xl;have hle:¬dp l s<l.length:=λg=>e7 dw (by have:=List.findIdx_getElem (w:=g);rw[amj]at this;rw[<-this];exact anx _)
 rw[amn hle];rfl
def nP(on:BitVec 64)(n:Nat)(e:Int):List b5:=((List.range n).filter λi=>on.getLsbD i).map λ(a:Nat)=>⟨(a:Int),e⟩
theorem Zg(on:BitVec 64)(n:Nat)(e:Int):nP on (n+1) e=if on.getLsbD n=true then nP on n e++[⟨(n:Int),e⟩]else nP on n e:=by
 unfold nP;rw[am6,anc,ane];by_cases q:on.getLsbD n=true
 ·rw[amo q];simp[q]
 rw[amn q];simp[q]
theorem Zf(on:BitVec 64)(n:Nat)(e:Int):(nP on n e).length<=n:=by unfold nP;rw[amD];have:=anj (λi=>on.getLsbD i) (List.range n);rwa[aoD]at this
theorem Tr(on:BitVec 64){r:Nat}(aH:r<64):(on>>>(BitVec.ofInt 64 (r:Int)).toNat&&& 1#64=1#64)↔on.getLsbD r=true:=by
 have h1:(BitVec.ofInt 64 (r:Int)).toNat=r:=by rw[BitVec.toNat_ofInt];omega
 rw[h1];constructor
 ·intro h;have:=amC (λx=>x.getLsbD 0) h;simpa using this
 intro h;apply an5;intro i hi;rw[an6,anZ];by_cases q:i=0
 ·subst q;simp[h]
 simp[an4,q]
theorem KY(lv:Value)(xs:List b5)(on:BitVec 64)(e:Int)(w:World)(te:aD lv)(hx:xs.length<=1000000)(hw:Mem [] [.own lv 178 2 bz xs] w): eM prog 355 [lv,u64 on,.int .i64 e] [.own lv 178 2 bz xs] w λ_ v es _=>aD v/\es=[.own v 178 2 bz (xs++nP on 64 e)]:=by
 refine jO func355 ntmps355 hw ?_;refine b9 (λz:Nat×Value=>z.1<=64/\aD z.2) (λz=>[(7,true,.int .i64 z.1),(2,true,.int .i64 e),(1,true,u64 on),(0,true,z.2)]) (λz=>Mem [(w,bB [.own lv 178 2 bz xs])] [.own z.2 178 2 bz (xs++nP on z.1 e)]) (λz=>64-z.1) (0,lv) ⟨by omega,te⟩ ?_ ⟨rfl,rfl,rfl,rfl,trivial⟩ (λ_ h=>by
   have:xs++nP on 0 e=xs:=by unfold nP;simp
   dsimp only;rw[this];exact h)
 rintro⟨r,v⟩ ⟨aH,aw⟩;dsimp only at aH aw⊢;have kU:=Zf on r e;refine di (λh1=>?_) λh1=>?_
 ·have cb:r<64:=by rw[aq]at h1;omega
  have eg:=Zg on r e;refine di (λh2=>?_) λh2=>?_
  ·rw[aq,Tr on cb]at h2;rw[amo h2]at eg;refine af ?_;refine ao (eA bz DV (ab:=λv22 PV=>af ?_));refine ao (e6 1 (hm:=aL) (hk:=rfl) (bG:=by simp only[ams,amD,amI,amW];omega) (ab:=λv23 Z2=>af ?_));exact bt (r+1,v23) ⟨cb,Z2⟩ (show 64-(r+1)<64-r by omega) (hA:=λ_ h=>by dsimp only;rw[eg,<-amJ];exact h.tail)
  rw[ar,Tr on cb]at h2;rw[amn h2]at eg;refine af ?_;exact bt (r+1,v) ⟨cb,aw⟩ (show 64-(r+1)<64-r by omega) (hA:=λ_ h=>by dsimp only;rw[eg];exact h)
 have cb:r=64:=by rw[ar]at h1;omega
 subst cb;refine af ?_;exact ez rfl (.t1 rfl) [.own v 178 2 bz (xs++nP on 64 e)] [0] λI hw=>⟨aw,rfl⟩
theorem TS{t:aM}(h:pL t=0):ur t/\t.init.length<=1024/\(b2 t).length<=64:=by
 unfold pL at h;split at h
 ·split at h
  ·simp only[kS]at h;split at h
   ·rename_i aC;split at h
    ·rename_i aW;refine⟨Hr aC,Jz aW,Nat.le_of_not_lt λq=>?_⟩;rw[amo q]at h;split at h
     ·simp at h
     contradiction
    contradiction
   contradiction
  cases h
 cases h
theorem Xm(t:aM)(aj ae ak:Value)(vs:List Value)(w:World)(h:gz an w aj ae ak vs t)(h0:pL t=0):bj prog 46 [.agg (cQ t aj ae ak).toArray] w λm v I=>∃lv,v=.tuple #[lv,.int .i64 0]/\aV (Fr m) I dV 1 lv (b2 t):=by
 obtain⟨s1,s2,cy⟩:=h.iF;obtain⟨vW,xk,FX⟩:=TS h0;refine ca func46 ntmps46 ?_;refine ck λaT=>?_;refine ao (bw (λI hw=>N8 t aj ae ak vs I (h.now hw)) ?_);rintro v bx a6 rfl cA;refine bg (λh1=>?_) λh1=>?_
 ·rw[amk,ar]at h1;exact absurd h0 h1
 refine aa ?_;refine ao (bw (λI hw=>(N9 t aj ae ak vs I (h.now hw) vW xk).size (hw.sz ds)) ?_);rintro v2 cp bX ⟨iM,eh⟩ fq;refine aa ?_;refine bP rfl (.tmp rfl (.t1 rfl)) λI hw=>?_;exact⟨_,rfl,hw.pass iM aL eh⟩
theorem Ob(t:aM)(aj ae ak:Value)(vs:List Value)(w:World)(h:gz an w aj ae ak vs t):bj prog 19 [.agg (cQ t aj ae ak).toArray] w λ_ v _=>v=.int .i64 (pL t):=by
 obtain⟨s1,s2,cy⟩:=h.iF;have eE:=h.mZ;have hM:=h.mx;have hle:=hM.le;have ri:=yX t.dD t.node;refine ca func19 ntmps19 ?_;refine ck λaT=>?_;refine ao (bw (λI hw=>Xr t.az I) ?_);rintro v bx a6 rfl cA;refine aa ?_;unfold pL;refine bA (λh1=>?_) λh1=>?_
 ·rw[amk,amu]at h1;refine bl λI hw=>?_;rw[amn h1];rfl
 rw[amm,amj]at h1;rw[amo h1];refine aa ?_;refine fm (c:=!(bO ((t.name.size:Int)<1)||bO (1024<(t.name.size:Int)))) (h:=eY (a7:=λai I hw=>Of t.name 33 I (by rw[amk,amt,ar,ar]at ai;omega))) (ab:=?_)
 refine bg (λh2=>?_) λh2=>?_
 ·have bF:qN t.name=false:=by
   simp only[amr,aq,amk]at h2;unfold qN;rcases h2 with(q | q) | q
   ·rw[amy (by omega)];rfl
   ·rw[amy (p:=t.name.size<=1024) (by omega)];simp
   rw[q];simp
  refine bl λI hw=>?_;rw[bF];rfl
 have bF:qN t.name=true:=by simp only[amt,ar,amm]at h2;unfold qN;rw[amq (by omega),amq (p:=t.name.size<=1024) (by omega),h2.2];rfl
 rw[bF,anA];refine aa ?_;refine h7 (λb:Bool=>(b=true↔pX t.nF=false)) (λb=>[(45,true,.bool b),(1,true,ax aT)]) (λ_=>Mem [(w,an)] [.box aT (cQ t aj ae ak) 32]) ?_ ?_
 ·have O1:pX t.nF=(decide (t.nF.size<=262144)&&wi 32 t.nF&&LL t.nF):=rfl;refine cV [0,1,2,3,4,5,6,7,8,9,10,11,12,14,15,13,16,17] mixed ?_;refine aP ?_;refine w9 ?_ (c:=!bO (262144<(t.nF.size:Int))) (h:=eY (a7:=λai I hw=>Of t.nF 32 I (by rw[amk,ar]at ai;omega)))
  by_cases hC:(bO (262144<(t.nF.size:Int))||!wi 32 t.nF)=true
  ·refine aP ?_;refine w9 ?_ (h:=OK (u:=.string a8) (by rw[hC];rfl));refine aP ?_;refine bZ _ ?_ (hA:=c7);rw[hC,Bool.true_or,O1];refine⟨λ_=>?_,λ_=>rfl⟩;rw[amr,aq,amk]at hC;rcases hC with q | q
   ·rw[amy (by omega)];rfl
   rw[q];simp
  rw[anK]at hC;have OO:=hC;rw[amt,ar,amm]at OO;have r1:(!(bO (262144<(t.nF.size:Int))||!wi 32 t.nF))=true:=by rw[hC];rfl
  refine aP ?_;refine abb _ (hb:=hC) (h:=iJ (hxs:=.cons ⟨_,rfl,λ_=>r1⟩ (.cons (bY rfl) .nil)) (a7:=λI hw=>ahr t.nF I (by omega)) (ab:=?_));rintro v cp bX ⟨u,rfl,hu⟩ fq;refine aF (aP ?_) eS;refine bZ _ ?_ (hA:=c7);rw[hC,anU,O1,amq (by omega),OO.2,<-hu,ch];simp
 rintro b hb;refine bg (λh3=>?_) λh3=>?_
 ·refine bl λI hw=>?_;rw[hb.1 h3];rfl
 have dw:pX t.nF=true:=by
  cases aZ:pX t.nF with
  | true=>rfl
  | false=>rw[hb.2 aZ]at h3;cases h3
 rw[amo dw];refine aa ?_;refine ao (bw (λI hw=>Xp t aj ae ak vs I (h.now hw) h1) ?_);rintro v hD gb rfl nj;refine bg (λaC=>?_) λaC=>?_
 ·rw[amk,ar]at aC;refine bl λI hw=>?_;unfold kS;rw[amn aC];rfl
 rw[amm,aq]at aC;unfold kS;rw[amo aC];refine aa ?_;refine ao (bw (λI hw=>Xo t aj ae ak vs I (h.now hw)) ?_);rintro v jI jJ rfl zQ;refine bg (λaW=>?_) λaW=>?_
 ·rw[amk,ar]at aW;refine bl λI hw=>?_;unfold kS;rw[amn aW];rfl
 rw[amm,aq]at aW;unfold kS;rw[amo aW];refine aa ?_;refine ao (bw (λI hw=>Nl t.az t.dD t.node ak I (h.now hw).node) ?_);rintro v pG pO rfl EP;refine bg (λcM=>?_) λcM=>?_
 ·rw[amk,ar]at cM;refine bl λI hw=>?_;have:sM t=oL t.az t.dD t.node:=by unfold sM;rw[amn cM]
  unfold kS;rw[this,amn cM];rfl
 rw[amm,aq]at cM;have x0:sM t=if(fK t.dD t.node).any (λx=>decide ((t.code.length:Int)<=x.aI))then 80 else 0:=by unfold sM;rw[amo cM]
 refine aa ?_;refine ao (bw (λI hw=>Oa t aj ae ak vs I (h.now hw)) ?_);rintro aU n6 tG bp B4;have xZ:=bp.le;refine aa ?_;refine b9 (λs:Nat=>s<=(fK t.dD t.node).length/\∀j,j<s->decide ((t.code.length:Int)<=((fK t.dD t.node).getD j default).aI)=false) (λs=>[(67,true,.int .i64 s),(66,true,.int .i64 (fK t.dD t.node).length),(65,true,aU),(1,true,ax aT)]) (λs=>Mem [(tG,Fr n6),(w,an)] [.box aT (cQ t aj ae ak) 32]) (λs=>(fK t.dD t.node).length-s) 0 ⟨amz _,λj ad=>by omega⟩ ?_ ⟨rfl,rfl,rfl,rfl,trivial⟩ (λ_ h=>h.Hh λB hB=>by simp only[amG,aoH,or_false]at hB⊢;rcases hB with rfl | rfl<;>simp)
 rintro k ⟨hk,h0⟩;refine bg (λef=>?_) λef=>?_
 ·have jl:k<(fK t.dD t.node).length:=by rw[aq]at ef;omega
  refine aa ?_;refine cU λeN=>?_;refine bQ 0 ?_;refine bA (λdW=>?_) λdW=>?_
  ·rw[aq]at dW;refine bl λI hw=>?_;have:sM t=80:=by rw[x0,amo (anl.2 ⟨_,er jl,amq (by omega)⟩)]
   unfold kS;rw[this];rfl
  rw[ar]at dW;refine aa ?_;exact bt (k+1) ⟨by omega,λj ad=>by
   by_cases e:j<k
   ·exact h0 j e
   rw[show j=k by omega];exact amy (by omega)⟩ (by omega) ⟨rfl,rfl,rfl,rfl,trivial⟩ (bV [1])
 have:sM t=0:=by rw[x0,amn];rw[anK,DG];exact λj ad=>h0 j (by rw[ar]at ef;omega)
 unfold kS;rw[amo this];refine aa ?_;refine ao (bw (λI hw=>Od t aj ae ak vs I (h.now hw) (Hr aC) (Jz aW)) ?_);rintro v n7 A6 c6 B5;have zx:=c6.le;refine bg (λhL=>?_) λhL=>?_
 ·rw[aq]at hL;refine bl λI hw=>?_;rw[amo (by omega)];rfl
 rw[ar]at hL;refine bl λI hw=>?_;rw[amn (by omega)];rfl
theorem Xs(t:aM)(aj ae ak:Value)(vs:List Value)(w:World)(h:gz an w aj ae ak vs t)(h0:pL t=0):bj prog 20 [.agg (cQ t aj ae ak).toArray] w λm v I=>∃lv,v=.tuple #[lv,.int .i64 0]/\aV (Fr m) I dV 1 lv (b2 t):=by
 obtain⟨s1,s2,cy⟩:=h.iF;obtain⟨vW,xk,FX⟩:=TS h0;refine ca func20 ntmps20 ?_;refine ck λaT=>?_;refine ao (bw (λI hw=>Ob t aj ae ak vs I (h.now hw)) ?_);rintro v bx a6 rfl cA;refine bg (λh1=>?_) λh1=>?_
 ·rw[amk,ar]at h1;exact absurd h0 h1
 refine aa ?_;refine ao (bw (λI hw=>Od t aj ae ak vs I (h.now hw) vW xk) ?_);rintro v2 cp bX iM fq;refine aa ?_;refine ao (iJ (a7:=λI hw=>(agd v2 _ I (hw.now iM) (by omega)).size (hw.sz gC)) (ab:=?_));rintro v3 hD gb ⟨pC,eh⟩ nj;refine aa ?_;refine bP rfl (.tmp rfl (.t1 rfl)) λI hw=>?_;exact⟨_,rfl,hw.pass pC aL eh⟩
structure l2 where
 aj:Value
 ae:Value
 ak:Value
 lv:Value
 e9:Value
 tt:Value
 bE:Value
structure im where
 rg:Value
 aN:Value
 bv:Value
 aK:Value
 aX:Value
 ae:Value
def gp(t:aM)(g:l2)(k:Int)(z:im)(ba:BitVec 64)(hg full:Bool):List Value:=cQ t g.aj g.ae g.ak++[.int .i64 k,z.rg,u64 ba,g.lv,g.e9,z.aN,z.bv,z.aK,z.aX,z.ae,g.tt,g.bE,.bool hg,.bool full]
structure ku(g:l2)(z:im):Prop where
 aj:aD g.aj
 ae:aD g.ae
 ak:aD g.ak
 lv:aD g.lv
 e9:aD g.e9
 tt:aD g.tt
 bE:aD g.bE
 rg:aD z.rg
 aN:aD z.aN
 bv:aD z.bv
 aK:aD z.aK
 aX:aD z.aX
 BA:aD z.ae
theorem iD{g:l2}{z:im}(ok:ku g z) (t:aM) (k:Int) (ba:BitVec 64) (hg:Bool) (full:Bool):pS (gp t g k z ba hg full):=.cons rfl (.cons rfl (.cons rfl (.cons ok.aj.one (.cons ok.ae.one (.cons rfl (.cons rfl (.cons rfl (.cons rfl (.cons rfl (.cons rfl (.cons ok.ak.one (.cons rfl (.cons ok.rg.one (.cons rfl (.cons ok.lv.one (.cons ok.e9.one (.cons ok.aN.one (.cons ok.bv.one (.cons ok.aK.one (.cons ok.aX.one (.cons ok.BA.one (.cons ok.tt.one (.cons ok.bE.one (.cons rfl (.cons rfl .nil)))))))))))))))))))))))))
structure jM where
 J:List eL
 bars:List ny
 addr:List b5
 data:List b5
 ba:List b5
def mR(z:im)(l:jM):List aA:=[.own z.aN 138 6 ec l.J,.own z.aK 178 2 bz l.addr,.own z.aX 178 2 bz l.data,.own z.ae 178 2 bz l.ba]
def tV(l:jM)(k:Int)(x:eL)(addr data ba:BitVec 64):jM:=⟨l.J++[{x with aI:=k}],l.bars,l.addr++nP addr 64 l.J.length,l.data++nP data 64 l.J.length,l.ba++nP ba 64 l.J.length⟩
theorem SI(t:aM)(g:l2)(k:Int)(z:im)(l:jM)(ba addr data:BitVec 64)(hg full:Bool)(x:eL)(w:World)(ok:ku g z)(au:l.addr.length<=500000)(hd:l.data.length<=500000)(ai:l.ba.length<=500000)(hw:Mem [] (mR z l) w): eM prog 289 [.agg (gp t g k z ba hg full).toArray,.agg (ec x).toArray,u64 addr,u64 data] (mR z l) w λ_ v es _=>
  (64<=l.J.length/\v=.agg (gp t g k z ba hg true).toArray/\es=mR z l)\/
  (l.J.length<64/\∃ej,ej.rg=z.rg/\ej.bv=z.bv/\ku g ej/\v=.agg (gp t g k ej ba hg full).toArray/\es=mR ej (tV l k x addr data ba)):=by
 have mj:=ok;obtain⟨g1,g2,g3,g4,g5,g6,g7,mm,z2,z3,z4,z5,n2⟩:=ok;refine jO func289 ntmps289 hw ?_;refine eQ λcO=>?_;refine eQ λea=>?_;refine dH λdv=>?_;refine bA (λh1=>?_) λh1=>?_
 ·have cb:64<=l.J.length:=by rw[aq]at h1;omega
  refine af ?_;refine c0 2 ?_;refine ao (bD 0 (h1:=iD mj t k ba hg true) (ab:=af ?_));exact ez rfl (.c1 rfl aL rfl) (mR z l) [3,4,5,6] λI hw=>.inl ⟨cb,rfl,rfl⟩
 have cb:l.J.length<64:=by rw[ar]at h1;omega
 refine af ?_;refine c0 1 ?_;refine ao (eA ec Hy (e:=138) (sz:=6) (len:=1) (dF:=[(0,ec {x with aI:=k})]) (ab:=λv25 Jg=>af ?_));refine ao (e6 4 (hm:=aL) (hk:=rfl) (bG:=by simp only[amD,amI,amW];omega) (ab:=λv26 Jh=>af ?_));refine c0 3 ?_;refine cJ (Mem [(w,bB (mR z l))] ([.own z.aK 178 2 bz l.addr]++([.own z.aX 178 2 bz l.data,.own z.ae 178 2 bz l.ba,.own v26 138 6 ec (l.J++[{x with aI:=k}]),.box dv (gp ⟨0,ByteArray.empty,ByteArray.empty,[],[],0,default⟩ ⟨U,U,U,U,U,U,U⟩ 0 ⟨U,U,U,U,U,U⟩ 0#64 false false) 129,.box cO (gp t g k (⟨z.rg,v26,z.bv,z.aK,z.aX,z.ae⟩:im) ba hg full) 129]:List aA))) (bV [5,6,7,4,1,3]) ?_;refine ao (en (es:=[.own z.aK 178 2 bz l.addr]) (a7:=λI hw=>KY z.aK l.addr addr l.J.length I z4 (by omega) hw.dk.ei) (ab:=?_));rintro sx n34 es ahY ⟨zX,rfl⟩;refine af ?_;refine c0 5 ?_;refine cJ (Mem [(w,bB (mR z l))] ([.own z.aX 178 2 bz l.data]++([.own z.ae 178 2 bz l.ba,.own v26 138 6 ec (l.J++[{x with aI:=k}]),.own sx 178 2 bz (l.addr++nP addr 64 l.J.length),.box dv (gp ⟨0,ByteArray.empty,ByteArray.empty,[],[],0,default⟩ ⟨U,U,U,U,U,U,U⟩ 0 ⟨U,U,U,U,U,U⟩ 0#64 false false) 129,.box cO (gp t g k (⟨z.rg,v26,z.bv,sx,z.aX,z.ae⟩:im) ba hg full) 129]:List aA))) (bV [1,2,3,0,4,5]) ?_;refine ao (en (es:=[.own z.aX 178 2 bz l.data]) (a7:=λI hw=>KY z.aX l.data data l.J.length I z5 (by omega) hw.dk.ei) (ab:=?_));rintro wo n42 es alZ ⟨zY,rfl⟩;refine af ?_;refine c0 5 ?_;refine cJ (Mem [(w,bB (mR z l))] ([.own z.ae 178 2 bz l.ba]++([.own v26 138 6 ec (l.J++[{x with aI:=k}]),.own sx 178 2 bz (l.addr++nP addr 64 l.J.length),.own wo 178 2 bz (l.data++nP data 64 l.J.length),.box dv (gp ⟨0,ByteArray.empty,ByteArray.empty,[],[],0,default⟩ ⟨U,U,U,U,U,U,U⟩ 0 ⟨U,U,U,U,U,U⟩ 0#64 false false) 129,.box cO (gp t g k (⟨z.rg,v26,z.bv,sx,wo,z.ae⟩:im) ba hg full) 129]:List aA))) (bV [1,2,3,0,4,5]) ?_;refine ao (en (es:=[.own z.ae 178 2 bz l.ba]) (a7:=λI hw=>KY z.ae l.ba ba l.J.length I n2 (by omega) hw.dk.ei) (ab:=?_));rintro v51 n51 es al2 ⟨E3,rfl⟩;refine af ?_;refine c0 5 ?_;have qe:ku g (⟨z.rg,v26,z.bv,sx,wo,v51⟩:im):=⟨g1,g2,g3,g4,g5,g6,g7,mm,Jh,z3,zX,zY,E3⟩;refine ao (bD 4 (h1:=iD qe t k ba hg full) (ab:=af ?_));exact ez rfl (.c1 rfl qE rfl) (mR (⟨z.rg,v26,z.bv,sx,wo,v51⟩:im) (tV l k x addr data ba)) [1,2,3,0] λI hw=>.inr ⟨cb,(⟨z.rg,v26,z.bv,sx,wo,v51⟩:im),rfl,rfl,qe,rfl,rfl⟩
end Go.Proofs.bK
namespace Go.cc
open Go Go.bU
def NH:List Value->fO | [a,b,c,.int .u64 n]=>⟨iS a,iS b,AY c,BitVec.ofInt 64 n⟩ | _=>default
end Go.cc
attribute [local irreducible] Go.wpList Go.Code.wp Go.bodyPost Go.Exit.then Go.Exit.inBlock Go.Calls
namespace Go.Proofs.bK
instance:jw prog 133 gi NH:=⟨trivial⟩
def yN(az:Int)(ag:List fO)(d:Int)(h:fO):List fO:=if az=2/\d=0 then ag else ag.set d.toNat h
theorem ao4(t:aM)(g:l2)(k:Int)(z:im)(ag:List fO)(bb:List ByteArray)(ba:BitVec 64)(hg full:Bool)(r:Int)(w:World)(ok:ku g z)(aH:0<=r/\r<ag.length)(b8:aV an w gi 4 z.rg ag)(c6:aV an w dV 1 g.lv bb): bj prog 208 [.agg (gp t g k z ba hg full).toArray,.int .i64 r] w λ_ v _=>v=.int .i64 (if(ag.getD r.toNat default).k=2 then xl bb (ag.getD r.toNat default).loc else -1):=by
 obtain⟨g1,g2,g3,g4,g5,g6,g7,mm,z2,z3,z4,z5,n2⟩:=ok;refine gP func208 ntmps208 ?_;refine eQ λdy=>?_;refine bA (λh1=>?_) λh1=>?_
 ·rw[amk,ar]at h1;refine px λI hw=>?_;rw[amn h1];rfl
 rw[amm,aq]at h1;refine af ?_;refine cV [0,1,2,3,4,5,6,7,8,9] mixed ?_;refine bI ?_;refine bL _ (h:=bw (λI hw=>AJ g.lv g.e9 z.aN z.bv z.aK z.aX z.ae g.tt g.bE bb (ag.getD r.toNat default).loc I (hw.now c6) ⟨g5,z2,z3,z4,z5,n2,g6,g7⟩) ?_);rintro v20 bx a6 rfl cA;refine aF (aP ?_) eS;refine px λI hw=>?_;rw[amo h1];rfl
theorem AK(t:aM)(g:l2)(k:Int)(z:im)(ag:List fO)(ba:BitVec 64)(hg full:Bool)(d:Int)(h:fO)(w:World)(ok:ku g z)(hd:0<=d/\d<ag.length)(eO:ag.length<=1000)(hw:Mem [] [.own z.rg 133 4 gi ag] w): eM prog 207 [.agg (gp t g k z ba hg full).toArray,.int .i64 d,.agg (gi h).toArray] [.own z.rg 133 4 gi ag] w λ_ v es _=>∃kK,aD kK/\v=.agg (gp t g k {z with rg:=kK} ba hg full).toArray/\es=[.own kK 133 4 gi (yN t.az ag d h)]:=by
 have mj:=ok;obtain⟨g1,g2,g3,g4,g5,g6,g7,mm,z2,z3,z4,z5,n2⟩:=ok;refine jO func207 ntmps207 hw ?_;refine eQ λdR=>?_;refine eQ λea=>?_;refine dH λcS=>?_;refine bA (λh1=>?_) λh1=>?_
 ·rw[ami,aq,aq]at h1;refine af ?_;refine ao (bD 0 (h1:=iD mj t k ba hg full) (ab:=af ?_));exact ez rfl (.c1 rfl aL rfl) [.own z.rg 133 4 gi ag] [3] λI hw=>⟨z.rg,mm,rfl,by unfold yN;rw[amo h1]⟩
 rw[amx,ar,ar]at h1;refine af ?_;refine dZ 133 4 gi ?_;refine ao (e6 0 (xs:=([]:List fO)) (hm:=qE) (hk:=rfl) (bG:=by simp only[amW];omega) (ab:=?_));intro v20 zW;rw[anf];refine af ?_;refine ao (fB 0 rfl h (ab:=af ?_));refine c0 3 ?_;have qe:ku g {z with rg:=v20}:=⟨g1,g2,g3,g4,g5,g6,g7,zW,z2,z3,z4,z5,n2⟩;refine ao (bD 1 (h1:=iD qe t k ba hg full) (ab:=af ?_));exact ez rfl (.c1 rfl ds rfl) [.own v20 133 4 gi (ag.set d.toNat h)] [0] λI hw=>⟨v20,zW,rfl,by unfold yN;rw[amn λq=>h1.elim (λg=>g q.1) λg=>g q.2]⟩
def ka(z:im)(l:jM)(ag:List fO):List aA:=.own z.rg 133 4 gi ag::mR z l
def Ms(t:aM)(g:l2)(k:Int)(z:im)(l:jM)(ag:List fO)(ba:BitVec 64)(l':jM)(qB:List fO):Nat->Value->List aA->World->Prop:=λ_ v es _=>
 (64<=l.J.length/\∃ej,ej.bv=z.bv/\ku g ej/\v=.agg (gp t g k ej ba false true).toArray/\es=ka ej l ag)\/
 (l.J.length<64/\∃ej,ej.bv=z.bv/\ku g ej/\v=.agg (gp t g k ej ba false false).toArray/\es=ka ej l' qB)
theorem afd(t:aM)(g:l2)(k:Int)(z:im)(l:jM)(ag:List fO)(ba on:BitVec 64)(rG loc bq:Int)(w:World)(ok:ku g z)(au:l.addr.length<=500000)(hd:l.data.length<=500000)(ai:l.ba.length<=500000)(aH:0<=bq/\bq<ag.length)(eO:ag.length<=1000)(hw:Mem [] (ka z l ag) w): eM prog 206 [.agg (gp t g k z ba false false).toArray,.int .i64 rG,.int .i64 loc,.int .i64 bq,u64 on] (ka z l ag) w (Ms t g k z l ag ba (tV l k ⟨0,rG,1,loc,0,bq⟩ on 0#64 ba) (yN t.az ag bq ⟨3,(l.J.length:Int),a8,1#64<<<l.J.length⟩)):=by
 have mj:=ok;obtain⟨g1,g2,g3,g4,g5,g6,g7,mm,z2,z3,z4,z5,n2⟩:=ok;refine jO func206 ntmps206 hw ?_;refine eQ λea=>?_;refine dH λmr=>?_;refine cJ (Mem [(w,bB (ka z l ag))] (mR z l++([.own z.rg 133 4 gi ag,.box mr (gp ⟨0,ByteArray.empty,ByteArray.empty,[],[],0,default⟩ ⟨U,U,U,U,U,U,U⟩ 0 ⟨U,U,U,U,U,U⟩ 0#64 false false) 129,.box ea (gp t g k z ba false false) 129]:List aA))) (bV [3,4,5,6,2,0,1]) ?_;refine ao (en (es:=mR z l) (a7:=λI hw=>SI t g k z l ba on 0#64 false false ⟨0,rG,1,loc,0,bq⟩ I mj au hd ai hw.dk.ei) (ab:=?_));rintro ak1 n22 es alU XR;rcases XR with⟨hf,rfl,rfl⟩ | ⟨hf,ej,bC,cd,qe,rfl,rfl⟩
 ·refine af ?_;refine ao (bD 6 (h1:=iD mj t k ba false true) (ab:=af ?_));refine cK rfl (λ_=>?_) (λh=>by cases h);refine af ?_;refine ao (bD 5 (h1:=iD mj t k ba false true) (ab:=af ?_));exact ez rfl (.c1 rfl pE rfl) (ka z l ag) [4,0,1,2,3] λI hw=>.inl ⟨hf,z,rfl,mj,rfl,rfl⟩
 refine af ?_;refine ao (bD 6 (h1:=iD qe t k ba false false) (ab:=af ?_));refine cK rfl (λh=>by cases h) λ_=>?_;refine af ?_;have w5:(BitVec.ofInt 64 (l.J.length:Int)).toNat=l.J.length:=by rw[BitVec.toNat_ofInt];omega
 rw[w5];refine cJ (Mem [(w,bB (ka z l ag))] ([.own ej.rg 133 4 gi ag]++(mR ej (tV l k ⟨0,rG,1,loc,0,bq⟩ on 0#64 ba)++([.box mr (gp ⟨0,ByteArray.empty,ByteArray.empty,[],[],0,default⟩ ⟨U,U,U,U,U,U,U⟩ 0 ⟨U,U,U,U,U,U⟩ 0#64 false false) 129,.box ea (gp t g k ej ba false false) 129]:List aA)))) (λ_ h=>by rw[bC];exact h.cm [4,0,1,2,3,5,6]) ?_;refine ao (en (es:=[.own ej.rg 133 4 gi ag]) (a7:=λI hw=>AK t g k ej ag ba false false bq ⟨3,(l.J.length:Int),a8,1#64<<<l.J.length⟩ I qe aH eO hw.dk.ei) (ab:=?_));rintro ak4 n33 es alX ⟨kK,Zu,rfl,rfl⟩;have yI:ku g {ej with rg:=kK}:=⟨g1,g2,g3,g4,g5,g6,g7,Zu,qe.aN,qe.bv,qe.aK,qe.aX,qe.BA⟩;refine af ?_;refine ao (bD 5 (h1:=iD yI t k ba false false) (ab:=af ?_));exact ez rfl (.c1 rfl pE rfl) (ka {ej with rg:=kK} (tV l k ⟨0,rG,1,loc,0,bq⟩ on 0#64 ba) (yN t.az ag bq ⟨3,(l.J.length:Int),a8,1#64<<<l.J.length⟩)) [0,1,2,3,4] λI hw=>.inr ⟨hf,{ej with rg:=kK},cd,yI,rfl,rfl⟩
theorem SL(t:aM)(g:l2)(k:Int)(z:im)(l:jM)(ag:List fO)(ba on:BitVec 64)(rG loc:Int)(x:fO)(w:World)(ok:ku g z)(au:l.addr.length<=500000)(hd:l.data.length<=500000)(ai:l.ba.length<=500000)(hw:Mem [] (ka z l ag) w): eM prog 205 [.agg (gp t g k z ba false false).toArray,.int .i64 rG,.int .i64 loc,.agg (gi x).toArray,u64 on] (ka z l ag) w λn v es I=>
  ((loc<0\/x.k≠1)/\v=.agg (gp t g k z ba true false).toArray/\es=ka z l ag)\/
  ((0<=loc/\x.k=1)/\Ms t g k z l ag ba (tV l k ⟨0,rG,2,loc,x.n,0⟩ on x.on ba) ag n v es I):=by
 have mj:=ok;obtain⟨g1,g2,g3,g4,g5,g6,g7,mm,z2,z3,z4,z5,n2⟩:=ok;refine jO func205 ntmps205 hw ?_;refine eQ λea=>?_;refine eQ λdv=>?_;refine dH λmr=>?_;refine bA (λh1=>?_) λh1=>?_
 ·have cb:loc<0\/x.k≠1:=by rw[amr,aq,amk,ar]at h1;exact h1
  refine af ?_;refine c0 2 ?_;refine ao (bD 0 (h1:=iD mj t k ba true false) (ab:=af ?_));exact ez rfl (.c1 rfl aL rfl) (ka z l ag) [3,4,5,6,7] λI hw=>.inl ⟨cb,rfl,rfl⟩
 have cb:0<=loc/\x.k=1:=by rw[amt,ar,amm,aq]at h1;exact⟨by omega,h1.2⟩
 refine af ?_;refine cJ (Mem [(w,bB (ka z l ag))] (mR z l++([.own z.rg 133 4 gi ag,.box mr (gp ⟨0,ByteArray.empty,ByteArray.empty,[],[],0,default⟩ ⟨U,U,U,U,U,U,U⟩ 0 ⟨U,U,U,U,U,U⟩ 0#64 false false) 129]:List aA))) (bV [4,5,6,7,3,0]) ?_;refine ao (en (es:=mR z l) (a7:=λI hw=>SI t g k z l ba on x.on false false ⟨0,rG,2,loc,x.n,0⟩ I mj au hd ai hw.dk.ei) (ab:=?_));rintro ak2 n29 es alV XT;rcases XT with⟨hf,rfl,rfl⟩ | ⟨hf,ej,bC,cd,qe,rfl,rfl⟩
 ·refine af ?_;refine ao (bD 5 (h1:=iD mj t k ba false true) (ab:=af ?_));exact ez rfl (.c1 rfl pE rfl) (ka z l ag) [4,0,1,2,3] λI hw=>.inr ⟨cb,.inl ⟨hf,z,rfl,mj,rfl,rfl⟩⟩
 refine af ?_;refine ao (bD 5 (h1:=iD qe t k ba false false) (ab:=af ?_));exact ez rfl (.c1 rfl pE rfl) (ka ej (tV l k ⟨0,rG,2,loc,x.n,0⟩ on x.on ba) ag) [4,0,1,2,3] (k1:=by unfold ka;rw[bC];rfl) λI hw=>.inr ⟨cb,.inr ⟨hf,ej,cd,qe,rfl,rfl⟩⟩
end Go.Proofs.bK
