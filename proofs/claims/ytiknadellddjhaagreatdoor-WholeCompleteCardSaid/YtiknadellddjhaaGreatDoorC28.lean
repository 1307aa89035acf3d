/- Lemmas for the law WholeComplete. -/
import Derived.Test.YtiknadellddjhaaGreatDoorC26
import Derived.Test.YtiknadellddjhaaGreatDoorC27
set_option linter.all false
open Go.Proofs.Tryz
set_option maxHeartbeats 12800000
open Go Go.b9 Go.bM
namespace Go.b9
open Go Go.bM
structure fX where
 k:Int
 n:Int
 loc:ByteArray
 on:BitVec 64
 deriving Inhabited
def gu(h:fX):List Value:=[.int .i64 h.k,.int .i64 h.n,.string h.loc,u64 h.on]
instance:eg gu 4:=⟨λ_=>rfl,by decide⟩
instance:nR gu (λ_=>True):=⟨λ_ _ u hu=>by simp[gu]at hu;rcases hu with rfl | rfl | rfl | rfl<;>rfl⟩
end Go.b9
namespace Go.Proofs.bA
attribute [local irreducible] wpList Code.wp bodyPost Exit.then Exit.inBlock Calls
theorem TL(h:fX)(w:World):bl prog 290 [.agg (gu h).toArray] w λ_ v _=>v=.bool (decide (h.k=1)&&decide (h.n=0)):=by refine ha func290 ntmps290 ?_;refine e4 λgn=>?_;refine bT rfl (.t1 rfl) λI hw=>?_;rw[<-cd,<-cd];rfl
def xX(l:List ByteArray)(s:ByteArray):Int:=if dr l s<l.length then(dr l s:Int)else -1
theorem Bo(ak ah aI bv aG aR ad aT bj:Value)(l:List ByteArray)(s:ByteArray)(w:World)(aL:aZ al w dU 1 ak l)(aj:aD ah/\aD aI/\aD bv/\aD aG/\aD aR/\aD ad/\aD aT/\aD bj):bl prog 47 [.agg #[ak,ah,aI,bv,aG,aR,ad,aT,bj],.string s] w λ_ v _=>v=.int .i64 (xX l s):=by
 obtain⟨g1,g2,g3,g4,g5,g6,g7,g8⟩:=aj;have iy:=aL.le;have tB:=aL.aK;refine ha func47 ntmps47 ?_;refine e4 λdC=>?_;refine bX (λi:Nat=>i<=l.length/\∀j,j<i->l.getD j default≠s) (λi=>[(5,true,.int .i64 i),(2,true,av dC),(1,true,.string s)]) (λ_=>Mem [(w,al)] [.box dC [ak,ah,aI,bv,aG,aR,ad,aT,bj] 41]) (λi=>l.length-i) 0 ⟨aoD _,λj ae=>absurd ae (apw _)⟩ ?_
 rintro i ⟨hi,bG⟩;have eD:i=l.length->s∉l:=λe hm=>by obtain⟨j,ae,Qa⟩:=aqk hm;exact bG j (by omega) (by rw[aor,aov ae];exact Qa)
 refine dp (λh3=>?_) λh3=>?_
 ·have dE:i<l.length:=by rw[an]at h3;omega
  refine dp (λaA=>?_) λaA=>?_
  ·rw[an]at aA;refine pG λI hw=>?_;have Fk:dr l s=i:=by unfold dr;rw[List.findIdx_eq dE];refine⟨by rw[aop,<-aA,aor,aov dE];rfl,λj ae=>?_⟩;have:=bG j ae;rw[aoA];rwa[aor,aov (by omega)]at this
   unfold xX;rw[Fk,aou dE];rfl
  rw[au]at aA;refine af ?_;refine bm (i+1) ⟨by omega,λj ae=>?_⟩ (by omega);by_cases e:j=i
  ·subst e;exact aA
  exact bG j (by omega)
 have dE:i=l.length:=by rw[au]at h3;omega
 refine pG λI hw=>?_;unfold xX;have hle:¬dr l s<l.length:=λg=>eD dE (by have:=List.findIdx_getElem (w:=g);rw[aop]at this;rw[<-this];exact apC _)
 rw[aot hle];rfl
def n9(on:BitVec 64)(n:Nat)(e:Int):List ca:=((List.range n).filter λi=>on.getLsbD i).map λ(a:Nat)=>⟨(a:Int),e⟩
theorem aax(on:BitVec 64)(n:Nat)(e:Int):n9 on (n+1) e=if on.getLsbD n=true then n9 on n e++[⟨(n:Int),e⟩]else n9 on n e:=by
 unfold n9;rw[ape,apl,apm];by_cases q:on.getLsbD n=true
 ·rw[aou q];simp[q]
 rw[aot q];simp[q]
theorem aaw(on:BitVec 64)(n:Nat)(e:Int):(n9 on n e).length<=n:=by unfold n9;rw[aoJ];have:=apr (λi=>on.getLsbD i) (List.range n);rwa[aqC]at this
theorem Um(on:BitVec 64){r:Nat}(aM:r<64):(on>>>(BitVec.ofInt 64 (r:Int)).toNat&&& 1#64=1#64)↔on.getLsbD r=true:=by
 have h1:(BitVec.ofInt 64 (r:Int)).toNat=r:=by rw[BitVec.toNat_ofInt];omega
 rw[h1];constructor
 ·intro h;have:=aoI (λx=>x.getLsbD 0) h;simpa using this
 intro h;apply aqb;intro i hi;rw[aqc,ap5];by_cases q:i=0
 ·subst q;simp[h]
 simp[aqa,q]
theorem LL(ak:Value)(xs:List ca)(on:BitVec 64)(e:Int)(w:World)(tB:aD ak)(hx:xs.length<=1000000)(hw:Mem [] [.own ak 178 2 bB xs] w): eY prog 355 [ak,u64 on,.int .i64 e] [.own ak 178 2 bB xs] w λ_ v es _=>aD v/\es=[.own v 178 2 bB (xs++n9 on 64 e)]:=by
 refine j3 func355 ntmps355 hw ?_;refine bX (λz:Nat×Value=>z.1<=64/\aD z.2) (λz=>[(7,true,.int .i64 z.1),(2,true,.int .i64 e),(1,true,u64 on),(0,true,z.2)]) (λz=>Mem [(w,bJ [.own ak 178 2 bB xs])] [.own z.2 178 2 bB (xs++n9 on z.1 e)]) (λz=>64-z.1) (0,ak) ⟨by omega,tB⟩ ?_ ⟨rfl,rfl,rfl,rfl,trivial⟩ (λ_ h=>by
   have:xs++n9 on 0 e=xs:=by unfold n9;simp
   dsimp only;rw[this];exact h)
 rintro⟨r,v⟩ ⟨aM,ax⟩;dsimp only at aM ax⊢;have lx:=aaw on r e;refine dp (λh1=>?_) λh1=>?_
 ·have bU:r<64:=by rw[an]at h1;omega
  have er:=aax on r e;refine dp (λh2=>?_) λh2=>?_
  ·rw[an,Um on bU]at h2;rw[aou h2]at er;refine af ?_;refine aq (eI (enc:=bB) (dec:=EA) (ab:=λv22 QP=>af ?_));refine aq (e6 1 (hm:=aP) (hk:=rfl) (bH:=by simp only[aoy,aoJ,aoN,ao1];omega) (ab:=λv23 abi=>af ?_));exact bm (r+1,v23) ⟨bU,abi⟩ (show 64-(r+1)<64-r by omega) (hA:=λ_ h=>by dsimp only;rw[er,<-aoP];exact h.tail)
  rw[au,Um on bU]at h2;rw[aot h2]at er;refine af ?_;exact bm (r+1,v) ⟨bU,ax⟩ (show 64-(r+1)<64-r by omega) (hA:=λ_ h=>by dsimp only;rw[er];exact h)
 have bU:r=64:=by rw[au]at h1;omega
 subst bU;refine af ?_;exact eL rfl (.t1 rfl) [.own v 178 2 bB (xs++n9 on 64 e)] [0] λI hw=>⟨ax,rfl⟩
theorem UM{t:aV}(h:pT t=0):uS t/\t.init.length<=1024/\(cc t).length<=64:=by
 unfold pT at h;split at h
 ·split at h
  ·simp only[lf]at h;split at h
   ·rename_i aA;split at h
    ·rename_i a6;refine⟨HW aA,Kd a6,Nat.le_of_not_lt λq=>?_⟩;rw[aou q]at h;split at h
     ·simp at h
     contradiction
    contradiction
   contradiction
  cases h
 cases h
theorem Yz(t:aV)(ah ad ao:Value)(vs:List Value)(w:World)(h:gW al w ah ad ao vs t)(h0:pT t=0):bl prog 46 [.agg (c6 t ah ad ao).toArray] w λm v I=>∃ak,v=.tuple #[ak,.int .i64 0]/\aZ (Fr m) I dU 1 ak (cc t):=by
 obtain⟨s1,s2,cJ⟩:=h.jY;obtain⟨wJ,xW,Gr⟩:=UM h0;refine bZ func46 ntmps46 ?_;refine b7 λaQ=>?_;refine aq (bp (λI hw=>O8 t ah ad ao vs I (h.now hw)) ?_);rintro v bx bc rfl cu;refine a8 (λh1=>?_) λh1=>?_
 ·rw[aoq,au]at h1;exact absurd h0 h1
 refine U ?_;refine aq (bp (λI hw=>(O9 t ah ad ao vs I (h.now hw) wJ xW).size (hw.sz dg)) ?_);rintro v2 ck bY ⟨hS,ej⟩ eZ;refine U ?_;refine bT rfl (.tmp rfl (.t1 rfl)) λI hw=>?_;exact⟨_,rfl,hw.pass hS aP ej⟩
theorem Pb(t:aV)(ah ad ao:Value)(vs:List Value)(w:World)(h:gW al w ah ad ao vs t):bl prog 19 [.agg (c6 t ah ad ao).toArray] w λ_ v _=>v=.int .i64 (pT t):=by
 obtain⟨s1,s2,cJ⟩:=h.jY;have eA:=h.nX;have iv:=h.nA;have hle:=iv.le;have qR:=zB t.dH t.node;refine bZ func19 ntmps19 ?_;refine b7 λaQ=>?_;refine aq (bp (λI hw=>YE t.aC I) ?_);rintro v bx bc rfl cu;refine U ?_;unfold pT;refine bC (λh1=>?_) λh1=>?_
 ·rw[aoq,aoA]at h1;refine bf λI hw=>?_;rw[aot h1];rfl
 rw[aos,aop]at h1;rw[aou h1];refine U ?_;refine e1 (c:=!(bw ((t.name.size:Int)<1)||bw (1024<(t.name.size:Int)))) (h:=ev (bb:=λai I hw=>Pf t.name 33 I (by rw[aoq,aoz,au,au]at ai;omega))) (ab:=?_)
 refine a8 (λh2=>?_) λh2=>?_
 ·have bq:q6 t.name=false:=by
   simp only[aox,an,aoq]at h2;unfold q6;rcases h2 with(q | q) | q
   ·rw[aoE (by omega)];rfl
   ·rw[aoE (p:=t.name.size<=1024) (by omega)];simp
   rw[q];simp
  refine bf λI hw=>?_;rw[bq];rfl
 have bq:q6 t.name=true:=by simp only[aoz,au,aos]at h2;unfold q6;rw[aow (by omega),aow (p:=t.name.size<=1024) (by omega),h2.2];rfl
 rw[bq,apE];refine U ?_;refine ih (λb:Bool=>(b=true↔p3 t.nZ=false)) (λb=>[(45,true,.bool b),(1,true,av aQ)]) (λ_=>Mem [(w,al)] [.box aQ (c6 t ah ad ao) 32]) ?_ ?_
 ·have PW:p3 t.nZ=(decide (t.nZ.size<=262144)&&wS 32 t.nZ&&ME t.nZ):=rfl;refine cz [0,1,2,3,4,5,6,7,8,9,10,11,12,14,15,13,16,17] mixed ?_;refine aN ?_;refine rE ?_ (c:=!bw (262144<(t.nZ.size:Int))) (h:=ev (bb:=λai I hw=>Pf t.nZ 32 I (by rw[aoq,au]at ai;omega)))
  by_cases hC:(bw (262144<(t.nZ.size:Int))||!wS 32 t.nZ)=true
  ·refine aN ?_;refine rE ?_ (h:=IA (u:=.string bg) (by rw[hC];rfl));refine aN ?_;refine b6 _ ?_ (hA:=cv);rw[hC,Bool.true_or,PW];refine⟨λ_=>?_,λ_=>rfl⟩;rw[aox,an,aoq]at hC;rcases hC with q | q
   ·rw[aoE (by omega)];rfl
   rw[q];simp
  rw[apS]at hC;have PJ:=hC;rw[aoz,au,aos]at PJ;have sj:(!(bw (262144<(t.nZ.size:Int))||!wS 32 t.nZ))=true:=by rw[hC];rfl
  refine aN ?_;refine acq _ (hb:=hC) (h:=hq (hxs:=.cons ⟨_,rfl,λ_=>sj⟩ (.cons (b3 rfl) .nil)) (bb:=λI hw=>aje t.nZ I (by omega)) (ab:=?_));rintro v ck bY ⟨u,rfl,hu⟩ eZ;refine aF (aN ?_) ek;refine b6 _ ?_ (hA:=cv);rw[hC,ap6,PW,aow (by omega),PJ.2,<-hu,cd];simp
 rintro b hb;refine a8 (λh3=>?_) λh3=>?_
 ·refine bf λI hw=>?_;rw[hb.1 h3];rfl
 have dE:p3 t.nZ=true:=by
  cases ba:p3 t.nZ with
  | true=>rfl
  | false=>rw[hb.2 ba]at h3;cases h3
 rw[aou dE];refine U ?_;refine aq (bp (λI hw=>YC t ah ad ao vs I (h.now hw) h1) ?_);rintro v hj fW rfl nG;refine a8 (λaA=>?_) λaA=>?_
 ·rw[aoq,au]at aA;refine bf λI hw=>?_;unfold lf;rw[aot aA];rfl
 rw[aos,an]at aA;unfold lf;rw[aou aA];refine U ?_;refine aq (bp (λI hw=>YB t ah ad ao vs I (h.now hw)) ?_);rintro v ia ig rfl xD;refine a8 (λa6=>?_) λa6=>?_
 ·rw[aoq,au]at a6;refine bf λI hw=>?_;unfold lf;rw[aot a6];rfl
 rw[aos,an]at a6;unfold lf;rw[aou a6];refine U ?_;refine aq (bp (λI hw=>Of t.aC t.dH t.node ao I (h.now hw).node) ?_);rintro v qk qu rfl Js;refine a8 (λcE=>?_) λcE=>?_
 ·rw[aoq,au]at cE;refine bf λI hw=>?_;have:s6 t=o4 t.aC t.dH t.node:=by unfold s6;rw[aot cE]
  unfold lf;rw[this,aot cE];rfl
 rw[aos,an]at cE;have yA:s6 t=if(fS t.dH t.node).any (λx=>decide ((t.code.length:Int)<=x.aH))then 80 else 0:=by unfold s6;rw[aou cE]
 refine U ?_;refine aq (bp (λI hw=>Pa t ah ad ao vs I (h.now hw)) ?_);rintro aT n6 wY bL rD;have yz:=bL.le;refine U ?_;refine bX (λs:Nat=>s<=(fS t.dH t.node).length/\∀j,j<s->decide ((t.code.length:Int)<=((fS t.dH t.node).getD j default).aH)=false) (λs=>[(67,true,.int .i64 s),(66,true,.int .i64 (fS t.dH t.node).length),(65,true,aT),(1,true,av aQ)]) (λs=>Mem [(wY,Fr n6),(w,al)] [.box aQ (c6 t ah ad ao) 32]) (λs=>(fS t.dH t.node).length-s) 0 ⟨aoD _,λj ae=>by omega⟩ ?_ ⟨rfl,rfl,rfl,rfl,trivial⟩ (λ_ h=>h.B8 λB hB=>by simp only[aoO,aq2,or_false]at hB⊢;rcases hB with rfl | rfl<;>simp)
 rintro k ⟨hk,h0⟩;refine a8 (λdL=>?_) λdL=>?_
 ·have jw:k<(fS t.dH t.node).length:=by rw[an]at dL;omega
  refine U ?_;refine cH λeQ=>?_;refine bN 0 ?_;refine bC (λdZ=>?_) λdZ=>?_
  ·rw[an]at dZ;refine bf λI hw=>?_;have:s6 t=80:=by rw[yA,aou (apH.2 ⟨_,eN jw,aow (by omega)⟩)]
   unfold lf;rw[this];rfl
  rw[au]at dZ;refine U ?_;exact bm (k+1) ⟨by omega,λj ae=>by
   by_cases e:j<k
   ·exact h0 j e
   rw[show j=k by omega];exact aoE (by omega)⟩ (by omega) ⟨rfl,rfl,rfl,rfl,trivial⟩ (b4 [1])
 have:s6 t=0:=by rw[yA,aot];rw[apS,Ej];exact λj ae=>h0 j (by rw[au]at dL;omega)
 unfold lf;rw[aou this];refine U ?_;refine aq (bp (λI hw=>Pd t ah ad ao vs I (h.now hw) (HW aA) (Kd a6)) ?_);rintro v n7 BJ c0 CI;have yw:=c0.le;refine a8 (λhR=>?_) λhR=>?_
 ·rw[an]at hR;refine bf λI hw=>?_;rw[aou (by omega)];rfl
 rw[au]at hR;refine bf λI hw=>?_;rw[aot (by omega)];rfl
theorem YF(t:aV)(ah ad ao:Value)(vs:List Value)(w:World)(h:gW al w ah ad ao vs t)(h0:pT t=0):bl prog 20 [.agg (c6 t ah ad ao).toArray] w λm v I=>∃ak,v=.tuple #[ak,.int .i64 0]/\aZ (Fr m) I dU 1 ak (cc t):=by
 obtain⟨s1,s2,cJ⟩:=h.jY;obtain⟨wJ,xW,Gr⟩:=UM h0;refine bZ func20 ntmps20 ?_;refine b7 λaQ=>?_;refine aq (bp (λI hw=>Pb t ah ad ao vs I (h.now hw)) ?_);rintro v bx bc rfl cu;refine a8 (λh1=>?_) λh1=>?_
 ·rw[aoq,au]at h1;exact absurd h0 h1
 refine U ?_;refine aq (bp (λI hw=>Pd t ah ad ao vs I (h.now hw) wJ xW) ?_);rintro v2 ck bY hS eZ;refine U ?_;refine aq (hq (bb:=λI hw=>(ahX v2 _ I (hw.now hS) (by omega)).size (hw.sz hy)) (ab:=?_));rintro v3 hj fW ⟨pL,ej⟩ nG;refine U ?_;refine bT rfl (.tmp rfl (.t1 rfl)) λI hw=>?_;exact⟨_,rfl,hw.pass pL aP ej⟩
structure mv where
 ah:Value
 ad:Value
 ao:Value
 ak:Value
 ff:Value
 tt:Value
 bj:Value
structure iF where
 rg:Value
 aI:Value
 bv:Value
 aG:Value
 aR:Value
 ad:Value
def gA(t:aV)(g:mv)(k:Int)(z:iF)(bh:BitVec 64)(ho full:Bool):List Value:=c6 t g.ah g.ad g.ao++[.int .i64 k,z.rg,u64 bh,g.ak,g.ff,z.aI,z.bv,z.aG,z.aR,z.ad,g.tt,g.bj,.bool ho,.bool full]
structure kM(g:mv)(z:iF):Prop where
 ah:aD g.ah
 ad:aD g.ad
 ao:aD g.ao
 ak:aD g.ak
 ff:aD g.ff
 tt:aD g.tt
 bj:aD g.bj
 rg:aD z.rg
 aI:aD z.aI
 bv:aD z.bv
 aG:aD z.aG
 aR:aD z.aR
 r7:aD z.ad
theorem iP{g:mv}{z:iF}(ok:kM g z) (t:aV) (k:Int) (bh:BitVec 64) (ho:Bool) (full:Bool):qx (gA t g k z bh ho full):=.cons rfl (.cons rfl (.cons rfl (.cons ok.ah.one (.cons ok.ad.one (.cons rfl (.cons rfl (.cons rfl (.cons rfl (.cons rfl (.cons rfl (.cons ok.ao.one (.cons rfl (.cons ok.rg.one (.cons rfl (.cons ok.ak.one (.cons ok.ff.one (.cons ok.aI.one (.cons ok.bv.one (.cons ok.aG.one (.cons ok.aR.one (.cons ok.r7.one (.cons ok.tt.one (.cons ok.bj.one (.cons rfl (.cons rfl .nil)))))))))))))))))))))))))
structure j1 where
 J:List eV
 bars:List nx
 addr:List ca
 data:List ca
 bh:List ca
def np(z:iF)(l:j1):List aB:=[.own z.aI 138 6 ef l.J,.own z.aG 178 2 bB l.addr,.own z.aR 178 2 bB l.data,.own z.ad 178 2 bB l.bh]
def uy(l:j1)(k:Int)(x:eV)(addr data bh:BitVec 64):j1:=⟨l.J++[{x with aH:=k}],l.bars,l.addr++n9 addr 64 l.J.length,l.data++n9 data 64 l.J.length,l.bh++n9 bh 64 l.J.length⟩
theorem TF(t:aV)(g:mv)(k:Int)(z:iF)(l:j1)(bh addr data:BitVec 64)(ho full:Bool)(x:eV)(w:World)(ok:kM g z)(ay:l.addr.length<=500000)(hd:l.data.length<=500000)(ai:l.bh.length<=500000)(hw:Mem [] (np z l) w): eY prog 289 [.agg (gA t g k z bh ho full).toArray,.agg (ef x).toArray,u64 addr,u64 data] (np z l) w λ_ v es _=>
  (64<=l.J.length/\v=.agg (gA t g k z bh ho true).toArray/\es=np z l)\/
  (l.J.length<64/\∃eu,eu.rg=z.rg/\eu.bv=z.bv/\kM g eu/\v=.agg (gA t g k eu bh ho full).toArray/\es=np eu (uy l k x addr data bh)):=by
 have mO:=ok;obtain⟨g1,g2,g3,g4,g5,g6,g7,mP,z2,z3,z4,z5,ov⟩:=ok;refine j3 func289 ntmps289 hw ?_;refine e4 λcO=>?_;refine e4 λec=>?_;refine ei λdx=>?_;refine bC (λh1=>?_) λh1=>?_
 ·have bU:64<=l.J.length:=by rw[an]at h1;omega
  refine af ?_;refine c7 2 ?_;refine aq (bK 0 (h1:=iP mO t k bh ho true) (ab:=af ?_));exact eL rfl (.c1 rfl aP rfl) (np z l) [3,4,5,6] λI hw=>.inl ⟨bU,rfl,rfl⟩
 have bU:l.J.length<64:=by rw[au]at h1;omega
 refine af ?_;refine c7 1 ?_;refine aq (eI (enc:=ef) (dec:=H5) (e:=138) (sz:=6) (len:=1) (dM:=[(0,ef {x with aH:=k})]) (ab:=λv25 JT=>af ?_));refine aq (e6 4 (hm:=aP) (hk:=rfl) (bH:=by simp only[aoJ,aoN,ao1];omega) (ab:=λv26 JU=>af ?_));refine c7 3 ?_;refine cA (Mem [(w,bJ (np z l))] ([.own z.aG 178 2 bB l.addr]++([.own z.aR 178 2 bB l.data,.own z.ad 178 2 bB l.bh,.own v26 138 6 ef (l.J++[{x with aH:=k}]),.box dx (gA ⟨0,ByteArray.empty,ByteArray.empty,[],[],0,default⟩ ⟨aa,aa,aa,aa,aa,aa,aa⟩ 0 ⟨aa,aa,aa,aa,aa,aa⟩ 0#64 false false) 129,.box cO (gA t g k (⟨z.rg,v26,z.bv,z.aG,z.aR,z.ad⟩:iF) bh ho full) 129]:List aB))) (b4 [5,6,7,4,1,3]) ?_;refine aq (eB (es:=[.own z.aG 178 2 bB l.addr]) (bb:=λI hw=>LL z.aG l.addr addr l.J.length I z4 (by omega) hw.dt.ew) (ab:=?_));rintro sT n34 es ajJ ⟨AK,rfl⟩;refine af ?_;refine c7 5 ?_;refine cA (Mem [(w,bJ (np z l))] ([.own z.aR 178 2 bB l.data]++([.own z.ad 178 2 bB l.bh,.own v26 138 6 ef (l.J++[{x with aH:=k}]),.own sT 178 2 bB (l.addr++n9 addr 64 l.J.length),.box dx (gA ⟨0,ByteArray.empty,ByteArray.empty,[],[],0,default⟩ ⟨aa,aa,aa,aa,aa,aa,aa⟩ 0 ⟨aa,aa,aa,aa,aa,aa⟩ 0#64 false false) 129,.box cO (gA t g k (⟨z.rg,v26,z.bv,sT,z.aR,z.ad⟩:iF) bh ho full) 129]:List aB))) (b4 [1,2,3,0,4,5]) ?_;refine aq (eB (es:=[.own z.aR 178 2 bB l.data]) (bb:=λI hw=>LL z.aR l.data data l.J.length I z5 (by omega) hw.dt.ew) (ab:=?_));rintro zC n42 es an7 ⟨JW,rfl⟩;refine af ?_;refine c7 5 ?_;refine cA (Mem [(w,bJ (np z l))] ([.own z.ad 178 2 bB l.bh]++([.own v26 138 6 ef (l.J++[{x with aH:=k}]),.own sT 178 2 bB (l.addr++n9 addr 64 l.J.length),.own zC 178 2 bB (l.data++n9 data 64 l.J.length),.box dx (gA ⟨0,ByteArray.empty,ByteArray.empty,[],[],0,default⟩ ⟨aa,aa,aa,aa,aa,aa,aa⟩ 0 ⟨aa,aa,aa,aa,aa,aa⟩ 0#64 false false) 129,.box cO (gA t g k (⟨z.rg,v26,z.bv,sT,zC,z.ad⟩:iF) bh ho full) 129]:List aB))) (b4 [1,2,3,0,4,5]) ?_;refine aq (eB (es:=[.own z.ad 178 2 bB l.bh]) (bb:=λI hw=>LL z.ad l.bh bh l.J.length I ov (by omega) hw.dt.ew) (ab:=?_));rintro v51 n51 es aoa ⟨FD,rfl⟩;refine af ?_;refine c7 5 ?_;have qm:kM g (⟨z.rg,v26,z.bv,sT,zC,v51⟩:iF):=⟨g1,g2,g3,g4,g5,g6,g7,mP,JU,z3,AK,JW,FD⟩;refine aq (bK 4 (h1:=iP qm t k bh ho full) (ab:=af ?_));exact eL rfl (.c1 rfl qU rfl) (np (⟨z.rg,v26,z.bv,sT,zC,v51⟩:iF) (uy l k x addr data bh)) [1,2,3,0] λI hw=>.inr ⟨bU,(⟨z.rg,v26,z.bv,sT,zC,v51⟩:iF),rfl,rfl,qm,rfl,rfl⟩
end Go.Proofs.bA
namespace Go.b9
open Go Go.bM
def OE:List Value->fX | [a,b,c,.int .u64 n]=>⟨ja a,ja b,BD c,BitVec.ofInt 64 n⟩ | _=>default
end Go.b9
attribute [local irreducible] Go.wpList Go.Code.wp Go.bodyPost Go.Exit.then Go.Exit.inBlock Go.Calls
namespace Go.Proofs.bA
instance:jo prog 133 gu OE:=⟨trivial⟩
def zn(aC:Int)(aj:List fX)(d:Int)(h:fX):List fX:=if aC=2/\d=0 then aj else aj.set d.toNat h
theorem arp(t:aV)(g:mv)(k:Int)(z:iF)(aj:List fX)(aO:List ByteArray)(bh:BitVec 64)(ho full:Bool)(r:Int)(w:World)(ok:kM g z)(aM:0<=r/\r<aj.length)(cj:aZ al w gu 4 z.rg aj)(c0:aZ al w dU 1 g.ak aO): bl prog 208 [.agg (gA t g k z bh ho full).toArray,.int .i64 r] w λ_ v _=>v=.int .i64 (if(aj.getD r.toNat default).k=2 then xX aO (aj.getD r.toNat default).loc else -1):=by
 obtain⟨g1,g2,g3,g4,g5,g6,g7,mP,z2,z3,z4,z5,ov⟩:=ok;refine ha func208 ntmps208 ?_;refine e4 λdC=>?_;refine bC (λh1=>?_) λh1=>?_
 ·rw[aoq,au]at h1;refine pG λI hw=>?_;rw[aot h1];rfl
 rw[aos,an]at h1;refine af ?_;refine cz [0,1,2,3,4,5,6,7,8,9] mixed ?_;refine bQ ?_;refine bO _ (h:=bp (λI hw=>Bo g.ak g.ff z.aI z.bv z.aG z.aR z.ad g.tt g.bj aO (aj.getD r.toNat default).loc I (hw.now c0) ⟨g5,z2,z3,z4,z5,ov,g6,g7⟩) ?_);rintro v20 bx bc rfl cu;refine aF (aN ?_) ek;refine pG λI hw=>?_;rw[aou h1];rfl
theorem Bp(t:aV)(g:mv)(k:Int)(z:iF)(aj:List fX)(bh:BitVec 64)(ho full:Bool)(d:Int)(h:fX)(w:World)(ok:kM g z)(hd:0<=d/\d<aj.length)(eC:aj.length<=1000)(hw:Mem [] [.own z.rg 133 4 gu aj] w): eY prog 207 [.agg (gA t g k z bh ho full).toArray,.int .i64 d,.agg (gu h).toArray] [.own z.rg 133 4 gu aj] w λ_ v es _=>∃k1,aD k1/\v=.agg (gA t g k {z with rg:=k1} bh ho full).toArray/\es=[.own k1 133 4 gu (zn t.aC aj d h)]:=by
 have mO:=ok;obtain⟨g1,g2,g3,g4,g5,g6,g7,mP,z2,z3,z4,z5,ov⟩:=ok;refine j3 func207 ntmps207 hw ?_;refine e4 λdK=>?_;refine e4 λec=>?_;refine ei λcY=>?_;refine bC (λh1=>?_) λh1=>?_
 ·rw[aoo,an,an]at h1;refine af ?_;refine aq (bK 0 (h1:=iP mO t k bh ho full) (ab:=af ?_));exact eL rfl (.c1 rfl aP rfl) [.own z.rg 133 4 gu aj] [3] λI hw=>⟨z.rg,mP,rfl,by unfold zn;rw[aou h1]⟩
 rw[aoC,au,au]at h1;refine af ?_;refine ea 133 4 gu ?_;refine aq (e6 0 (xs:=([]:List fX)) (hm:=qU) (hk:=rfl) (bH:=by simp only[ao1];omega) (ab:=?_));intro v20 AJ;rw[apb];refine af ?_;refine aq (fq 0 rfl h (ab:=af ?_));refine c7 3 ?_;have qm:kM g {z with rg:=v20}:=⟨g1,g2,g3,g4,g5,g6,g7,AJ,z2,z3,z4,z5,ov⟩;refine aq (bK 1 (h1:=iP qm t k bh ho full) (ab:=af ?_));exact eL rfl (.c1 rfl dg rfl) [.own v20 133 4 gu (aj.set d.toNat h)] [0] λI hw=>⟨v20,AJ,rfl,by unfold zn;rw[aot λq=>h1.elim (λg=>g q.1) λg=>g q.2]⟩
end Go.Proofs.bA
