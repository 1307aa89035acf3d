/- Lemmas for the law WholeSound. -/
import Derived.Test.YtiknadellddjhaaGreatDoorS49
set_option linter.all false
open Go.Proofs.Tryz
set_option maxHeartbeats 12800000
open Go Go.cc Go.bU Go.gH Go.eV
namespace Go.cc
open Go Go.RowKit
theorem aeo{P:Program}{N:Nat}{tm:dU}{c:Bool}{bs:List dr}{H:List aA}{aQ:Type}[Inhabited aQ]{S:Nat->Prop}{B:World}{enc:aQ->List Value}{sz i o t n:Nat}{v:Value}{xs:List aQ}{x:Operand}(gD:List Value)[aE:hI P t n] (hx:bo tm c x (.pointer (some (gI v sz i o)))) (h:aV S B enc sz v xs) (hB:(B,S)∈bs) (hi:i<xs.length) (bh:gD.length=n) (hp:∀j u,gD[j]?=some u->(enc (xs.getD i default))[o+j]?=some u):bR P N (.load t x) tm (Mem bs H) c (.agg gD.toArray):=
 by
 unfold bR;intro ai a w _ _ _ _ _ cn hw;simp only[execOp,hx.get cn ai];refine hG (Gm _ bh λj u ad=>?_);rw[DZ];exact Hd h (hw.base _ hB) (getD_some hi) (hp j u ad)
end Go.cc
attribute [local irreducible] Go.wpList Go.Code.wp Go.bodyPost Go.Exit.then Go.Exit.inBlock Go.Calls
namespace Go.Proofs.bK
def GU:aM:=⟨0,ByteArray.empty,ByteArray.empty,[],[],0,default⟩
def xf(t:aM)(aj ae ak lv bu mv aU:Value):List Value:=cQ t aj ae ak++[lv,bu,mv,aU]
theorem J8{t:aM}{aj ae ak lv bu mv aU:Value}(h:aD aj/\aD ae/\aD ak)(g:aD lv/\aD bu/\aD mv/\aD aU):pS (xf t aj ae ak lv bu mv aU):=.cons rfl (.cons rfl (.cons rfl (.cons h.1.one (.cons h.2.1.one (.cons rfl (.cons rfl (.cons rfl (.cons rfl (.cons rfl (.cons rfl (.cons h.2.2.one (.cons g.1.one (.cons g.2.1.one (.cons g.2.2.1.one (.cons g.2.2.2.one .nil)))))))))))))))
def U6(t:aM):Nat->Value->World->Prop:=λ_ v _=>∃dt aj ae ak lv bu mv aU,(aD aj/\aD ae/\aD ak)/\(aD lv/\aD bu/\aD mv/\aD aU)/\v=.tuple #[.agg (xf dt aj ae ak lv bu mv aU).toArray,.int .i64 (du t)]
theorem XN{t:aM}(h:du t=0):ir t:=by
 unfold du at h;split at h
 ·rename_i q;exact BJ q
 contradiction
theorem aeP(t:aM)(aj ae ak:Value)(vs:List Value)(w:World)(bp:gz an w aj ae ak vs t):bj prog 27 [.agg (cQ t aj ae ak).toArray] w (U6 t):=by
 have zU:=bp.iF;obtain⟨s1,s2,cy⟩:=bp.iF;have nM:=bp.mZ;have hM:=bp.mx;have hle:=hM.le;have fi:=bp.init;refine gP func27 ntmps27 ?_;refine eQ λaT=>?_;refine dH λdy=>?_;refine ao (bw (λI hw=>afb t aj ae ak vs I (bp.now hw)) ?_);rintro v bx a6 ⟨lv,pM,aN,bv,aK,aX,pr,aU,bE,Cy,rfl,⟨lB,qh,pc,fl,fI,oC,jV,st,pd⟩,fu⟩ cA;refine af ?_;refine dH λcO=>?_;refine ao (bD 0 (h1:=.cons lB.one (.cons qh.one (.cons pc.one (.cons fl.one (.cons fI.one (.cons oC.one (.cons jV.one (.cons st.one (.cons pd.one .nil))))))))) (ab:=af ?_));refine bA (λh1=>?_) λh1=>?_
 ·refine af ?_;refine c0 1 ?_;exact bP rfl (.dz rfl ds rfl (.t1 rfl)) λI hw=>⟨GU,U,U,U,U,U,U,U,⟨cZ,cZ,cZ⟩,⟨cZ,cZ,cZ,cZ⟩,rfl⟩
 rw[amm,aq]at h1;have G:=XN h1;have fu:=fu h1;have gB:=(fu.init).le;have hy:=G.yr;have ajA:(al t).init.length<=64:=by have h:=jv h1;simp only[gL,ami,o4,amj]at h;have cq:=h.1.1.1.1.1.1.1.1;have bn:=h.1.1.1.1.1.1.1.2;omega
 have EX:b3 t.az<=32:=by unfold b3;split<;>omega
 refine af ?_;refine dH λeb=>?_;refine ao (bD 0 (h1:=J8 (t:=t) (lv:=lv) (bu:=U) (mv:=U) (aU:=aU) zU ⟨lB,cZ,cZ,st⟩) (ab:=af ?_));refine dZ 3 1 bd ?_;refine ao (tX 0 (al t).init rfl (h:=fu.init) (hB:=aL) (bG:=by simp only[amW];omega) (ab:=λv32 PX=>af ?_));refine c0 1 ?_;refine h7 (λ_:Unit=>True) (λ_=>[(8,true,.int .i64 (b3 t.az:Nat)),(7,true,ax eb),(2,true,ax dy),(1,true,ax aT)]) (λ_=>Mem [(w,an)] [.box eb (xf t aj ae ak lv U v32 aU) 93,.own U 183 2 fQ [],.box dy (xf GU U U U U U U U) 93,.box aT (cQ t aj ae ak) 32]) ?_ ?_
 ·refine dZ 183 2 fQ ?_;refine bA (λh2=>?_) λh2=>?_
  ·rw[aq]at h2;refine af ?_;exact bZ () trivial ⟨by unfold b3;rw[amo h2];rfl,rfl,rfl,rfl,trivial⟩ λ_ h=>h.cI.cm [2,0,4,5]
  rw[ar]at h2;refine af ?_;exact bZ () trivial ⟨by unfold b3;rw[amn h2];rfl,rfl,rfl,rfl,trivial⟩ λ_ h=>h.cI.cm [2,0,4,5]
 rintro⟨⟩ _;refine af ?_;refine b9 (λy:Nat×Value×List (Value×Nat)=>y.1<=t.code.length/\aD y.2.1/\y.2.2.length=y.1) (λy=>[(9,true,.int .i64 y.1),(8,true,.int .i64 (b3 t.az:Nat)),(7,true,ax eb),(2,true,ax dy),(1,true,ax aT)]) (λy=>Mem [(w,an)] [.box eb (xf t aj ae ak lv y.2.1 v32 aU) 93,.own y.2.1 183 2 fQ y.2.2,.box dy (xf GU U U U U U U U) 93,.box aT (cQ t aj ae ak) 32]) (λy=>t.code.length-y.1) (0,U,[]) ⟨amz _,cZ,rfl⟩ ?_
 rintro⟨k,GA,ls⟩ ⟨hk,dj,EN⟩;dsimp only at hk dj EN⊢;have ll:=G.n16;refine di (λh3=>?_) λh3=>?_
 ·have dw:k<t.code.length:=by rw[aq]at h3;omega
  refine af ?_;refine ao (ix dm BC 70 2 _ _ (n:=(b3 t.az:Int)) (m:=(b3 t.az:Int)) (ab:=?_));intro v45 Ji;rw[amw];refine af ?_;refine dH λmr=>?_;refine c0 0 ?_;refine b9 (λy:Nat×List dY=>y.1<=t.init.length/\y.2.length=b3 t.az) (λy=>[(11,true,.int .i64 y.1),(10,true,ax mr),(9,true,.int .i64 k),(8,true,.int .i64 (b3 t.az:Nat)),(7,true,ax eb),(2,true,ax dy),(1,true,ax aT)]) (λy=>Mem [(w,an)] [.box mr [v45,.int .i64 0] 183,.own v45 70 2 dm y.2,.box eb (xf t aj ae ak lv GA v32 aU) 93,.own GA 183 2 fQ ls,.box dy (xf GU U U U U U U U) 93,.box aT (cQ t aj ae ak) 32]) (λy=>t.init.length-y.1) (0,_) ⟨amz _,amS⟩ ?_
  rintro⟨i,rs⟩ ⟨hi,ig⟩;dsimp only at hi ig⊢;refine di (λaC=>?_) λaC=>?_
  ·have c5:i<t.init.length:=by rw[aq]at aC;omega
   refine di (λaW=>?_) λaW=>?_
   ·rw[aq]at aW;have aW:(t.init.getD i default).aI=(k:Int):=aW;obtain⟨_,_,_,⟨Sq,AD⟩,_⟩:=G.vI (er c5) (by omega);refine af ?_;refine cV [0,1,2,3,4,5,6,7,8,9,10,11,12,13,14,15] mixed ?_;refine bI ?_;refine jb (h:=aeo (dm (t.init.getD i default).value) (bY rfl) fi aL c5 rfl λj u ad=>?_) (ab:=?_)
    ·rw[aoO];rcases j with _ | _ | j
     ·exact ad
     ·exact ad
     simp[dm]at ad
    refine bI ?_;refine hz (h:=fB 1 rfl (t.init.getD i default).value (ab:=af ?_));exact bt (i+1,rs.set (t.init.getD i default).bq.toNat (t.init.getD i default).value) ⟨c5,(amQ ..).trans ig⟩ (by dsimp only;omega)
   refine af ?_;exact bt (i+1,rs) ⟨c5,ig⟩ (by dsimp only;omega)
  refine af ?_;refine ao (eA fQ DW (e:=183) (sz:=2) (len:=1) (dF:=[(0,fQ (v45,0))]) (ab:=λv80 Cl=>af ?_));refine ao (e6 4 (hm:=aL) (hok:=λy aR=>by rw[amv.1 aR];exact Ji.one) (hk:=rfl) (bG:=by simp only[amD,amI,amW];omega) (ab:=λahK aac=>af ?_));refine c0 3 ?_;exact bt (k+1,ahK,ls++[(v45,0)]) ⟨dw,aac,by dsimp only;rw[ams,EN];rfl⟩ (show t.code.length-(k+1)<t.code.length-k by omega) (hA:=bV [3,4,5,6])
 refine af ?_;refine ao (bD 2 (h1:=J8 (t:=t) (lv:=lv) (bu:=GA) (mv:=v32) (aU:=aU) zU ⟨lB,dj,PX,st⟩) (ab:=af ?_));exact bP rfl (.dz rfl gC rfl (.t1 rfl)) λI hw=>⟨t,aj,ae,ak,lv,GA,v32,aU,zU,⟨lB,dj,PX,st⟩,by rw[h1];rfl⟩
theorem aeQ(t:aM)(aj ae ak aG:Value)(vs:List Value)(script:List Int)(w:World)(bp:gz an w aj ae ak vs t)(ct:aV an w bd 1 aG script)(hx:du t≠0\/65536<script.length): bj prog 6 [.agg (cQ t aj ae ak).toArray,aG] w λ_ v _=>v=.tuple #[.agg #[U,U],.int .i64 (if du t=0 then 2 else du t)]:=by
 obtain⟨s1,s2,cy⟩:=bp.iF;have gZ:=ct.aG;have hle:=ct.le;refine gP func6 ntmps6 ?_;refine eQ λdy=>?_;refine dH λcO=>?_;refine ao (bw (λI hw=>aeP t aj ae ak vs I (bp.now hw)) ?_);rintro v bx a6 ⟨dt,aks,BA,aku,lv,bu,mv,aU,g1,g2,rfl⟩ cA;refine af ?_;refine dH λcS=>?_;refine ao (bD 0 (h1:=J8 g1 g2) (ab:=af ?_));refine bA (λh1=>?_) λh1=>?_
 ·rw[amk,ar]at h1;refine af ?_;refine c0 1 ?_;exact bP rfl (.dz rfl ds rfl (.t1 rfl)) λI hw=>by rw[amn h1];rfl
 rw[amm,aq]at h1;have aB:=hx.resolve_left λq=>q h1;refine af ?_;refine cK rfl (λ_=>?_) (λh=>by rw[ar]at h;omega);refine af ?_;refine c0 1 ?_;exact bP rfl (.dz rfl ds rfl (.t1 rfl)) λI hw=>by rw[amo h1];rfl
def Vf(t:aM)(buf:Bool)(o:List Nat):Nat->Value->World->Prop:=λn v I=>∃out m,aV (Fr n) I bd 1 v out/\uZ t (al t) buf out m/\(∃dc,jY t buf m o dc)/\cf t m=[]
theorem Tm(t:aM)(buf:Bool)(aj ae ak hr e9 hq gx hT hV hU tt hW ol:Value)(vs:List Value)(o:List Nat)(w:World)(aE:du t=0)(jZ:xx t buf o)(bp:gz an w aj ae ak vs t)(b8:ha an w hr e9 hq gx hT hV hU tt hW (al t))(hO:aV an w bd 1 ol (ints o)): bj prog 41 [.agg (cQ t aj ae ak).toArray,.agg #[hr,e9,hq,gx,hT,hV,hU,tt,hW],.bool buf,ol] w (Vf t buf o):=by
 have G:=kf aE;have ll:=G.n16;have cP:=b8.J;have XZ:=cP.aG;have aje:=hO.aG;have hole:=hO.le;have gB:(ints o).length=o.length:=by unfold ints;rw[amD]
 refine gP func41 ntmps41 ?_;refine eQ λcO=>?_;refine eQ λea=>?_;refine ao (gr (λI hw=>Th t buf aj ae ak hr e9 hq gx hT hV hU tt hW vs I aE (bp.now hw) (b8.now hw)) ?_);rintro alE bx es a6 ⟨b,q,rfl,rfl,ok⟩;generalize iL:(⟨aj,ae,ak,vs,hr,e9,hq,gx,hT,hV,hU,tt,hW⟩:kY)=c at *;obtain⟨rfl,rfl,rfl,rfl,rfl,rfl,rfl,rfl,rfl,rfl,rfl,rfl,rfl⟩:c.aj=aj/\c.ae=ae/\c.ak=ak/\c.vs=vs/\c.hr=hr/\c.e9=e9/\c.hq=hq/\c.gx=gx/\c.hT=hT/\c.hV=hV/\c.hU=hU/\c.tt=tt/\c.hW=hW:=by subst iL;exact⟨rfl,rfl,rfl,rfl,rfl,rfl,rfl,rfl,rfl,rfl,rfl,rfl,rfl⟩
 clear iL;have lK:pj an w t c:=⟨bp,b8⟩;refine af ?_;refine dH λaO=>?_;refine c0 0 ?_;refine dH λeu=>?_;refine dH λde=>?_;refine c0 0 ?_;refine dZ 3 1 bd ?_;refine b9 (λz:Nat×List Int×cu×e4×Value=>z.1<=o.length/\oI t z.2.2.2.1 z.2.2.1/\aD z.2.2.2.2/\y8 t buf z.2.1 z.2.2.1 (o.take z.1)) (λz=>[(24,true,.int .i64 z.1),(23,true,.int .i64 (ints o).length),(22,true,ol),(12,true,.func (.func 104) #[] #[ax aO,ax de,ax ea]),(11,true,ax de),(10,true,ax eu),(9,true,ax aO),(5,true,ax ea),(2,true,.bool buf)]) (λz=>Mem [(w,an)] (nY b eu aO t c buf z.2.2.2.1 z.2.2.1 z.2.2.2.2 z.2.1++([.box de [.func (.func 102) #[] #[ax eu,ax aO]] 104,.box ea [c.hr,c.e9,c.hq,c.gx,c.hT,c.hV,c.hU,c.tt,c.hW] 41]:List aA))) (λz=>o.length-z.1) (0,[],iO t (al t),q,U) ⟨amz _,ok,cZ,⟨.nil,⟨_,SO aE buf⟩,by simp⟩⟩ ?_ ⟨rfl,rfl,rfl,rfl,rfl,rfl,rfl,rfl,rfl,trivial⟩ λ_ h=>h.cI.cm [2,0,3,4,5,6,7,8,9,10,11,12,13,1,14]
 rintro⟨j,out,m,q,b1⟩ ⟨ad,ok,kB,bN⟩;dsimp only at ad ok kB bN⊢;refine di (λh1=>?_) λh1=>?_
 ·have cb:j<o.length:=by rw[aq]at h1;omega
  have ai4:j<(ints o).length:=by omega
  obtain⟨e,he⟩:∃e,o[j]?=some e:=⟨_,amp cb⟩;have YC:(ints o).getD j default=((e:Nat):Int):=by unfold ints;rw[aml,amZ,he];rfl
  obtain⟨eI,_⟩:=jZ.at aE he;obtain⟨k,hk,dj⟩:∃k,k<t.code.length/\(bf (al t) e).aI=(k:Int):=by obtain⟨k,i,h1,h2,rfl⟩:=A4 aE eI;exact⟨k,h1,wh aE h1 h2⟩
  have Jc:((al t).J.getD e default).aI=(k:Int):=dj;have U1:y8 t buf out m (if m.done.getD e default=true then logAt t buf o j e else o.take j):=by
   obtain⟨dc,R⟩:=bN.R;by_cases hd:m.done.getD e default=true
   ·rw[amo hd,ahE aE jZ he R hd];exact bN
   rw[amn hd];exact bN
  refine af ?_;rw[YC];refine ao (en (es:=nY b eu aO t c buf q m b1 out) (a7:=λI hw=>af2 I aE jZ he b1 out U1 ok kB (hw.sS aL) (hw.sS ds) (lK.off hw aL λ_ h=>amE _ h) hw.dk.ei) (ab:=?_));rintro ak3 n30 es alW ⟨Kj,cq,m1,FV,Pp,rfl,Rp,y2,hd⟩;refine di (λh2=>?_) λh2=>?_
  ·rw[ami,aq]at h2;obtain⟨Yn,pz⟩:=h2;obtain⟨VF,xy⟩:=y2.R;subst Yn;have IJ:logAt t true o j e=o.take j:=by unfold logAt;rw[amn];intro g;rcases g with g | g;(have aju:(bf (al t) e).dir=2:=pz;omega);cases g
   rw[IJ]at xy y2;obtain⟨uc,ky,rK⟩:=Xz aE jZ he hk dj xy hd pz;have hx:(⟨2,(k:Int)⟩:lf)∈cf t m1:=vP.2 ⟨k,hk,.inr ⟨rfl,uc⟩⟩;have th:=Fq aE y2.L (λg=>by rw[g]at hx;cases hx);have l9:gW t (al t) true m1 ⟨2,(k:Int)⟩=j0 m1 k:=by unfold gW;rw[amn (by show ¬(2:Int)=1;decide),amw]
   have xW:=y2.L.snoc hx;rw[l9]at xW;refine af ?_;refine fs (Mem [(w,an)] [.box de [.func (.func 102) #[] #[ax eu,ax aO]] 104,.box ea [c.hr,c.e9,c.hq,c.gx,c.hT,c.hV,c.hU,c.tt,c.hW] 41]) [0,1,2,3,4,5,6,7,8] mixed (bV [13,14]) ?_;refine bI ?_;rw[Jc];refine eG (λ_=>True) (h:=en (es:=nY b eu aO t c true cq m1 Kj FV) (a7:=λI hw=>Ln Kj FV I aE xy.M Rp ⟨2,(k:Int)⟩ hx Pp (by omega) (lK.off hw aL λ_ h=>amE _ h) hw.dk.ei) (ab:=?_));rintro ak6 n49 es al1 ⟨Kk,bn,IT,rfl,B7⟩;rw[l9]at B7⊢;refine aF (aP ?_) dx;refine af ?_;refine bt (j+1,FV++[((cf t m1).idxOf ⟨2,(k:Int)⟩:Int)],j0 m1 k,bn,Kk) ⟨cb,B7,IT,⟨xW,⟨_,rK⟩,?_⟩⟩ (show o.length-(j+1)<o.length-j by omega);rw[ams,anr];omega
  have IJ:logAt t buf o j e=o.take (j+1):=by
   unfold logAt;rw[amo];rcases mU (jv aE) eI with g | g
   ·exact .inl g
   right;have nd:((al t).J.getD e default).dir=2:=g;rw[amx,ar]at h2;exact h2.resolve_right λq=>q nd
  rw[IJ]at y2;refine af ?_;exact bt (j+1,FV,m1,cq,Kj) ⟨cb,Rp,Pp,y2⟩ (show o.length-(j+1)<o.length-j by omega)
 have cb:j=o.length:=by rw[ar]at h1;omega
 subst cb;rw[amU]at bN;refine af ?_;refine ao (bw (λI hw=>C5 I (oH.of ok hw.tail.tail.tail (lK.now hw)) ll) ?_);rintro LV cp bX E4 fq;have alq:=E4.aG;refine af ?_;refine b9 (λz:(Value×Nat×World)×List Int×cu×e4×Value=>oI t z.2.2.2.1 z.2.2.1/\aD z.2.2.2.2/\y8 t buf z.2.1 z.2.2.1 o/\aV (Fr z.1.2.1) z.1.2.2 eW 2 z.1.1 (cf t z.2.2.1)) (λz=>[(15,true,z.1.1),(11,true,ax de),(10,true,ax eu),(9,true,ax aO)]) (λz=>Mem [(z.1.2.2,Fr z.1.2.1),(w,an)] (nY b eu aO t c buf z.2.2.2.1 z.2.2.1 z.2.2.2.2 z.2.1++([.box de [.func (.func 102) #[] #[ax eu,ax aO]] 104,.box ea [c.hr,c.e9,c.hq,c.gx,c.hT,c.hV,c.hU,c.tt,c.hW] 41]:List aA))) (λz=>4161-z.2.1.length) ((LV,cp,bX),out,m,q,b1) ⟨ok,kB,bN,E4⟩ ?_
 rintro⟨⟨v,n,gb⟩,out,m,q,b1⟩ ⟨ok,kB,bN,aw⟩;dsimp only at ok kB bN aw⊢;have agR:=aw.aG;obtain⟨VF,xy⟩:=bN.R;refine di (λh1=>?_) λh1=>?_
 ·have hZ:0<(cf t m).length:=by rw[aq]at h1;omega
  have hx:(cf t m).getD 0 default∈cf t m:=er hZ;generalize aal:(cf t m).getD 0 default=x at *;have th:=Fq aE bN.L (λg=>by rw[g]at hZ;simp at hZ);obtain⟨U9,_⟩:=ae7 aE jZ xy hx;have xW:=bN.L.snoc hx;refine af ?_;refine fs (Mem [(gb,Fr n),(w,an)] [.box de [.func (.func 102) #[] #[ax eu,ax aO]] 104,.box ea [c.hr,c.e9,c.hq,c.gx,c.hT,c.hV,c.hU,c.tt,c.hW] 41]) [0,1,2,3,4] mixed (bV [13,14]) ?_;refine bI ?_;rw[aal];refine eG (λ_=>True) (h:=en (es:=nY b eu aO t c buf q m b1 out) (a7:=λI hw=>Ln b1 out I aE xy.M ok x hx kB (by omega) (lK.off hw ds λ_ h=>amE _ h) hw.dk.ei) (ab:=?_));rintro Sr n62 es Ut ⟨Kk,bn,IT,rfl,B7⟩;refine aF (aP ?_) dx;refine af ?_;refine ao (bw (λI hw=>C5 I (oH.of B7 hw.tail.tail.tail (lK.now hw)) ll) ?_);rintro yY n57 ah4 E5 ajJ;have alr:=E5.aG;refine af ?_;refine bt ((yY,n57,ah4),out++[((cf t m).idxOf x:Int)],gW t (al t) buf m x,bn,Kk) ⟨B7,IT,⟨xW,⟨_,U9⟩,?_⟩,E5⟩ ?_ (hA:=λ_ h=>h.qt)
  ·rw[ams,anr];omega
  show 4161-(out++[_]).length<4161-out.length;rw[ams,anr];omega
 have tg:cf t m=[]:=amO (by rw[ar]at h1;omega);refine af ?_;exact bP rfl (.t1 rfl) λI hw=>⟨out,m,hw.hK ds ds,bN.L,⟨_,xy⟩,tg⟩
def AR(t:a1)(c:cv):Int:=if fc t c=0 then if oB t c=true then 0 else 181 else fc t c
def AS(t:a1)(c:cv):List Int:=if oB t c=true then vL t.J.length (bT t.J.length (pJ t c))else []
theorem Gn{t:a1}{c:cv}(h:fc t c=0):oB t c=mq t (pJ t c):=by unfold oB;rw[amo h]
theorem Te{t:a1}{c:cv}(h:¬fc t c=0):oB t c=false:=by unfold oB;rw[amn h]
theorem Tp{lv aj aN bv aK aX ae aU bE:Value}{t:a1}(cz b1:Value)(c:cv)(w:World)(h:ha an w lv aj aN bv aK aX ae aU bE t)(ai:jW an w cz b1 c)(bp:lg w)(aY:¬fc t c=0): bj prog 37 [.agg #[lv,aj,aN,bv,aK,aX,ae,aU,bE],.agg #[cz,b1]] w λ_ v _=>v=.tuple #[.agg #[.int .i64 0,U,.int .i64 0,U,.int .i64 0,U,.int .i64 0,U,.int .i64 0,U,.int .i64 0,U,.int .i64 0,U,.int .i64 0,U,.int .i64 0,U],.agg #[.int .i64 0,U],.int .i64 (fc t c)]:=by
 have k2:=ai.br.aG;have mE:=ai.oM;have g1:=h.bb.aG;have g2:=h.init.aG;have g3:=h.J.aG;have g4:=h.bars.aG;have g5:=h.addr.aG;have g6:=h.data.aG;have g7:=h.ba.aG;have g8:=h.cw.aG;have g9:=h.ends.aG;refine ca func37 ntmps37 ?_;refine ck λjA=>?_;refine ck λkZ=>?_;refine cU λcO=>?_;refine cU λea=>?_;refine ao (bw (λI hw=>xG cz b1 c I (h.now hw) (ai.now hw)) ?_);rintro v bx a6 rfl cA;refine bg (λh1=>?_) λh1=>?_
 ·refine aa ?_;refine bQ 1 ?_;refine bQ 0 ?_;refine bP rfl (.dz rfl ds rfl (.dz rfl aL rfl (.t1 rfl))) λI hw=>?_;rfl
 rw[amm,aq]at h1;exact absurd h1 aY
theorem Tq{lv aj aN bv aK aX ae aU bE:Value}{t:a1}(cz b1:Value)(c:cv)(w:World)(h:ha an w lv aj aN bv aK aX ae aU bE t)(ai:jW an w cz b1 c)(bp:lg w)(aY:fc t c=0): eH prog 37 [.agg #[lv,aj,aN,bv,aK,aX,ae,aU,bE],.agg #[cz,b1]] w λ_ v es _=>∃s1 s2 cy dq dd ep dP ff fy rv,(aD s1/\aD s2/\aD cy/\aD dq/\aD dd/\aD ep/\aD dP/\aD ff/\aD fy)/\aD rv/\v=.tuple #[.agg #[.int .i64 t.J.length,s1,.int .i64 t.J.length,s2,.int .i64 t.J.length,cy,.int .i64 t.J.length,dq,.int .i64 t.J.length,dd,.int .i64 t.J.length,ep,.int .i64 t.J.length,dP,.int .i64 t.J.length,ff,.int .i64 t.J.length,fy],.agg #[.int .i64 t.J.length,rv],.int .i64 0]/\es=[et s1 (bT t.J.length (dK t)),et s2 (bT t.J.length (sj t)),et cy (bT t.J.length (iR t c)),et dq (bT t.J.length (ke t (iR t c))),et dd (bT t.J.length (hX t c)),et ep (bT t.J.length (ke t (hX t c))),et dP (bT t.J.length (jD t c)),et ff (bT t.J.length (ke t (jD t c))),et fy (bT t.J.length (qq t c)),et rv (bT t.J.length (pJ t c))]:=by
 have k2:=ai.br.aG;have mE:=ai.oM;have g1:=h.bb.aG;have g2:=h.init.aG;have g3:=h.J.aG;have g4:=h.bars.aG;have g5:=h.addr.aG;have g6:=h.data.aG;have g7:=h.ba.aG;have g8:=h.cw.aG;have g9:=h.ends.aG;refine iY func37 ntmps37 ?_;refine ck λjA=>?_;refine ck λkZ=>?_;refine cU λcO=>?_;refine cU λea=>?_;have hb:=(lD (l5 aY).1).1;refine ao (bw (λI hw=>xG cz b1 c I (h.now hw) (ai.now hw)) ?_);rintro v bx a6 rfl cA;refine bg (λh1=>?_) λh1=>?_
 ·rw[amk,ar]at h1;exact absurd aY h1
 refine aa ?_;refine ao (gr (λI hw=>LX cz b1 c I (h.now hw) (ai.now hw) (bp.now hw)) ?_);rintro v cp es bX ⟨s1,s2,cy,dq,dd,ep,dP,ff,fy,⟨fk,jQ,j4,j5,k4,mc,lN,me,mG⟩,rfl,rfl⟩;rw[LY aY,aY];refine aa ?_;refine cU λdv=>?_;refine bQ 0 ?_;refine bA (λh2=>?_) λh2=>?_
 ·rw[amk,ar]at h2;exact absurd rfl h2
 clear h2;refine aa ?_;refine ao (gr (λI hw=>A2 (lz _ (dK t) hb) (lz _ (qq t c) hb) (hw.ed) (hw.ed)) ?_);rintro v hD es gb ⟨rv,w5,rfl,rfl⟩;rw[AI hb];refine aa ?_;refine cU λmr=>?_;refine bQ 0 ?_;refine fs (Mem [(w,an)] [.box mr [.int .i64 t.J.length,rv] 113,.box dv [.int .i64 t.J.length,s1,.int .i64 t.J.length,s2,.int .i64 t.J.length,cy,.int .i64 t.J.length,dq,.int .i64 t.J.length,dd,.int .i64 t.J.length,ep,.int .i64 t.J.length,dP,.int .i64 t.J.length,ff,.int .i64 t.J.length,fy] 115]) [0,1,2,3,4,5] mixed (bM [0,2]) ?_;refine aP ?_;refine bL _ (h:=bD 13 (ab:=?_));refine aF (aP ?_) (bM [0,2]);refine bL _ (h:=bD 12 (ab:=?_));refine aF (aP ?_) (bM [0,2]);refine aa ?_;refine eR rfl (.dz rfl abY rfl (.dz rfl abX rfl (.t1 rfl))) [_,_,_,_,_,_,_,_,_,_] [3,4,5,6,7,8,9,10,11,1] λI hw=>?_;exact⟨s1,s2,cy,dq,dd,ep,dP,ff,fy,rv,⟨fk,jQ,j4,j5,k4,mc,lN,me,mG⟩,w5,rfl,rfl⟩
theorem afT{lv aj aN bv aK aX ae aU bE:Value}{t:a1}(cz b1:Value)(c:cv)(w:World)(h:ha an w lv aj aN bv aK aX ae aU bE t)(ai:jW an w cz b1 c)(bp:lg w): bj prog 11 [.agg #[lv,aj,aN,bv,aK,aX,ae,aU,bE],.agg #[cz,b1]] w λ_ v _=>v=.tuple #[.bool (oB t c),.int .i64 (fc t c)]:=by
 have k2:=ai.br.aG;have mE:=ai.oM;have g1:=h.bb.aG;have g2:=h.init.aG;have g3:=h.J.aG;have g4:=h.bars.aG;have g5:=h.addr.aG;have g6:=h.data.aG;have g7:=h.ba.aG;have g8:=h.cw.aG;have g9:=h.ends.aG;refine ca func11 ntmps11 ?_;refine ck λjA=>?_;refine ck λkZ=>?_;by_cases aY:fc t c=0
 ·have hb:=(lD (l5 aY).1).1;refine ao (gr (λI hw=>Tq cz b1 c I (h.now hw) (ai.now hw) (bp.now hw) aY) ?_);rintro v bx es a6 ⟨s1,s2,cy,dq,dd,ep,dP,ff,fy,rv,⟨fk,jQ,j4,j5,k4,mc,lN,me,mG⟩,w5,rfl,rfl⟩;refine aa ?_;refine cU λcS=>?_;refine cU λeb=>?_;refine bQ 1 ?_;refine bQ 0 ?_;refine bA (λh1=>?_) λh1=>?_
  ·rw[amk,ar]at h1;exact absurd rfl h1
  clear h1;refine aa ?_;refine ao (bw (λI hw=>G6 t.J.length rv (bT t.J.length (pJ t c)) I (hw.ed)) ?_);rintro v cp bX rfl fq;refine aa ?_;refine bP rfl (.tmp rfl (.t1 rfl)) λI hw=>?_;rw[Gn aY,aY,lz _ _ hb];rfl
 refine ao (bw (λI hw=>Tp cz b1 c I (h.now hw) (ai.now hw) (bp.now hw) aY) ?_);rintro v bx a6 rfl cA;refine aa ?_;refine cU λcS=>?_;refine cU λeb=>?_;refine bQ 1 ?_;refine bQ 0 ?_;refine bA (λh1=>?_) λh1=>?_
 ·refine aa ?_;refine bP rfl (.tmp rfl (.t1 rfl)) λI hw=>?_;rw[Te aY];rfl
 rw[amm,aq]at h1;exact absurd h1 aY
theorem agj{lv aj aN bv aK aX ae aU bE:Value}{t:a1}(cz b1:Value)(c:cv)(w:World)(h:ha an w lv aj aN bv aK aX ae aU bE t)(ai:jW an w cz b1 c)(bp:lg w): eH prog 40 [.agg #[lv,aj,aN,bv,aK,aX,ae,aU,bE],.agg #[cz,b1]] w (Dx (AS t c) (AR t c)):=by
 have k2:=ai.br.aG;have mE:=ai.oM;have g1:=h.bb.aG;have g2:=h.init.aG;have g3:=h.J.aG;have g4:=h.bars.aG;have g5:=h.addr.aG;have g6:=h.data.aG;have g7:=h.ba.aG;have g8:=h.cw.aG;have g9:=h.ends.aG;refine iY func40 ntmps40 ?_;refine ck λjA=>?_;refine ck λkZ=>?_;by_cases aY:fc t c=0
 ·have hb:=(lD (l5 aY).1).1;refine ao (gr (λI hw=>Tq cz b1 c I (h.now hw) (ai.now hw) (bp.now hw) aY) ?_);rintro v bx es a6 ⟨s1,s2,cy,dq,dd,ep,dP,ff,fy,rv,⟨fk,jQ,j4,j5,k4,mc,lN,me,mG⟩,w5,rfl,rfl⟩;refine aa ?_;refine cU λcS=>?_;refine cU λeb=>?_;refine bQ 1 ?_;refine bQ 0 ?_;refine bA (λh1=>?_) λh1=>?_
  ·rw[amk,ar]at h1;exact absurd rfl h1
  clear h1;refine aa ?_;refine ao (gr (λI hw=>Qx t.J.length rv (bT t.J.length (pJ t c)) I (hw.ed)) ?_);rintro v cp es bX ⟨iQ,yi,rfl,rfl⟩;by_cases ag:oB t c=true
  ·have aB:=(JP hb (by rw[<-Gn aY];exact ag)).1;rw[aB];refine bg (λh2=>?_) λh2=>?_
   ·rw[amk,ar]at h2;exact absurd rfl h2
   refine aa ?_;refine eR rfl (.tmp rfl (.t1 rfl)) [_] [0] λI hw=>?_;unfold AR AS;rw[amo aY,amo ag,amo ag];exact⟨iQ,yi,rfl,rfl⟩
  have aB:=(abJ (p:=pJ t c) hb (by rw[<-Gn aY];simpa using ag)).1;rw[aB];refine bg (λh2=>?_) λh2=>?_
  ·refine aa ?_;refine dZ 3 1 bd ?_;refine eR rfl (.tmp rfl (.t1 rfl)) [_] [0] λI hw=>?_;unfold AR AS;rw[amo aY,amn ag,amn ag];exact⟨_,kL,rfl,rfl⟩
  rw[amm,aq]at h2;omega
 refine ao (bw (λI hw=>Tp cz b1 c I (h.now hw) (ai.now hw) (bp.now hw) aY) ?_);rintro v bx a6 rfl cA;refine aa ?_;refine cU λcS=>?_;refine cU λeb=>?_;refine bQ 1 ?_;refine bQ 0 ?_;refine bA (λh1=>?_) λh1=>?_
 ·refine aa ?_;refine dZ 3 1 bd ?_;refine eR rfl (.tmp rfl (.t1 rfl)) [_] [0] λI hw=>?_;unfold AR AS;rw[amn aY,amn (by rw[Te aY];simp)];exact⟨_,kL,rfl,rfl⟩
 rw[amm,aq]at h1;exact absurd h1 aY
end Go.Proofs.bK
namespace Go.bU
theorem jW.NB{S:Nat->Prop}{w:World}{cz ae:Value}{c:cv}(h:jW S w cz ae c):aD ae:=by obtain⟨vs,h1,_⟩:=h.co;exact h1.aG
end Go.bU
namespace Go.Proofs.bK
theorem WK{lv aj aN bv aK aX ae aU bE:Value}{t:a1}(cz b1:Value)(c:cv)(w:World)(h:ha an w lv aj aN bv aK aX ae aU bE t)(ai:jW an w cz b1 c)(aY:fc t c=0): bj prog 36 [.agg #[lv,aj,aN,bv,aK,aX,ae,aU,bE],.agg #[cz,b1]] w λm v I=>aV (Fr m) I bd 1 v (xr t c):=by
 obtain⟨aE,kg⟩:=Ni aY;obtain⟨hb,w0⟩:=lD aE;have cP:=h.J;have fi:=h.init;have b8:=ai.br;have Eo:=cP.le;have HZ:=fi.le;have ajf:=b8.le;have s1:=b8.aG;have s2:=ai.NB;have eP:c.br.length=t.J.length:=((q2 t c).1 kg).1;have gB:=z7 aE;refine ca func36 ntmps36 ?_;refine ck λaT=>?_;refine ck λhc=>?_;refine ao (ix bd cc.q4 _ _ _ _ (ab:=λv11 PU=>aa ?_));refine b9 (λi:Nat=>i<=t.J.length) (λi=>[(15,true,.int .i64 i),(14,true,.int .i64 t.J.length),(13,true,aN),(5,true,v11),(3,true,ax hc),(2,true,ax aT)]) (λi=>Mem [(w,an)] [.own v11 3 1 bd (pw t.J.length (mQ t c) i),.box hc [cz,b1] 53,.box aT [lv,aj,aN,bv,aK,aX,ae,aU,bE] 41]) (λi=>t.J.length-i) 0 (amz _) ?_ ⟨rfl,rfl,rfl,rfl,rfl,rfl,trivial⟩ (λ_ h=>by rw[Ol];exact h.last rfl)
 intro i hi;refine bg (λh1=>?_) λh1=>?_
 ·have cb:i<t.J.length:=by rw[aq]at h1;omega
  have x6:=Oj t.J.length (mQ t c) i;have EG:i<(pw t.J.length (mQ t c) i).length:=by omega
  have ni:=GF aE cb;have p5:=afi kg cb;have PK:i<c.br.length:=by omega
  refine aa ?_;refine cU λeN=>?_;refine bQ 0 ?_;refine bA (λh2=>?_) λh2=>?_
  ·rw[aq]at h2;refine aa ?_;refine ao (fB 1 rfl _ (ab:=aa ?_));refine bt (i+1) (by omega) (by omega) (hA:=λ_ h=>?_);rw[<-Ea cb (x:=(t.J.getD i default).value) (by unfold mQ;rw[amo h2])];exact(h.last rfl).tail
  rw[ar]at h2;refine bg (λh3=>?_) λh3=>?_
  ·rw[aq]at h3;refine aa ?_;refine ao (fB 1 rfl _ (ab:=aa ?_));refine bt (i+1) (by omega) (by omega) (hA:=λ_ h=>?_);rw[<-Ea cb (x:=t.init.getD (t.J.getD i default).loc.toNat default) (by unfold mQ;rw[amn h2,amo h3])];exact(h.last rfl).tail
  rw[ar]at h3;refine aa ?_;refine cV [0,1,2,3,4,5,6,7,8,9,10,11,12,13] mixed ?_;refine aP ?_;refine hz (h:=fB 1 rfl _ (ab:=aa ?_));refine bt (i+1) (by omega) (by omega) (hA:=λ_ h=>?_);rw[<-Ea cb (x:=(t.J.getD (c.br.getD i default).toNat default).value) (by unfold mQ;rw[amn h2,amn h3])];exact(h.last rfl).tail
 obtain rfl:i=t.J.length:=by rw[ar]at h1;omega
 refine bl λI hw=>?_;have:=hw.hK aL aL;rw[Oi]at this;exact this
theorem V6{lv aj aN bv aK aX ae aU bE:Value}{t:a1}(cz b1:Value)(c:cv)(w:World)(h:ha an w lv aj aN bv aK aX ae aU bE t)(ai:jW an w cz b1 c)(aY:fc t c=0): bj prog 9 [.agg #[lv,aj,aN,bv,aK,aX,ae,aU,bE],.agg #[cz,b1]] w λm v I=>∃u,v=.tuple #[u,.int .i64 0]/\aV (Fr m) I bd 1 u (tW t c):=by
 obtain⟨aE,kg⟩:=Ni aY;obtain⟨hb,w0⟩:=lD aE;obtain⟨lk,ajw⟩:=HC aE;have s1:=ai.br.aG;have s2:=ai.NB;have iK:=h.ends;have fi:=h.init;have ajd:=iK.le;have HZ:=fi.le;have gB:=z7 aE;have eE:c.co.length=t.bb.length:=((q2 t c).1 kg).2.1;obtain⟨vs,jR,jn,aag⟩:=ai.co;have akj:=jR.le;refine ca func9 ntmps9 ?_;refine ck λaT=>?_;refine ck λhc=>?_;refine ao (bw (λI hw=>xG cz b1 c I (h.now hw) (ai.now hw)) ?_);rintro v bx a6 rfl cA;rw[aY];refine bg (λh1=>?_) λh1=>?_
 ·exfalso;simp[ch]at h1
 clear h1;refine aa ?_;refine ao (bw (λI hw=>WK cz b1 c I (h.now hw) (ai.now hw) aY) ?_);rintro Ur cp bX aw fq;have yl:aV (Fr cp) bX bd 1 Ur (xr t c):=aw;have akl:=yl.aG;have akk:=ahP t c;refine cJ (Mem [(bX,Fr cp),(w,an)] [.box hc [cz,b1] 53,.box aT [lv,aj,aN,bv,aK,aX,ae,aU,bE] 41]) (λ_ h=>h.qt) (aa ?_);refine ao (ix bd cc.q4 _ _ _ _ (ab:=λv24 Z3=>aa ?_));refine b9 (λi:Nat=>i<=t.ends.length) (λi=>[(28,true,.int .i64 i),(27,true,.int .i64 t.ends.length),(26,true,bE),(8,true,v24),(7,true,Ur),(3,true,ax hc),(2,true,ax aT)]) (λi=>Mem [(bX,Fr cp),(w,an)] [.own v24 3 1 bd (pw t.ends.length (qw t c) i),.box hc [cz,b1] 53,.box aT [lv,aj,aN,bv,aK,aX,ae,aU,bE] 41]) (λi=>t.ends.length-i) 0 (amz _) ?_ ⟨rfl,rfl,rfl,rfl,rfl,rfl,rfl,trivial⟩ (λ_ h=>by rw[Ol];exact h)
 intro i hi;refine bg (λh2=>?_) λh2=>?_
 ·have bF:i<t.ends.length:=by rw[aq]at h2;omega
  have x6:=Oj t.ends.length (qw t c) i;have EG:i<(pw t.ends.length (qw t c) i).length:=by omega
  have zL:=W9 aE bF;have vz:∀x,x=qw t c i->(pw t.ends.length (qw t c) i).set i x=pw t.ends.length (qw t c) (i+1):=λx hx=>Ea bF hx;generalize pw t.ends.length (qw t c) i=GW at *;refine aa ?_;refine cU λeN=>?_;refine bQ 0 ?_;refine bA (λh3=>?_) λh3=>?_
  ·rw[aq]at h3;refine aa ?_;refine ao (fB 1 rfl _ (ab:=aa ?_));refine bt (i+1) (by omega) (by omega) (hA:=λ_ h=>?_);rw[<-vz (t.ends.getD i default).n (by unfold qw;rw[amo h3])];exact h.tail
  rw[ar]at h3;refine bg (λaC=>?_) λaC=>?_
  ·rw[aq]at aC;have bh:0<=(t.ends.getD i default).n/\(t.ends.getD i default).n<t.J.length:=by omega
   have aaf:=Um (t:=t) (c:=c) (i:=(t.ends.getD i default).n.toNat) (by omega);have cA:(t.ends.getD i default).n<(xr t c).length:=by omega
   refine aa ?_;rw[aaf];refine aa ?_;refine ao (fB 1 rfl _ (ab:=aa ?_));refine bt (i+1) (by omega) (by omega) (hA:=λ_ h=>?_);rw[<-vz (mQ t c (t.ends.getD i default).n.toNat) (by unfold qw;rw[amn h3,amo aC])];exact h.tail
  rw[ar]at aC;have oT:(t.ends.getD i default).kind=3/\0<=(t.ends.getD i default).n/\(t.ends.getD i default).n<t.bb.length:=by omega
  have ajO:(t.ends.getD i default).n<t.init.length:=by omega
  have ajP:(t.ends.getD i default).n<vs.length:=by omega
  have hx:=aag (t.ends.getD i default).n.toNat (by omega);have hxs:=hx.aG;have r8:=WA kg (k:=(t.ends.getD i default).n.toNat) (by omega);have nm:(c.co.getD (t.ends.getD i default).n.toNat default).length<=64:=by rw[r8.length_eq];exact ani (GM _ _ _) hb
  have O6:qw t c i=if(c.co.getD (t.ends.getD i default).n.toNat default).length=0 then t.init.getD (t.ends.getD i default).n.toNat default else mQ t c ((c.co.getD (t.ends.getD i default).n.toNat default).getD ((c.co.getD (t.ends.getD i default).n.toNat default).length-1) default).toNat:=by unfold qw;rw[amn h3,amn aC]
  have hmem:∀y,y∈c.co.getD (t.ends.getD i default).n.toNat default->0<=y/\y<t.J.length:=λy aR=>by obtain⟨j,ad,e,_⟩:=UC.1 (r8.mem_iff.1 aR);omega
  have ZG:∀y,(GW.set i y).length=GW.length:=λy=>amQ;refine bg (λaW=>?_) λaW=>?_
  ·refine aa ?_;refine ao (fB 1 rfl _ (ab:=?_));have ajB:i<(GW.set i (t.init.getD (t.ends.getD i default).n.toNat default)).length:=by rw[ZG];exact EG
   refine aa ?_;generalize aB:c.co.getD (t.ends.getD i default).n.toNat default=l at *;refine bA (λcM=>?_) λcM=>?_
   ·rw[aq]at cM;obtain⟨m,hm⟩:∃m,l.length=m+1:=⟨l.length-1,by omega⟩;have aR:=hmem (l.getD m default) (by rw[aml,amp (show m<l.length by omega)];exact anx _);have bC:((l.length:Int)-1).toNat=m:=by omega
    have akp:l.getD m default<(xr t c).length:=by omega
    have aan:=Um (t:=t) (c:=c) (i:=(l.getD m default).toNat) (by omega);refine aa ?_;rw[bC];refine aa ?_;rw[aan];refine aa ?_;refine ao (fB 1 rfl _ (ab:=aa ?_));refine bt (i+1) (by omega) (by omega) (hA:=λ_ h=>?_);rw[<-vz (mQ t c (l.getD m default).toNat) (by rw[O6,amn (by omega),hm];rfl)];have cr:=h.tail;simp only[List.set_cons_succ,List.set_cons_zero,List.set_set]at cr;exact cr
   rw[ar]at cM;refine aa ?_;refine bt (i+1) (by omega) (by omega) (hA:=λ_ h=>?_);rw[<-vz (t.init.getD (t.ends.getD i default).n.toNat default) (by rw[O6,amo (by omega)])];exact h.tail
  rw[ar]at aW;omega
 obtain rfl:i=t.ends.length:=by rw[ar]at h2;omega
 refine aa ?_;refine bP rfl (.tmp rfl (.t1 rfl)) λI hw=>?_;have:=hw.hK aL ds;rw[Oi]at this;exact⟨_,rfl,this⟩
end Go.Proofs.bK
