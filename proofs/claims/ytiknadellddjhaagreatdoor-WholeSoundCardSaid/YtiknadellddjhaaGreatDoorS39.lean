/- Lemmas for the law WholeSound. -/
import Derived.Test.YtiknadellddjhaaGreatDoorS38
set_option linter.all false
open Go.Proofs.Tryz
set_option maxHeartbeats 12800000
open Go Go.cc Go.bU Go.gH Go.eV
attribute [local irreducible] Go.wpList Go.Code.wp Go.bodyPost Go.Exit.then Go.Exit.inBlock Go.Calls
namespace Go.Proofs.bK
theorem oF.rk{b:Nat}{t:aM}{q:fW}{m:cu}{bs:List dr}{w:World}(ok:sH t q m)(hw:Mem bs (ko b t q m) w)(aB:aV an w dV 1 q.lv (b2 t))(aE:aV an w ev 3 q.aU (bk t)):oF an w b t q m:=oF.of (H:=[]) ok (by rw[amB];exact hw) aB aE
theorem ab8{bs:List dr}{w:World}{b:Nat}{t:aM}{q:fW}{m m':cu}{k:Nat}{cH:Value}{x:ht}(hk:k<t.code.length)(ok:sH t q m)(fv:aD cH)(aB:m.av.length=t.code.length)(aE:m'.av=m.av.set k x) (hw:Mem bs [.own cH 70 2 dm x.ah,.box b (nr t q) 262,.own q.ae 167 1 cD q.vs,.own q.aw 183 2 fQ (q.ag.set k (cH,x.at')),.own q.mv 3 1 bd m'.mem,df (dJ (hQ t q m) t.code.length)] w): Mem bs (ko b t {q with ag:=q.ag.set k (cH,x.at')} m') w/\sH t {q with ag:=q.ag.set k (cH,x.at')} m':=by
 have r1:∀j,m'.av.getD j default=if j=k then x else m.av.getD j default:=λj=>by
  rw[aE,fL,aB];by_cases e:j=k
  ·rw[amo ⟨e.symm,by omega⟩,amo e]
  rw[amn λg=>e g.1.symm,amn e]
 have x7:∀j,j<t.code.length->(q.ag.set k (cH,x.at')).getD j default=if j=k then(cH,x.at')else q.ag.getD j default:=λj ad=>by
  rw[fL,ok.aB];by_cases e:j=k
  ·rw[amo ⟨e.symm,ad⟩,amo e]
  rw[amn λg=>e g.1.symm,amn e]
 constructor
 ·have h1:=(hw.cm (es:=df (dJ (hQ t q m) t.code.length)::[.own cH 70 2 dm x.ah,.box b (nr t q) 262,.own q.ae 167 1 cD q.vs,.own q.aw 183 2 fQ (q.ag.set k (cH,x.at')),.own q.mv 3 1 bd m'.mem]) [5,0,1,2,3,4]).rm k hk;have h2:Mem bs (hQ t {q with ag:=q.ag.set k (cH,x.at')} m' k++(df (jC (hQ t q m) t.code.length k)::[.box b (nr t q) 262,.own q.ae 167 1 cD q.vs,.own q.aw 183 2 fQ (q.ag.set k (cH,x.at')),.own q.mv 3 1 bd m'.mem])) w:=by unfold hQ;dsimp only;rw[r1 k,amo rfl,x7 k hk,amo rfl];exact h1.cm [0,3,2,4,5,6,7]
  have h3:=h2.wI (hQ t {q with ag:=q.ag.set k (cH,x.at')} m') k hk λj ad dC=>by unfold hQ;dsimp only;rw[r1 j,amn dC,x7 j ad,amn dC]
  exact h3.cm [1,2,3,4,0]
 obtain⟨s1,s2,cy,dq,dd,jn,kU,jR,jG⟩:=ok;refine⟨s1,s2,cy,dq,dd,jn,by rw[<-kU];exact amQ,jR,λj ad=>?_⟩;dsimp only;rw[x7 j ad,r1 j];by_cases e:j=k
 ·rw[amo e,amo e];exact⟨fv,rfl⟩
 rw[amn e,amn e];exact jG j ad
theorem u5{x:kN}{fb:Int}{dQ:ByteArray}{aK e5 gd:Int}(h:qY x=hv fb dQ aK e5 gd):match x with
 | .no=>fb=1
 | .rd l r=>fb=2/\dQ=l/\e5=r
 | .wr l v=>fb=3/\dQ=l/\aK=v
 | .oQ f=>fb=4/\gd=f:=by
 cases x<;>(unfold qY hv at h;simp only[aoB,Value.int.injEq,Value.string.injEq,and_true,true_and]at h)
 ·exact h.1.symm
 ·exact⟨h.1.symm,h.2.1.symm,h.2.2.2.1.symm⟩
 ·exact⟨h.1.symm,h.2.1.symm,h.2.2.1.symm⟩
 exact⟨h.1.symm,h.2.2.2.2.symm⟩
theorem af8(az:Int)(r:List dY)(d:Int)(v:dY):(fD az r d v).length=r.length:=by unfold fD;split<;>simp
theorem Gw{t:aM}(aE:du t=0){m:cu}{log:List Nat}{dc:Nat->List Nat}(M:kt t m log dc){k:Nat}(hk:k<t.code.length)(dO:(m.av.getD k default).at'<(cj t k).length):(stepT t k (m.av.getD k default)).1.ah.length=b3 t.az/\match(stepT t k (m.av.getD k default)).2 with
 | .rd s r=>s∈b2 t/\0<=r/\r<b3 t.az
 | .wr s _=>s∈b2 t
 | _=>True:=by
 obtain⟨c3,kl⟩:=(mT aE hk).1;obtain⟨s,T⟩:=M.av k hk;obtain⟨C,h0,_⟩:=qj aE hk;have vm:=AU (kf aE) hk kl T.rd T.tm dO;unfold pk at vm;rcases hx:(stepT t k (m.av.getD k default)).2 with _ | ⟨s1,r⟩ | ⟨s1,v⟩ | f
 ·rw[hx]at vm;obtain⟨_,_,s',b8,_,_,bp⟩:=vm;exact⟨bp.len.trans (b8.ok C h0).lA,trivial⟩
 ·rw[hx]at vm;obtain⟨ni,_,s',b8,he,_,bp⟩:=vm;have h1:=(bp 0 (by decide)).len;dsimp only at h1;rw[af8]at h1;refine⟨h1.trans (b8.ok C h0).lA,ni,?_⟩;exact((b8.ok C h0).J _ (by rw[he];exact amA.2 (.inr (amv.2 rfl)))).bq
 ·rw[hx]at vm;obtain⟨ni,_,_,s',b8,_,_,bp⟩:=vm;exact⟨bp.len.trans (b8.ok C h0).lA,ni⟩
 rw[hx]at vm;obtain⟨_,_,_,s',b8,_,_,bp⟩:=vm;exact⟨bp.len.trans (b8.ok C h0).lA,trivial⟩
def U4(b:Nat)(t:aM)(q:fW)(m:cu):Nat->Value->List aA->World->Prop:=λ_ _ es _=>∃qB,es=ko b t {q with ag:=qB} m/\sH t {q with ag:=qB} m
theorem ab6{b:Nat}{t:aM}{q:fW}{m:cu}(w:World)(aE:du t=0){log:List Nat}{dc:Nat->List Nat}(M:kt t m log dc)(ok:sH t q m)(k:Nat)(hk:k<t.code.length)(dO:(m.av.getD k default).at'<(cj t k).length)(gl:m.cT.getD k default=[]) (c6:aV (bB (ko b t q m)) w dV 1 q.lv (b2 t)) (jF:aV (bB (ko b t q m)) w ev 3 q.aU (bk t)) (hw:Mem [] (ko b t q m) w): eM prog 164 [ax b,.int .i64 k] (ko b t q m) w (U4 b t q (eK t (al t) false m k)):=by
 have G:=kf aE;have hh:=Dg (xg t);have ln:=G.vS;have hZ:=M.ns;rw[lq aE]at hZ;obtain⟨hok,aY⟩:=M.yS aE hk;obtain⟨dj,j2,_⟩:=agA (t:=t) gl;rw[lq aE]at dj j2;have kU:=ok.aB;obtain⟨eP,td⟩:=Gw aE M hk dO;obtain⟨fb,dQ,aK,e5,gd,dT⟩:=wC (stepT t k (m.av.getD k default)).2;refine jO func164 ntmps164 hw ?_;refine ao (gr (λI hw=>ab2 I (oF.rk ok hw (hw.now c6) (hw.now jF)) aE M k hk dO) ?_);rintro tF bx es a6 ⟨cH,fj,rfl,rfl⟩;rw[dT];refine af ?_;refine dH λcO=>?_;refine dH λea=>?_;refine c0 1 ?_;refine c0 0 ?_;refine cJ (Mem [(w,bB (ko b t q m))] [.box ea (hv fb dQ aK e5 gd) 256,.box cO [cH,.int .i64 (stepT t k (m.av.getD k default)).1.at'] 183,.own cH 70 2 dm (stepT t k (m.av.getD k default)).1.ah,.box b (nr t q) 262,.own q.ae 167 1 cD q.vs,.own q.aw 183 2 fQ q.ag,.own q.mv 3 1 bd m.mem,df (dJ (hQ t q m) t.code.length)]) eS ?_;refine cV [0,1,2,3,4,5,6,7,8,9,10,11] mixed ?_;refine bI ?_;refine bL _ (h:=iJ (a7:=λI hw=>xE q.lv dQ (b2 t) I (hw.now c6) hh (by omega)) (ab:=?_));rintro ahJ cp bX ⟨j,VG,rfl,yk⟩ fq;refine aF (aP ?_) eS;refine cJ _ eS (af ?_);refine wu (λz:ht×List Int=>(eK t (al t) false m k).av=m.av.set k z.1/\(eK t (al t) false m k).mem=z.2) (λz=>[(4,true,ax cO),(1,true,.int .i64 k),(0,true,ax b)]) (λz=>Mem [(w,bB (ko b t q m))] [.box cO [cH,.int .i64 z.1.at'] 183,.own cH 70 2 dm z.1.ah,.box b (nr t q) 262,.own q.ae 167 1 cD q.vs,.own q.aw 183 2 fQ q.ag,.own q.mv 3 1 bd z.2,df (dJ (hQ t q m) t.code.length)]) ?_ ?_
 ·rcases hx:(stepT t k (m.av.getD k default)).2 with _ | ⟨s,r⟩ | ⟨s,v⟩ | f
  ·rw[hx]at dT dj j2;have lL:fb=1:=u5 dT;subst lL;refine cK rfl (λh=>by rw[aq]at h;omega) λ_=>?_;refine af ?_;refine cK rfl (λh=>by rw[aq]at h;omega) λ_=>?_;refine af ?_;exact bZ ((stepT t k (m.av.getD k default)).1,m.mem) ⟨dj,j2⟩ (hA:=iG)
  ·rw[hx]at dT dj j2 td;have lL:fb=2/\dQ=s/\e5=r:=u5 dT;obtain⟨rfl,rfl,rfl⟩:=lL;obtain⟨eZ,PB,PC⟩:=td;obtain rfl:=xc hh eZ yk;have dn:=qb eZ;refine cK rfl (λ_=>?_) (λh=>by rw[ar]at h;exact absurd rfl h);refine af ?_;refine cV [0,1,2,3,4,5,6,7,8,9,10] mixed ?_;refine bI ?_;refine cJ (Mem [(w,bB (ko b t q m))] (lP cO cH (stepT t k (m.av.getD k default)).1.at' (stepT t k (m.av.getD k default)).1.ah++[.box b (nr t q) 262,.own q.ae 167 1 cD q.vs,.own q.aw 183 2 fQ q.ag,.own q.mv 3 1 bd m.mem,df (dJ (hQ t q m) t.code.length)])) iG ?_;refine eG (λ_=>True) (h:=en (es:=lP cO cH (stepT t k (m.av.getD k default)).1.at' (stepT t k (m.av.getD k default)).1.ah) (a7:=λI hw=>QY cO cH _ _ e5 _ I fj (by omega) (hw.sS aL) hw.dk.ei) (ab:=?_));rintro F9 hD es gb rfl;refine aF (aP ?_) dx;refine af ?_;exact bZ (⟨fD t.az (stepT t k (m.av.getD k default)).1.ah e5 ⟨a8,m.mem.getD (dp (b2 t) dQ) default⟩,(stepT t k (m.av.getD k default)).1.at'⟩,m.mem) ⟨dj,j2⟩
  ·rw[hx]at dT dj j2 td;have lL:fb=3/\dQ=s/\aK=v:=u5 dT;obtain⟨rfl,rfl,rfl⟩:=lL;obtain rfl:=xc hh td yk;have dn:=qb td;refine cK rfl (λh=>by rw[aq]at h;omega) λ_=>?_;refine af ?_;refine cK rfl (λ_=>?_) (λh=>by rw[ar]at h;exact absurd rfl h);refine af ?_;refine cV [0,1,2,3,4,5,6,7,8] mixed ?_;refine bI ?_;refine hz (h:=fB 6 rfl aK (ab:=af ?_));exact bZ ((stepT t k (m.av.getD k default)).1,m.mem.set (dp (b2 t) dQ) aK) ⟨dj,j2⟩ (hA:=iG)
  rw[hx]at dT dj j2;have lL:fb=4/\gd=f:=u5 dT;obtain⟨rfl,_⟩:=lL;refine cK rfl (λh=>by rw[aq]at h;omega) λ_=>?_;refine af ?_;refine cK rfl (λh=>by rw[aq]at h;omega) λ_=>?_;refine af ?_;exact bZ ((stepT t k (m.av.getD k default)).1,m.mem) ⟨dj,j2⟩ (hA:=iG)
 rintro⟨x,aky⟩ ⟨Cp,Cq⟩;dsimp only at Cp Cq⊢;subst Cq;refine af ?_;refine cV [0,1,2,3,4,5,6,7] mixed ?_;refine bI ?_;refine hz (h:=fB 4 rfl (cH,x.at') (h1:=.cons fj.one (.cons rfl .nil)) (ab:=af ?_));refine uz rfl .nil aL ?_;intro I p6;obtain⟨g1,g2⟩:=ab8 hk ok fj M.la Cp (p6.cm [1,2,3,4,5,6]);exact⟨_,⟨_,rfl,g2⟩,g1⟩
def p7(t:aM)(k j:Nat):List dY:=(t.init.take j).foldl (λl x=>if x.aI=(k:Int)then l.set x.bq.toNat x.value else l) (List.replicate (b3 t.az) gF)
theorem yq(t:aM)(k:Nat){j:Nat}(ad:j<t.init.length):p7 t k (j+1)=if(t.init.getD j default).aI=(k:Int)then(p7 t k j).set (t.init.getD j default).bq.toNat (t.init.getD j default).value else p7 t k j:=by unfold p7;rw[ang,getD_some ad,an3];rfl
theorem Cv(t:aM)(k:Nat):∀j,j<=t.init.length->(p7 t k j).length=b3 t.az
 | 0,_=>by unfold p7;simp
 | j+1,h=>by
  rw[yq t k (by omega)];split
  ·rw[amQ,Cv t k j (by omega)]
  exact Cv t k j (by omega)
def hR(t:aM)(j:Nat):cu:={iO t (al t)with av:=(List.range t.code.length).map λk=>⟨p7 t k j,0⟩}
theorem Rh(t:aM):hR t t.init.length=iO t (al t):=by unfold hR iO p7 yt;rw[amU]
theorem uy(t:aM)(j:Nat){k:Nat}(hk:k<t.code.length):(hR t j).av.getD k default=⟨p7 t k j,0⟩:=s7 hk
theorem Tw{aQ:Type}{n m:Nat}{B w:World}{bs:List dr}{H:List aA}{enc:aQ->List Value}{sz:Nat}{v:Value}{xs:List aQ}{es:List aA}[he:ee enc sz](hw:Mem bs H w)(h:aV (Fr n) B enc sz v xs)(hB:(B,Fr n)∈bs)(hm:m<=n)(kE:∀e,e∈es->e∈H):aV (jx m es) w enc sz v xs:=h.mono (hw.base _ hB) (λk hk ct=>⟨ani hm ct,hw.CL hB kE k hk ct⟩) λx _=>he.ne x
theorem ab7{bs:List dr}{H:List aA}{w:World}{t:aM}{q q':fW}{m:cu}{k:Nat}{ro aJ:Value}{a:Nat}(hw:Mem bs ([.own ro 169 8 cC (cj t k),.own aJ 70 2 dm (m.av.getD k default).ah]++(df (dJ (hQ t q m) k)::H)) w) (h1:q.vs.length=k) (h2:q.ag.length=k) (bC:q'.vs=q.vs++[ro]) (cd:q'.ag=q.ag++[(aJ,a)]):Mem bs (df (dJ (hQ t q' m) (k+1))::H) w:=by
 have h3:dJ (hQ t q' m) k=dJ (hQ t q m) k:=xS λj ad=>by unfold hQ;rw[bC,cd,kA (by omega),kA (by omega)]
 refine Mem.FG ?_;rw[h3];have aC:hQ t q' m k=[.own ro 169 8 cC (cj t k),.own aJ 70 2 dm (m.av.getD k default).ah]:=by
  unfold hQ;have g1:q'.vs.getD k default=ro:=by rw[bC,<-h1,oS]
  have g2:q'.ag.getD k default=(aJ,a):=by rw[cd,<-h2,oS]
  rw[g1,g2]
 rw[aC];exact hw
theorem QZ{t:aM}{q:fW}{j:Nat}(ad:j<t.init.length){k:Nat}(hk:k<t.code.length)(h:¬(t.init.getD j default).aI=(k:Int)):hQ t q (hR t (j+1)) k=hQ t q (hR t j) k:=by unfold hQ;rw[uy t _ hk,uy t _ hk,yq t k ad,amn h]
def U2(t:aM):Nat->Value->List aA->World->Prop:=λn v es I=>(du t≠0/\v=.tuple #[.pointer none,.int .i64 (du t)]/\es=[])\/ (du t=0/\∃b q,v=.tuple #[ax b,.int .i64 0]/\es=ko b t q (iO t (al t))/\sH t q (iO t (al t))/\aV (jx n es) I dV 1 q.lv (b2 t)/\aV (jx n es) I ev 3 q.aU (bk t))
theorem ab1(t:aM)(aj ae ak:Value)(vs:List Value)(w:World)(bp:gz an w aj ae ak vs t):eH prog 83 [.agg (cQ t aj ae ak).toArray] w (U2 t):=by
 obtain⟨s1,s2,cy⟩:=bp.iF;have nM:=bp.mZ;have hM:=bp.mx;have hle:=hM.le;refine zq func83 ntmps83 ?_;refine eQ λaT=>?_;refine ao (bw (λI hw=>(GD t aj ae ak vs I (bp.now hw)).size (hw.sz aL)) ?_);rintro v bx a6 ⟨⟨lv,pM,aN,bv,aK,aX,pr,aU,bE,Cy,rfl,⟨lB,qh,pc,fl,fI,oC,jV,st,pd⟩,fu⟩,fk⟩ cA;refine af ?_;refine dH λV5=>?_;refine ao (bD 0 (h1:=.cons lB.one (.cons qh.one (.cons pc.one (.cons fl.one (.cons fI.one (.cons oC.one (.cons jV.one (.cons st.one (.cons pd.one .nil))))))))) (ab:=af ?_));refine bA (λh1=>?_) λh1=>?_
 ·rw[amk,ar]at h1;refine af ?_;exact eR rfl (.tmp rfl (.t1 rfl)) [] [] λI hw=>.inl ⟨h1,rfl,rfl⟩
 rw[amm,aq]at h1;have fu:=fu h1;have G:=kf h1;have fi:=fu.init;have gB:=z7 (jv h1);rw[lq h1]at gB;have ln:=G.vS;have ll:=G.n16;have YQ:=bp.init;have IC:=G.yr;refine af ?_;refine cV [0,1,2,3,4,5,6,7,8,9,10,11] mixed ?_;refine bI ?_;refine bL _ (h:=gS (a7:=λI hw=>AQ pM (al t).init I (hw.now fi) (by omega)) (ab:=?_));rintro mv cp es bX ⟨kj,rfl⟩;refine aF (aP ?_) λ_ h=>h.cI.tail;refine bL _ (h:=q5 ?_);intro b;refine aF (aP ?_) λ_ h=>h.cI.tail.tail;refine af ?_;refine h7 (λ_:Unit=>True) (λ_=>[(8,true,.int .i64 (b3 t.az:Nat)),(7,true,ax b),(1,true,ax aT)]) (λ_=>Mem [(a6,Fr bx),(w,an)] [.box b (nr t (⟨U,lv,aU,U,mv,[],[]⟩:fW)) 262,.own U 167 1 cD [],.own U 183 2 fQ [],.own mv 3 1 bd (al t).init,df (dJ (hQ t (⟨U,lv,aU,U,mv,[],[]⟩:fW) (hR t 0)) 0),.box aT (cQ t aj ae ak) 32]) ?_ ?_
 ·refine dZ 167 1 cD ?_;refine dZ 183 2 fQ ?_;refine cJ (Mem [(a6,Fr bx),(w,an)] [.box b (nr t (⟨U,lv,aU,U,mv,[],[]⟩:fW)) 262,.own U 167 1 cD [],.own U 183 2 fQ [],.own mv 3 1 bd (al t).init,df (dJ (hQ t (⟨U,lv,aU,U,mv,[],[]⟩:fW) (hR t 0)) 0),.box aT (cQ t aj ae ak) 32]) (λ_ h=>(Mem.FI _ h.cI).cm [3,2,1,4,0,6]) ?_;refine bA (λh2=>?_) λh2=>?_
  ·rw[aq]at h2;refine af ?_;exact bZ () trivial ⟨by unfold b3;rw[amo h2];rfl,rfl,rfl,trivial⟩ λ_ h=>h
  rw[ar]at h2;refine af ?_;exact bZ () trivial ⟨by unfold b3;rw[amn h2];rfl,rfl,rfl,trivial⟩ λ_ h=>h
 rintro⟨⟩ _;have EX:b3 t.az<=32:=by unfold b3;split<;>omega
 refine af ?_;refine b9 (λz:Nat×Value×Value×List Value×List (Value×Nat)=>z.1<=t.code.length/\aD z.2.1/\aD z.2.2.1/\z.2.2.2.1.length=z.1/\z.2.2.2.2.length=z.1/\(∀k,k<z.1->aD (z.2.2.2.1.getD k default))/\∀k,k<z.1->aD (z.2.2.2.2.getD k default).1/\(z.2.2.2.2.getD k default).2=0) (λz=>[(39,true,.int .i64 z.1),(38,true,.int .i64 vs.length),(37,true,ae),(8,true,.int .i64 (b3 t.az:Nat)),(7,true,ax b),(1,true,ax aT)]) (λz=>Mem [(a6,Fr bx),(w,an)] [.box b (nr t (⟨z.2.1,lv,aU,z.2.2.1,mv,z.2.2.2.1,z.2.2.2.2⟩:fW)) 262,.own z.2.1 167 1 cD z.2.2.2.1,.own z.2.2.1 183 2 fQ z.2.2.2.2,.own mv 3 1 bd (al t).init,df (dJ (hQ t (⟨z.2.1,lv,aU,z.2.2.1,mv,z.2.2.2.1,z.2.2.2.2⟩:fW) (hR t 0)) z.1),.box aT (cQ t aj ae ak) 32]) (λz=>t.code.length-z.1) (0,U,U,[],[]) ⟨amz _,cZ,cZ,rfl,rfl,λ_ h=>absurd h (anp _),λ_ h=>absurd h (anp _)⟩ ?_
 rintro⟨k,c,h,rs,ag⟩ ⟨hk,ai,eO,eP,kU,ig,jG⟩;dsimp only at hk ai eO eP kU ig jG⊢;refine di (λh3=>?_) λh3=>?_
 ·have dw:k<t.code.length:=by rw[aq]at h3;omega
  have pB:=bp.code k (by omega);have Zx:=G.len _ (er dw);have Zy:=pB.aG;refine af ?_;refine fs (Mem [(a6,Fr bx),(w,an)] [.box b (nr t (⟨c,lv,aU,h,mv,rs,ag⟩:fW)) 262]) [0,1,2,3,4,5,6,7,8,9,10,11] mixed (bV [0]) ?_;refine bI ?_;refine bL _ (h:=gS (a7:=λI hw=>Tv _ _ I (hw.now pB) (by omega)) (ab:=?_));rintro ro hD es gb ⟨Cc,rfl⟩;refine aF ?_ λ_ h=>h.cI.cm [1];refine cJ _ eS ?_;refine bL _ (h:=eA cD l6 (e:=167) (sz:=1) (len:=1) (dF:=[(0,[ro])]) (ab:=?_));intro v50 P0;refine aF ?_ (bV [2]);refine bL _ (h:=e6 3 (hm:=aL) (hok:=λy aR=>by rw[amv.1 aR];exact Cc.one) (hk:=rfl) (bG:=by simp;omega) (ab:=?_));intro v51 E3;refine aF (bI ?_) (bV [2]);refine eG (λ_=>True) (h:=bD 2 (ab:=?_));refine aF (aP ?_) dx;refine af ?_;refine cJ (Mem [(a6,Fr bx),(w,an)] [.box b (nr t (⟨v51,lv,aU,h,mv,rs++[ro],ag⟩:fW)) 262,.own ro 169 8 cC (t.code.getD k default),.own v51 167 1 cD (rs++[ro]),.own h 183 2 fQ ag,.own mv 3 1 bd (al t).init,df (dJ (hQ t (⟨c,lv,aU,h,mv,rs,ag⟩:fW) (hR t 0)) k),.box aT (cQ t aj ae ak) 32]) (bV [2,1,3,4,5,6,7]) ?_;refine fs (Mem [(a6,Fr bx),(w,an)] [.box b (nr t (⟨v51,lv,aU,h,mv,rs++[ro],ag⟩:fW)) 262]) [0,1,2,3,4,5,6,7,8,9,10,11,12] mixed (bV [0]) ?_;refine bI ?_;refine bL _ (h:=ix dm BC 70 2 24 (.agg #[.string ByteArray.empty,.int .i64 0]) (ab:=?_));intro v60 P1;rw[amw];refine aF (aP ?_) (bV [1]);refine bL _ (h:=eA fQ DW (e:=183) (sz:=2) (len:=1) (dF:=[(0,[v60,.int .i64 0])]) (ab:=?_));intro alH akf;refine aF ?_ (bV [2]);refine bL _ (h:=e6 5 (hm:=aL) (hok:=λy aR=>by rw[amv.1 aR];exact P1.one) (hk:=rfl) (bG:=by simp;omega) (ab:=?_));intro Dk P3;refine aF (bI ?_) (bV [2]);refine eG (λ_=>True) (h:=bD 2 (ab:=?_));refine aF (aP ?_) dx;refine af ?_;refine bt (k+1,v51,Dk,rs++[ro],ag++[(v60,0)]) ⟨dw,E3,P3,?_,?_,?_,?_⟩ (show t.code.length-(k+1)<t.code.length-k by omega) (hA:=λ_ hw=>?_)
  ·dsimp only;rw[ams,eP];rfl
  ·dsimp only;rw[ams,kU];rfl
  ·intro j ad;dsimp only at ad⊢;by_cases e:j<k
   ·rw[kA (by omega)];exact ig j e
   obtain rfl:j=rs.length:=by omega
   rw[oS];exact Cc
  ·intro j ad;dsimp only at ad⊢;by_cases e:j<k
   ·rw[kA (by omega)];exact jG j e
   obtain rfl:j=ag.length:=by omega
   rw[oS];exact⟨P1,rfl⟩
  have kF:=hw.cm (es:=[.own ro 169 8 cC (cj t k),.own v60 70 2 dm ((hR t 0).av.getD k default).ah]++(df (dJ (hQ t (⟨c,lv,aU,h,mv,rs,ag⟩:fW) (hR t 0)) k)::[.box b (nr t (⟨v51,lv,aU,Dk,mv,rs++[ro],ag++[(v60,0)]⟩:fW)) 262,.own v51 167 1 cD (rs++[ro]),.own Dk 183 2 fQ (ag++[(v60,0)]),.own mv 3 1 bd (al t).init,.box aT (cQ t aj ae ak) 32])) [3,1,7,2,4,5,6,8] (by rw[uy t 0 dw];rfl) (by decide);have hj:=ab7 (q':=(⟨v51,lv,aU,Dk,mv,rs++[ro],ag++[(v60,0)]⟩:fW)) kF eP kU rfl rfl;exact hj.cm [1,2,3,4,0,5]
 have dw:k=t.code.length:=by rw[ar]at h3;omega
 subst dw;refine af ?_;refine b9 (λj:Nat=>j<=t.init.length) (λj=>[(70,true,.int .i64 j),(69,true,.int .i64 t.init.length),(68,true,aj),(7,true,ax b)]) (λj=>Mem [(a6,Fr bx),(w,an)] [.box b (nr t (⟨c,lv,aU,h,mv,rs,ag⟩:fW)) 262,.own c 167 1 cD rs,.own h 183 2 fQ ag,.own mv 3 1 bd (al t).init,df (dJ (hQ t (⟨c,lv,aU,h,mv,rs,ag⟩:fW) (hR t j)) t.code.length)]) (λj=>t.init.length-j) 0 (amz _) ?_ ⟨rfl,rfl,rfl,rfl,trivial⟩ (bV [0,1,2,3,4])
 intro j ad;refine di (λaC=>?_) λaC=>?_
 ·have c5:j<t.init.length:=by rw[aq]at aC;omega
  have k5:(t.init.getD j default)∈t.init:=er c5;refine af ?_;refine dH λcW=>?_;refine c0 0 ?_;refine bA (λaW=>?_) λaW=>?_
  ·have oT:0<=(t.init.getD j default).aI:=by rw[aq]at aW;exact aW
   obtain⟨_,o1,_,⟨Jp,Jq⟩,_⟩:=G.vI k5 (by omega);obtain⟨fS,mA⟩:∃fS:Nat,(t.init.getD j default).aI=(fS:Int):=⟨(t.init.getD j default).aI.toNat,by omega⟩;have gY:fS<t.code.length:=by omega
   have Pd:=Cv t fS j ad;have Pc:=jG fS gY;refine af ?_;rw[mA];refine cJ (Mem [(a6,Fr bx),(w,an)] ([.own (rs.getD fS default) 169 8 cC (cj t fS),.own (ag.getD fS default).1 70 2 dm (p7 t fS j)]++(df (jC (hQ t (⟨c,lv,aU,h,mv,rs,ag⟩:fW) (hR t j)) t.code.length fS)::[.box cW (oO (t.init.getD j default)) 72,.box b (nr t (⟨c,lv,aU,h,mv,rs,ag⟩:fW)) 262,.own c 167 1 cD rs,.own h 183 2 fQ ag,.own mv 3 1 bd (al t).init]))) (λ_ mI=>?_) ?_
   ·have kF:=(mI.cm (es:=df (dJ (hQ t (⟨c,lv,aU,h,mv,rs,ag⟩:fW) (hR t j)) t.code.length)::[.box cW (oO (t.init.getD j default)) 72,.box b (nr t (⟨c,lv,aU,h,mv,rs,ag⟩:fW)) 262,.own c 167 1 cD rs,.own h 183 2 fQ ag,.own mv 3 1 bd (al t).init]) [5,0,1,2,3,4]).rm fS gY;unfold hQ at kF;rw[uy t j gY]at kF;exact kF
   refine cV [0,1,2,3,4,5,6,7,8,9,10,11,12,13,14] mixed ?_;refine bI ?_;rw[mA];refine bI ?_;refine eG (λ_=>True) (h:=fB 1 rfl (t.init.getD j default).value (ab:=?_));refine aF (aP ?_) dx;refine af ?_;refine bt (j+1) c5 (by omega) (hA:=λ_ mI=>?_);have hj:=Mem.wI (hQ t (⟨c,lv,aU,h,mv,rs,ag⟩:fW) (hR t (j+1))) fS (show Mem _ (hQ t (⟨c,lv,aU,h,mv,rs,ag⟩:fW) (hR t (j+1)) fS++(df (jC (hQ t (⟨c,lv,aU,h,mv,rs,ag⟩:fW) (hR t j)) t.code.length fS)::[.box cW (oO (t.init.getD j default)) 72,.box b (nr t (⟨c,lv,aU,h,mv,rs,ag⟩:fW)) 262,.own c 167 1 cD rs,.own h 183 2 fQ ag,.own mv 3 1 bd (al t).init])) _ by unfold hQ;rw[uy t (j+1) gY,yq t fS c5,amo mA];exact mI) gY λi hi dC=>QZ c5 hi (by omega)
   exact hj.cm [2,3,4,5,0]
  have oT:¬0<=(t.init.getD j default).aI:=by rw[ar]at aW;exact aW
  refine af ?_;refine bt (j+1) c5 (by omega) (hA:=λ_ mI=>?_);rw[show dJ (hQ t (⟨c,lv,aU,h,mv,rs,ag⟩:fW) (hR t (j+1))) t.code.length=dJ (hQ t (⟨c,lv,aU,h,mv,rs,ag⟩:fW) (hR t j)) t.code.length from xS λi hi=>QZ c5 hi (by omega)];exact mI.tail
 have c5:j=t.init.length:=by rw[ar]at aC;omega
 subst c5;refine af ?_;refine J7 rfl (.tmp rfl (.t1 rfl)) ds ?_;intro I hw;rw[Rh]at hw;have kF:Mem [(a6,Fr bx),(w,an)] (ko b t (⟨c,lv,aU,h,mv,rs,ag⟩:fW) (iO t (al t))) I:=hw;refine⟨ko b t (⟨c,lv,aU,h,mv,rs,ag⟩:fW) (iO t (al t)),.inr ⟨h1,b,(⟨c,lv,aU,h,mv,rs,ag⟩:fW),rfl,rfl,⟨ai,lB,st,eO,kj,eP,kU,ig,λk hk=>⟨(jG k hk).1,by rw[show(iO t (al t)).av.getD k default=⟨yt t k,0⟩from s7 hk];exact(jG k hk).2⟩⟩,?_,?_⟩,kF.one ds⟩
 ·have:=Tw kF fu.bb aL fk λ_ h=>h;rwa[lq h1]at this
 have:=Tw kF fu.cw aL fk λ_ h=>h;rwa[show(al t).cw=bk t by rw[uM h1]]at this
end Go.Proofs.bK
