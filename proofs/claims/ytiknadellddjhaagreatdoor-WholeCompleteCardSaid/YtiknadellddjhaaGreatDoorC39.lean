/- Lemmas for the law WholeComplete. -/
import Derived.Test.YtiknadellddjhaaGreatDoorC38
set_option linter.all false
open Go.Proofs.Tryz
set_option maxHeartbeats 12800000
open Go Go.b9 Go.bM Go.gG Go.fo
attribute [local irreducible] Go.wpList Go.Code.wp Go.bodyPost Go.Exit.then Go.Exit.inBlock Go.Calls
namespace Go.Proofs.bA
theorem oY.rG{b:Nat}{t:aV}{q:gd}{m:cD}{bs:List dm}{w:World}(ok:s4 t q m)(hw:Mem bs (kG b t q m) w)(aL:aZ al w dU 1 q.ak (cc t))(aJ:aZ al w eH 3 q.aT (br t)):oY al w b t q m:=oY.of (H:=[]) ok (by rw[aoH];exact hw) aL aJ
theorem ads{bs:List dm}{w:World}{b:Nat}{t:aV}{q:gd}{m m':cD}{k:Nat}{cQ:Value}{x:hJ}(hk:k<t.code.length)(ok:s4 t q m)(eo:aD cQ)(aL:m.aw.length=t.code.length)(aJ:m'.aw=m.aw.set k x) (hw:Mem bs [.own cQ 70 2 dy x.ag,.box b (nK t q) 262,.own q.ad 167 1 ct q.vs,.own q.ax 183 2 gM (q.aj.set k (cQ,x.at')),.own q.bR 3 1 a7 m'.mem,dj (dQ (hT t q m) t.code.length)] w): Mem bs (kG b t {q with aj:=q.aj.set k (cQ,x.at')} m') w/\s4 t {q with aj:=q.aj.set k (cQ,x.at')} m':=by
 have sj:∀j,m'.aw.getD j default=if j=k then x else m.aw.getD j default:=λj=>by
  rw[aJ,fU,aL];by_cases e:j=k
  ·rw[aou ⟨e.symm,by omega⟩,aou e]
  rw[aot λg=>e g.1.symm,aot e]
 have yH:∀j,j<t.code.length->(q.aj.set k (cQ,x.at')).getD j default=if j=k then(cQ,x.at')else q.aj.getD j default:=λj ae=>by
  rw[fU,ok.aL];by_cases e:j=k
  ·rw[aou ⟨e.symm,ae⟩,aou e]
  rw[aot λg=>e g.1.symm,aot e]
 constructor
 ·have h1:=(hw.cC (es:=dj (dQ (hT t q m) t.code.length)::[.own cQ 70 2 dy x.ag,.box b (nK t q) 262,.own q.ad 167 1 ct q.vs,.own q.ax 183 2 gM (q.aj.set k (cQ,x.at')),.own q.bR 3 1 a7 m'.mem]) [5,0,1,2,3,4]).sE k hk;have h2:Mem bs (hT t {q with aj:=q.aj.set k (cQ,x.at')} m' k++(dj (jQ (hT t q m) t.code.length k)::[.box b (nK t q) 262,.own q.ad 167 1 ct q.vs,.own q.ax 183 2 gM (q.aj.set k (cQ,x.at')),.own q.bR 3 1 a7 m'.mem])) w:=by unfold hT;dsimp only;rw[sj k,aou rfl,yH k hk,aou rfl];exact h1.cC [0,3,2,4,5,6,7]
  have h3:=h2.xd (hT t {q with aj:=q.aj.set k (cQ,x.at')} m') k hk λj ae dS=>by unfold hT;dsimp only;rw[sj j,aot dS,yH j ae,aot dS]
  exact h3.cC [1,2,3,4,0]
 obtain⟨s1,s2,cJ,dw,dk,gO,lx,iA,j6⟩:=ok;refine⟨s1,s2,cJ,dw,dk,gO,by rw[<-lx];exact aoU,iA,λj ae=>?_⟩;dsimp only;rw[yH j ae,sj j];by_cases e:j=k
 ·rw[aou e,aou e];exact⟨eo,rfl⟩
 rw[aot e,aot e];exact j6 j ae
theorem vz{x:k4}{fi:Int}{dV:ByteArray}{aG fa gm:Int}(h:rm x=hM fi dV aG fa gm):match x with
 | .no=>fi=1
 | .rd l r=>fi=2/\dV=l/\fa=r
 | .wr l v=>fi=3/\dV=l/\aG=v
 | .o7 f=>fi=4/\gm=f:=by
 cases x<;>(unfold rm hM at h;simp only[aqT,Value.int.injEq,Value.string.injEq,and_true,true_and]at h)
 ·exact h.1.symm
 ·exact⟨h.1.symm,h.2.1.symm,h.2.2.2.1.symm⟩
 ·exact⟨h.1.symm,h.2.1.symm,h.2.2.1.symm⟩
 exact⟨h.1.symm,h.2.2.2.2.symm⟩
theorem ahR(aC:Int)(r:List eh)(d:Int)(v:eh):(fM aC r d v).length=r.length:=by unfold fM;split<;>simp
theorem G4{t:aV}(aJ:dI t=0){m:cD}{log:List Nat}{df:Nat->List Nat}(M:kL t m log df){k:Nat}(hk:k<t.code.length)(dR:(m.aw.getD k default).at'<(cr t k).length):(stepT t k (m.aw.getD k default)).1.ag.length=cn t.aC/\match(stepT t k (m.aw.getD k default)).2 with
 | .rd s r=>s∈cc t/\0<=r/\r<cn t.aC
 | .wr s _=>s∈cc t
 | _=>True:=by
 obtain⟨c5,kE⟩:=(ns aJ hk).1;obtain⟨s,T⟩:=M.aw k hk;obtain⟨C,h0,_⟩:=qt aJ hk;have vT:=BA (kS aJ) hk kE T.rd T.tm dR;unfold pz at vT;rcases hx:(stepT t k (m.aw.getD k default)).2 with _ | ⟨s1,r⟩ | ⟨s1,v⟩ | f
 ·rw[hx]at vT;obtain⟨_,_,s',cj,_,_,bL⟩:=vT;exact⟨bL.len.trans (cj.ok C h0).lW,trivial⟩
 ·rw[hx]at vT;obtain⟨lN,_,s',cj,he,_,bL⟩:=vT;have h1:=(bL 0 (by decide)).len;dsimp only at h1;rw[ahR]at h1;refine⟨h1.trans (cj.ok C h0).lW,lN,?_⟩;exact((cj.ok C h0).J _ (by rw[he];exact aoG.2 (.inr (aoB.2 rfl)))).bo
 ·rw[hx]at vT;obtain⟨lN,_,_,s',cj,_,_,bL⟩:=vT;exact⟨bL.len.trans (cj.ok C h0).lW,lN⟩
 rw[hx]at vT;obtain⟨_,_,_,s',cj,_,_,bL⟩:=vT;exact⟨bL.len.trans (cj.ok C h0).lW,trivial⟩
def V0(b:Nat)(t:aV)(q:gd)(m:cD):Nat->Value->List aB->World->Prop:=λ_ _ es _=>∃qQ,es=kG b t {q with aj:=qQ} m/\s4 t {q with aj:=qQ} m
theorem adq{b:Nat}{t:aV}{q:gd}{m:cD}(w:World)(aJ:dI t=0){log:List Nat}{df:Nat->List Nat}(M:kL t m log df)(ok:s4 t q m)(k:Nat)(hk:k<t.code.length)(dR:(m.aw.getD k default).at'<(cr t k).length)(hc:m.cW.getD k default=[]) (c0:aZ (bJ (kG b t q m)) w dU 1 q.ak (cc t)) (jS:aZ (bJ (kG b t q m)) w eH 3 q.aT (br t)) (hw:Mem [] (kG b t q m) w): eY prog 164 [av b,.int .i64 k] (kG b t q m) w (V0 b t q (eU t (ar t) false m k)):=by
 have G:=kS aJ;have hs:=DV (xS t);have ly:=G.wE;have jg:=M.nL;rw[lR aJ]at jg;obtain⟨hok,a1⟩:=M.zu aJ hk;obtain⟨dB,kB,_⟩:=ail (t:=t) hc;rw[lR aJ]at dB kB;have lx:=ok.aL;obtain⟨ep,tz⟩:=G4 aJ M hk dR;obtain⟨fi,dV,aG,fa,gm,dW⟩:=w7 (stepT t k (m.aw.getD k default)).2;refine j3 func164 ntmps164 hw ?_;refine aq (gi (λI hw=>adm I (oY.rG ok hw (hw.now c0) (hw.now jS)) aJ M k hk dR) ?_);rintro ua bx es bc ⟨cQ,fu,rfl,rfl⟩;rw[dW];refine af ?_;refine ei λcO=>?_;refine ei λec=>?_;refine c7 1 ?_;refine c7 0 ?_;refine cA (Mem [(w,bJ (kG b t q m))] [.box ec (hM fi dV aG fa gm) 256,.box cO [cQ,.int .i64 (stepT t k (m.aw.getD k default)).1.at'] 183,.own cQ 70 2 dy (stepT t k (m.aw.getD k default)).1.ag,.box b (nK t q) 262,.own q.ad 167 1 ct q.vs,.own q.ax 183 2 gM q.aj,.own q.bR 3 1 a7 m.mem,dj (dQ (hT t q m) t.code.length)]) ek ?_;refine cz [0,1,2,3,4,5,6,7,8,9,10,11] mixed ?_;refine bQ ?_;refine bO _ (h:=hq (bb:=λI hw=>yd q.ak dV (cc t) I (hw.now c0) hs (by omega)) (ab:=?_));rintro ajv ck bY ⟨j,WD,rfl,yX⟩ eZ;refine aF (aN ?_) ek;refine cA _ ek (af ?_);refine w0 (λz:hJ×List Int=>(eU t (ar t) false m k).aw=m.aw.set k z.1/\(eU t (ar t) false m k).mem=z.2) (λz=>[(4,true,av cO),(1,true,.int .i64 k),(0,true,av b)]) (λz=>Mem [(w,bJ (kG b t q m))] [.box cO [cQ,.int .i64 z.1.at'] 183,.own cQ 70 2 dy z.1.ag,.box b (nK t q) 262,.own q.ad 167 1 ct q.vs,.own q.ax 183 2 gM q.aj,.own q.bR 3 1 a7 z.2,dj (dQ (hT t q m) t.code.length)]) ?_ ?_
 ·rcases hx:(stepT t k (m.aw.getD k default)).2 with _ | ⟨s,r⟩ | ⟨s,v⟩ | f
  ·rw[hx]at dW dB kB;have ix:fi=1:=vz dW;subst ix;refine cM rfl (λh=>by rw[an]at h;omega) λ_=>?_;refine af ?_;refine cM rfl (λh=>by rw[an]at h;omega) λ_=>?_;refine af ?_;exact b6 ((stepT t k (m.aw.getD k default)).1,m.mem) ⟨dB,kB⟩ (hA:=iR)
  ·rw[hx]at dW dB kB tz;have ix:fi=2/\dV=s/\fa=r:=vz dW;obtain⟨rfl,rfl,rfl⟩:=ix;obtain⟨eS,Qw,Fx⟩:=tz;obtain rfl:=xP hs eS yX;have dq:=qi eS;refine cM rfl (λ_=>?_) (λh=>by rw[au]at h;exact absurd rfl h);refine af ?_;refine cz [0,1,2,3,4,5,6,7,8,9,10] mixed ?_;refine bQ ?_;refine cA (Mem [(w,bJ (kG b t q m))] (mh cO cQ (stepT t k (m.aw.getD k default)).1.at' (stepT t k (m.aw.getD k default)).1.ag++[.box b (nK t q) 262,.own q.ad 167 1 ct q.vs,.own q.ax 183 2 gM q.aj,.own q.bR 3 1 a7 m.mem,dj (dQ (hT t q m) t.code.length)])) iR ?_;refine eP (λ_=>True) (h:=eB (es:=mh cO cQ (stepT t k (m.aw.getD k default)).1.at' (stepT t k (m.aw.getD k default)).1.ag) (bb:=λI hw=>RV cO cQ _ _ fa _ I fu (by omega) (hw.ta aP) hw.dt.ew) (ab:=?_));rintro GC hj es fW rfl;refine aF (aN ?_) dz;refine af ?_;exact b6 (⟨fM t.aC (stepT t k (m.aw.getD k default)).1.ag fa ⟨bg,m.mem.getD (dr (cc t) dV) default⟩,(stepT t k (m.aw.getD k default)).1.at'⟩,m.mem) ⟨dB,kB⟩
  ·rw[hx]at dW dB kB tz;have ix:fi=3/\dV=s/\aG=v:=vz dW;obtain⟨rfl,rfl,rfl⟩:=ix;obtain rfl:=xP hs tz yX;have dq:=qi tz;refine cM rfl (λh=>by rw[an]at h;omega) λ_=>?_;refine af ?_;refine cM rfl (λ_=>?_) (λh=>by rw[au]at h;exact absurd rfl h);refine af ?_;refine cz [0,1,2,3,4,5,6,7,8] mixed ?_;refine bQ ?_;refine gw (h:=fq 6 rfl aG (ab:=af ?_));exact b6 ((stepT t k (m.aw.getD k default)).1,m.mem.set (dr (cc t) dV) aG) ⟨dB,kB⟩ (hA:=iR)
  rw[hx]at dW dB kB;have ix:fi=4/\gm=f:=vz dW;obtain⟨rfl,_⟩:=ix;refine cM rfl (λh=>by rw[an]at h;omega) λ_=>?_;refine af ?_;refine cM rfl (λh=>by rw[an]at h;omega) λ_=>?_;refine af ?_;exact b6 ((stepT t k (m.aw.getD k default)).1,m.mem) ⟨dB,kB⟩ (hA:=iR)
 rintro⟨x,amD⟩ ⟨C3,C4⟩;dsimp only at C3 C4⊢;subst C4;refine af ?_;refine cz [0,1,2,3,4,5,6,7] mixed ?_;refine bQ ?_;refine gw (h:=fq 4 rfl (cQ,x.at') (h1:=.cons fu.one (.cons rfl .nil)) (ab:=af ?_));refine u1 rfl .nil aP ?_;intro I qe;obtain⟨g1,g2⟩:=ads hk ok fu M.lH C3 (qe.cC [1,2,3,4,5,6]);exact⟨_,⟨_,rfl,g2⟩,g1⟩
def qf(t:aV)(k j:Nat):List eh:=(t.init.take j).foldl (λl x=>if x.aH=(k:Int)then l.set x.bo.toNat x.value else l) (List.replicate (cn t.aC) gL)
theorem y4(t:aV)(k:Nat){j:Nat}(ae:j<t.init.length):qf t k (j+1)=if(t.init.getD j default).aH=(k:Int)then(qf t k j).set (t.init.getD j default).bo.toNat (t.init.getD j default).value else qf t k j:=by unfold qf;rw[apn,getD_some ae,ap9];rfl
theorem C9(t:aV)(k:Nat):∀j,j<=t.init.length->(qf t k j).length=cn t.aC
 | 0,_=>by unfold qf;simp
 | j+1,h=>by
  rw[y4 t k (by omega)];split
  ·rw[aoU,C9 t k j (by omega)]
  exact C9 t k j (by omega)
def hU(t:aV)(j:Nat):cD:={iY t (ar t)with aw:=(List.range t.code.length).map λk=>⟨qf t k j,0⟩}
theorem Sd(t:aV):hU t t.init.length=iY t (ar t):=by unfold hU iY qf y5;rw[aoZ]
theorem u0(t:aV)(j:Nat){k:Nat}(hk:k<t.code.length):(hU t j).aw.getD k default=⟨qf t k j,0⟩:=tp hk
theorem Ur{aX:Type}{n m:Nat}{B w:World}{bs:List dm}{H:List aB}{enc:aX->List Value}{sz:Nat}{v:Value}{xs:List aX}{es:List aB}[he:eg enc sz](hw:Mem bs H w)(h:aZ (Fr n) B enc sz v xs)(hB:(B,Fr n)∈bs)(hm:m<=n)(kU:∀e,e∈es->e∈H):aZ (jK m es) w enc sz v xs:=h.mono (hw.base _ hB) (λk hk cG=>⟨ao5 hm cG,hw.Dr hB kU k hk cG⟩) λx _=>he.ne x
theorem adr{bs:List dm}{H:List aB}{w:World}{t:aV}{q q':gd}{m:cD}{k:Nat}{ro aE:Value}{a:Nat}(hw:Mem bs ([.own ro 169 8 cL (cr t k),.own aE 70 2 dy (m.aw.getD k default).ag]++(dj (dQ (hT t q m) k)::H)) w) (h1:q.vs.length=k) (h2:q.aj.length=k) (bu:q'.vs=q.vs++[ro]) (b2:q'.aj=q.aj++[(aE,a)]):Mem bs (dj (dQ (hT t q' m) (k+1))::H) w:=by
 have h3:dQ (hT t q' m) k=dQ (hT t q m) k:=yq λj ae=>by unfold hT;rw[bu,b2,kR (by omega),kR (by omega)]
 refine Mem.Gd ?_;rw[h3];have aA:hT t q' m k=[.own ro 169 8 cL (cr t k),.own aE 70 2 dy (m.aw.getD k default).ag]:=by
  unfold hT;have g1:q'.vs.getD k default=ro:=by rw[bu,<-h1,o9]
  have g2:q'.aj.getD k default=(aE,a):=by rw[b2,<-h2,o9]
  rw[g1,g2]
 rw[aA];exact hw
theorem RW{t:aV}{q:gd}{j:Nat}(ae:j<t.init.length){k:Nat}(hk:k<t.code.length)(h:¬(t.init.getD j default).aH=(k:Int)):hT t q (hU t (j+1)) k=hT t q (hU t j) k:=by unfold hT;rw[u0 t _ hk,u0 t _ hk,y4 t k ae,aot h]
def VY(t:aV):Nat->Value->List aB->World->Prop:=λn v es I=>(dI t≠0/\v=.tuple #[.pointer none,.int .i64 (dI t)]/\es=[])\/ (dI t=0/\∃b q,v=.tuple #[av b,.int .i64 0]/\es=kG b t q (iY t (ar t))/\s4 t q (iY t (ar t))/\aZ (jK n es) I dU 1 q.ak (cc t)/\aZ (jK n es) I eH 3 q.aT (br t))
theorem adl(t:aV)(ah ad ao:Value)(vs:List Value)(w:World)(bL:gW al w ah ad ao vs t):en prog 83 [.agg (c6 t ah ad ao).toArray] w (VY t):=by
 obtain⟨s1,s2,cJ⟩:=bL.jY;have vV:=bL.nX;have iv:=bL.nA;have hle:=iv.le;refine Ag func83 ntmps83 ?_;refine e4 λaQ=>?_;refine aq (bp (λI hw=>(My t ah ad ao vs I (bL.now hw)).size (hw.sz aP)) ?_);rintro v bx bc ⟨⟨ak,vd,aI,bv,aG,aR,um,aT,bj,Kk,rfl,⟨ps,tX,rN,eX,fe,q4,lF,st,rP⟩,hN⟩,fA⟩ cu;refine af ?_;refine ei λW5=>?_;refine aq (bK 0 (h1:=.cons ps.one (.cons tX.one (.cons rN.one (.cons eX.one (.cons fe.one (.cons q4.one (.cons lF.one (.cons st.one (.cons rP.one .nil))))))))) (ab:=af ?_));refine bC (λh1=>?_) λh1=>?_
 ·rw[aoq,au]at h1;refine af ?_;exact et rfl (.tmp rfl (.t1 rfl)) [] [] λI hw=>.inl ⟨h1,rfl,rfl⟩
 rw[aos,an]at h1;have hN:=hN h1;have G:=kS h1;have fs:=hN.init;have gJ:=AP (kr h1);rw[lR h1]at gJ;have ly:=G.wE;have nF:=G.n16;have Z5:=bL.init;have Jg:=G.AO;refine af ?_;refine cz [0,1,2,3,4,5,6,7,8,9,10,11] mixed ?_;refine bQ ?_;refine bO _ (h:=gI (bb:=λI hw=>Bw vd (ar t).init I (hw.now fs) (by omega)) (ab:=?_));rintro bR ck es bY ⟨kC,rfl⟩;refine aF (aN ?_) λ_ h=>h.cX.tail;refine bO _ (h:=ru ?_);intro b;refine aF (aN ?_) λ_ h=>h.cX.tail.tail;refine af ?_;refine ih (λ_:Unit=>True) (λ_=>[(8,true,.int .i64 (cn t.aC:Nat)),(7,true,av b),(1,true,av aQ)]) (λ_=>Mem [(bc,Fr bx),(w,al)] [.box b (nK t (⟨aa,ak,aT,aa,bR,[],[]⟩:gd)) 262,.own aa 167 1 ct [],.own aa 183 2 gM [],.own bR 3 1 a7 (ar t).init,dj (dQ (hT t (⟨aa,ak,aT,aa,bR,[],[]⟩:gd) (hU t 0)) 0),.box aQ (c6 t ah ad ao) 32]) ?_ ?_
 ·refine ea 167 1 ct ?_;refine ea 183 2 gM ?_;refine cA (Mem [(bc,Fr bx),(w,al)] [.box b (nK t (⟨aa,ak,aT,aa,bR,[],[]⟩:gd)) 262,.own aa 167 1 ct [],.own aa 183 2 gM [],.own bR 3 1 a7 (ar t).init,dj (dQ (hT t (⟨aa,ak,aT,aa,bR,[],[]⟩:gd) (hU t 0)) 0),.box aQ (c6 t ah ad ao) 32]) (λ_ h=>(Mem.Gf _ h.cX).cC [3,2,1,4,0,6]) ?_;refine bC (λh2=>?_) λh2=>?_
  ·rw[an]at h2;refine af ?_;exact b6 () trivial ⟨by unfold cn;rw[aou h2];rfl,rfl,rfl,trivial⟩ λ_ h=>h
  rw[au]at h2;refine af ?_;exact b6 () trivial ⟨by unfold cn;rw[aot h2];rfl,rfl,rfl,trivial⟩ λ_ h=>h
 rintro⟨⟩ _;have JG:cn t.aC<=32:=by unfold cn;split<;>omega
 refine af ?_;refine bX (λz:Nat×Value×Value×List Value×List (Value×Nat)=>z.1<=t.code.length/\aD z.2.1/\aD z.2.2.1/\z.2.2.2.1.length=z.1/\z.2.2.2.2.length=z.1/\(∀k,k<z.1->aD (z.2.2.2.1.getD k default))/\∀k,k<z.1->aD (z.2.2.2.2.getD k default).1/\(z.2.2.2.2.getD k default).2=0) (λz=>[(39,true,.int .i64 z.1),(38,true,.int .i64 vs.length),(37,true,ad),(8,true,.int .i64 (cn t.aC:Nat)),(7,true,av b),(1,true,av aQ)]) (λz=>Mem [(bc,Fr bx),(w,al)] [.box b (nK t (⟨z.2.1,ak,aT,z.2.2.1,bR,z.2.2.2.1,z.2.2.2.2⟩:gd)) 262,.own z.2.1 167 1 ct z.2.2.2.1,.own z.2.2.1 183 2 gM z.2.2.2.2,.own bR 3 1 a7 (ar t).init,dj (dQ (hT t (⟨z.2.1,ak,aT,z.2.2.1,bR,z.2.2.2.1,z.2.2.2.2⟩:gd) (hU t 0)) z.1),.box aQ (c6 t ah ad ao) 32]) (λz=>t.code.length-z.1) (0,aa,aa,[],[]) ⟨aoD _,cU,cU,rfl,rfl,λ_ h=>absurd h (apw _),λ_ h=>absurd h (apw _)⟩ ?_
 rintro⟨k,c,h,rs,aj⟩ ⟨hk,ai,eC,ep,lx,iz,j6⟩;dsimp only at hk ai eC ep lx iz j6⊢;refine dp (λh3=>?_) λh3=>?_
 ·have dE:k<t.code.length:=by rw[an]at h3;omega
  have pK:=bL.code k (by omega);have aaO:=G.len _ (eN dE);have aaP:=pK.aK;refine af ?_;refine fw (Mem [(bc,Fr bx),(w,al)] [.box b (nK t (⟨c,ak,aT,h,bR,rs,aj⟩:gd)) 262]) [0,1,2,3,4,5,6,7,8,9,10,11] mixed (b4 [0]) ?_;refine bQ ?_;refine bO _ (h:=gI (bb:=λI hw=>Uq _ _ I (hw.now pK) (by omega)) (ab:=?_));rintro ro hj es fW ⟨CP,rfl⟩;refine aF ?_ λ_ h=>h.cX.cC [1];refine cA _ ek ?_;refine bO _ (h:=eI (enc:=ct) (dec:=kv) (e:=167) (sz:=1) (len:=1) (dM:=[(0,[ro])]) (ab:=?_));intro v50 QU;refine aF ?_ (b4 [2]);refine bO _ (h:=e6 3 (hm:=aP) (hok:=λy aY=>by rw[aoB.1 aY];exact CP.one) (hk:=rfl) (bH:=by simp;omega) (ab:=?_));intro v51 FD;refine aF (bQ ?_) (b4 [2]);refine eP (λ_=>True) (h:=bK 2 (ab:=?_));refine aF (aN ?_) dz;refine af ?_;refine cA (Mem [(bc,Fr bx),(w,al)] [.box b (nK t (⟨v51,ak,aT,h,bR,rs++[ro],aj⟩:gd)) 262,.own ro 169 8 cL (t.code.getD k default),.own v51 167 1 ct (rs++[ro]),.own h 183 2 gM aj,.own bR 3 1 a7 (ar t).init,dj (dQ (hT t (⟨c,ak,aT,h,bR,rs,aj⟩:gd) (hU t 0)) k),.box aQ (c6 t ah ad ao) 32]) (b4 [2,1,3,4,5,6,7]) ?_;refine fw (Mem [(bc,Fr bx),(w,al)] [.box b (nK t (⟨v51,ak,aT,h,bR,rs++[ro],aj⟩:gd)) 262]) [0,1,2,3,4,5,6,7,8,9,10,11,12] mixed (b4 [0]) ?_;refine bQ ?_;refine bO _ (h:=gC dy EB 70 2 24 (.agg #[.string ByteArray.empty,.int .i64 0]) (ab:=?_));intro v60 QV;rw[aoF];refine aF (aN ?_) (b4 [1]);refine bO _ (h:=eI (enc:=gM) (dec:=H6) (e:=183) (sz:=2) (len:=1) (dM:=[(0,[v60,.int .i64 0])]) (ab:=?_));intro anO al5;refine aF ?_ (b4 [2]);refine bO _ (h:=e6 5 (hm:=aP) (hok:=λy aY=>by rw[aoB.1 aY];exact QV.one) (hk:=rfl) (bH:=by simp;omega) (ab:=?_));intro DY QX;refine aF (bQ ?_) (b4 [2]);refine eP (λ_=>True) (h:=bK 2 (ab:=?_));refine aF (aN ?_) dz;refine af ?_;refine bm (k+1,v51,DY,rs++[ro],aj++[(v60,0)]) ⟨dE,FD,QX,?_,?_,?_,?_⟩ (show t.code.length-(k+1)<t.code.length-k by omega) (hA:=λ_ hw=>?_)
  ·dsimp only;rw[aoy,ep];rfl
  ·dsimp only;rw[aoy,lx];rfl
  ·intro j ae;dsimp only at ae⊢;by_cases e:j<k
   ·rw[kR (by omega)];exact iz j e
   obtain rfl:j=rs.length:=by omega
   rw[o9];exact CP
  ·intro j ae;dsimp only at ae⊢;by_cases e:j<k
   ·rw[kR (by omega)];exact j6 j e
   obtain rfl:j=aj.length:=by omega
   rw[o9];exact⟨QV,rfl⟩
  have kV:=hw.cC (es:=[.own ro 169 8 cL (cr t k),.own v60 70 2 dy ((hU t 0).aw.getD k default).ag]++(dj (dQ (hT t (⟨c,ak,aT,h,bR,rs,aj⟩:gd) (hU t 0)) k)::[.box b (nK t (⟨v51,ak,aT,DY,bR,rs++[ro],aj++[(v60,0)]⟩:gd)) 262,.own v51 167 1 ct (rs++[ro]),.own DY 183 2 gM (aj++[(v60,0)]),.own bR 3 1 a7 (ar t).init,.box aQ (c6 t ah ad ao) 32])) [3,1,7,2,4,5,6,8] (by rw[u0 t 0 dE];rfl) (by decide);have ht:=adr (q':=(⟨v51,ak,aT,DY,bR,rs++[ro],aj++[(v60,0)]⟩:gd)) kV ep lx rfl rfl;exact ht.cC [1,2,3,4,0,5]
 have dE:k=t.code.length:=by rw[au]at h3;omega
 subst dE;refine af ?_;refine bX (λj:Nat=>j<=t.init.length) (λj=>[(70,true,.int .i64 j),(69,true,.int .i64 t.init.length),(68,true,ah),(7,true,av b)]) (λj=>Mem [(bc,Fr bx),(w,al)] [.box b (nK t (⟨c,ak,aT,h,bR,rs,aj⟩:gd)) 262,.own c 167 1 ct rs,.own h 183 2 gM aj,.own bR 3 1 a7 (ar t).init,dj (dQ (hT t (⟨c,ak,aT,h,bR,rs,aj⟩:gd) (hU t j)) t.code.length)]) (λj=>t.init.length-j) 0 (aoD _) ?_ ⟨rfl,rfl,rfl,rfl,trivial⟩ (b4 [0,1,2,3,4])
 intro j ae;refine dp (λaA=>?_) λaA=>?_
 ·have da:j<t.init.length:=by rw[an]at aA;omega
  have lB:(t.init.getD j default)∈t.init:=eN da;refine af ?_;refine ei λcZ=>?_;refine c7 0 ?_;refine bC (λa6=>?_) λa6=>?_
  ·have mB:0<=(t.init.getD j default).aH:=by rw[an]at a6;exact a6
   obtain⟨_,pe,_,⟨J3,J4⟩,_⟩:=G.xL lB (by omega);obtain⟨fY,mZ⟩:∃fY:Nat,(t.init.getD j default).aH=(fY:Int):=⟨(t.init.getD j default).aH.toNat,by omega⟩;have hg:fY<t.code.length:=by omega
   have P7:=C9 t fY j ae;have P6:=j6 fY hg;refine af ?_;rw[mZ];refine cA (Mem [(bc,Fr bx),(w,al)] ([.own (rs.getD fY default) 169 8 cL (cr t fY),.own (aj.getD fY default).1 70 2 dy (qf t fY j)]++(dj (jQ (hT t (⟨c,ak,aT,h,bR,rs,aj⟩:gd) (hU t j)) t.code.length fY)::[.box cZ (o6 (t.init.getD j default)) 72,.box b (nK t (⟨c,ak,aT,h,bR,rs,aj⟩:gd)) 262,.own c 167 1 ct rs,.own h 183 2 gM aj,.own bR 3 1 a7 (ar t).init]))) (λ_ nf=>?_) ?_
   ·have kV:=(nf.cC (es:=dj (dQ (hT t (⟨c,ak,aT,h,bR,rs,aj⟩:gd) (hU t j)) t.code.length)::[.box cZ (o6 (t.init.getD j default)) 72,.box b (nK t (⟨c,ak,aT,h,bR,rs,aj⟩:gd)) 262,.own c 167 1 ct rs,.own h 183 2 gM aj,.own bR 3 1 a7 (ar t).init]) [5,0,1,2,3,4]).sE fY hg;unfold hT at kV;rw[u0 t j hg]at kV;exact kV
   refine cz [0,1,2,3,4,5,6,7,8,9,10,11,12,13,14] mixed ?_;refine bQ ?_;rw[mZ];refine bQ ?_;refine eP (λ_=>True) (h:=fq 1 rfl (t.init.getD j default).value (ab:=?_));refine aF (aN ?_) dz;refine af ?_;refine bm (j+1) da (by omega) (hA:=λ_ nf=>?_);have ht:=Mem.xd (hT t (⟨c,ak,aT,h,bR,rs,aj⟩:gd) (hU t (j+1))) fY (show Mem _ (hT t (⟨c,ak,aT,h,bR,rs,aj⟩:gd) (hU t (j+1)) fY++(dj (jQ (hT t (⟨c,ak,aT,h,bR,rs,aj⟩:gd) (hU t j)) t.code.length fY)::[.box cZ (o6 (t.init.getD j default)) 72,.box b (nK t (⟨c,ak,aT,h,bR,rs,aj⟩:gd)) 262,.own c 167 1 ct rs,.own h 183 2 gM aj,.own bR 3 1 a7 (ar t).init])) _ by unfold hT;rw[u0 t (j+1) hg,y4 t fY da,aou mZ];exact nf) hg λi hi dS=>RW da hi (by omega)
   exact ht.cC [2,3,4,5,0]
  have mB:¬0<=(t.init.getD j default).aH:=by rw[au]at a6;exact a6
  refine af ?_;refine bm (j+1) da (by omega) (hA:=λ_ nf=>?_);rw[show dQ (hT t (⟨c,ak,aT,h,bR,rs,aj⟩:gd) (hU t (j+1))) t.code.length=dQ (hT t (⟨c,ak,aT,h,bR,rs,aj⟩:gd) (hU t j)) t.code.length from yq λi hi=>RW da hi (by omega)];exact nf.tail
 have da:j=t.init.length:=by rw[au]at aA;omega
 subst da;refine af ?_;refine KR rfl (.tmp rfl (.t1 rfl)) dg ?_;intro I hw;rw[Sd]at hw;have kV:Mem [(bc,Fr bx),(w,al)] (kG b t (⟨c,ak,aT,h,bR,rs,aj⟩:gd) (iY t (ar t))) I:=hw;refine⟨kG b t (⟨c,ak,aT,h,bR,rs,aj⟩:gd) (iY t (ar t)),.inr ⟨h1,b,(⟨c,ak,aT,h,bR,rs,aj⟩:gd),rfl,rfl,⟨ai,ps,st,eC,kC,ep,lx,iz,λk hk=>⟨(j6 k hk).1,by rw[show(iY t (ar t)).aw.getD k default=⟨y5 t k,0⟩from tp hk];exact(j6 k hk).2⟩⟩,?_,?_⟩,kV.one dg⟩
 ·have:=Ur kV hN.aO aP fA λ_ h=>h;rwa[lR h1]at this
 have:=Ur kV hN.cf aP fA λ_ h=>h;rwa[show(ar t).cf=br t by rw[vf h1]]at this
end Go.Proofs.bA
