/- Lemmas for the law WholeSound. -/
import Derived.Test.YtiknadellddjhaaGreatDoorS42
set_option linter.all false
open Go.Proofs.Tryz
set_option maxHeartbeats 12800000
open Go Go.cc Go.bU
namespace Go.Proofs.bK
attribute [local irreducible] wpList Code.wp bodyPost Exit.then Exit.inBlock Calls
def Mw(r:oG)(s':b6)(gj:Bool)(lS yy:Int):Prop:=(r=.hg/\gj=true/\lS=yy)\/∃ou:Nat,r=.go s' ou/\gj=false/\lS=(ou:Int)
theorem ae9(t:aM)(g:l2)(k a:Nat)(z:im)(s:b6)(j:Nat)(w:World)(ok:ku g z)(C:lG (ek t k a))(S:gy (ek t k a) s j)(ad:j<(t.code.getD k default).length)(eE:(t.code.getD k default).length<=256)(i:Instr)(hi:(t.code.getD k default).getD j default=i)(bm:i.op=11)(tP:Value)(cN:Nat)(oW:cN=np (t.code.getD k default) j) (b8:aV an w gi 4 z.rg (s.ah.map (bW a))) (hC:aV an w cC 8 tP (t.code.getD k default)): bj prog 119 [.agg (gp t g (k:Int) z (s.ba<<<a) false false).toArray,tP,.int .i64 (j:Int),.int .i64 (cN:Int)] w λ_ v _=>∃gj lS,v=.tuple #[.agg (gp t g (k:Int) z ((ob s i).ba<<<a) gj false).toArray,.int .i64 lS]/\Mw (qp (ek t k a) s j) (ob s i) gj lS ((j:Int)+1):=by
 have bN:qU t.az i:=hi▸xK C S ad;have EF:=bN.a;have oV:=bN.b;have eP:s.ah.length=b3 t.az:=S.lA;have w2:(s.ah.map (bW a)).length=b3 t.az:=by rw[amD,eP]
 have og:(s.ah.map (bW a)).getD i.a.toNat default=bW a (bJ s i.a):=BS (by omega);have ic:(s.ah.map (bW a)).getD i.b.toNat default=bW a (bJ s i.b):=BS (by omega);obtain⟨uf,r4,_⟩:=Fo (Ac C ad (by show((t.code.getD k default).getD j default).op=11;rw[hi];exact bm));have uf:j+1<=cN:=by rw[oW];exact uf
 have r4:cN<(t.code.getD k default).length:=by rw[oW];exact r4
 have gY:=abg a (bJ s i.a) (bJ s i.b);have fC:=hC.aG;have mj:=ok;obtain⟨g1,g2,g3,g4,g5,g6,g7,mm,z2,z3,z4,z5,n2⟩:=ok;have fin:∀(gj:Bool) (lS:Int),(if(bJ s i.a).has.ot||(bJ s i.b).has.ot then(!gj)=uq (t.code.getD k default) (j+1) cN/\((!gj)=true->lS=(j:Int)+1)else(!gj)=true/\lS=if sv (bJ s i.a).has (bJ s i.b).has then(cN:Int)else(j:Int)+1)->(gj=true->lS=(j:Int)+1)->Mw (qp (ek t k a) s j) (ob s i) gj lS ((j:Int)+1):=λgj lS h aZ=>by
  subst hi;rw[oW]at h;rcases Nc (cx:=ek t k a) h with⟨h1,h2⟩ | ⟨ou,h1,h2,h3⟩
  ·have h2:gj=true:=by simpa using h2
   exact .inl ⟨h1,h2,aZ h2⟩
  exact .inr ⟨ou,h1,by simpa using h2,h3⟩
 refine gP func119 ntmps119 ?_;refine eQ λcO=>?_;refine dH λdv=>?_;refine h7 (λ_:Nat×Nat=>True) (λy=>[(11,true,.pointer (some ⟨y.2,0,none⟩)),(10,true,.pointer (some ⟨y.1,0,none⟩)),(8,true,ax dv),(4,true,ax cO),(3,true,.int .i64 (cN:Int)),(2,true,.int .i64 (j:Int)),(1,true,tP)]) (λy=>Mem [(w,an)] [.box y.2 (gi (bW a (bJ s i.b))) 133,.box y.1 (gi (bW a (bJ s i.a))) 133,.box dv CZ 129,.box cO (gp t g (k:Int) z (s.ba<<<a) false false) 129]) ?_ ?_
 ·refine cV [0,1,2,3,4,5,6,7,8,9,10,11,12,13,14,15,16,17,999] mixed ?_;refine bI ?_;rw[hi];refine bI ?_;rw[hi];refine bI ?_;rw[og,ic];refine nn 18 19 ?_ ?_
  ·refine cB [999] _ (h:=ft ?_);intro dS;refine aF ?_ iG;refine eo 19 ?_;refine cB [20,21] _ (h:=ft ?_);intro dc;refine aF ?_ λ_ h=>h.tail.tail;refine bL _ (h:=bD 1 (ab:=?_));refine aF ?_ (bV [2,3]);refine hz (h:=bD 0 (ab:=?_));exact bZ (dS,dc) trivial (hA:=bV [0,1,2,3])
  refine cB [999] _ (h:=ft ?_);intro dc;refine aF ?_ iG;refine eo 18 ?_;refine cB [20,21] _ (h:=ft ?_);intro dS;refine aF ?_ λ_ h=>h.tail.tail;refine bL _ (h:=bD 0 (ab:=?_));refine aF ?_ (bV [2,3]);refine hz (h:=bD 1 (ab:=?_));exact bZ (dS,dc) trivial (hA:=bV [1,0,2,3])
 rintro⟨dS,dc⟩ _;have zK:s.ba<<<a||| (bW a (bJ s i.a)).on||| (bW a (bJ s i.b)).on=(ob s i).ba<<<a:=by rw[wZ,wZ];unfold ob;rw[BitVec.shiftLeft_or_distrib,BitVec.shiftLeft_or_distrib]
 refine af ?_;refine ao (bD 3 (ab:=?_));refine cJ (Mem [(w,an)] [.box dc (gi (bW a (bJ s i.b))) 133,.box dS (gi (bW a (bJ s i.a))) 133,.box dv CZ 129,.box cO (gp t g (k:Int) z ((ob s i).ba<<<a) false false) 129]) (λ_ h=>by rw[<-zK];exact h) ?_;refine af ?_;refine ao (bw (λI hw=>afa (bW a (bJ s i.a)) (bW a (bJ s i.b)) I) ?_);rintro v45 bx a6 rfl cA;refine cJ _ eS (af ?_);rw[gY];generalize mb:((bJ s i.a).has.ot||(bJ s i.b).has.ot)=op at fin⊢;refine bA (λh1=>?_) λh1=>?_
 ·have bm:op=false:=by cases op;rfl;simp at h1
  subst bm;rw[Qr a _ _ mb]at h1;refine af ?_;refine ao (bD 2 (h1:=iD mj t (k:Int) ((ob s i).ba<<<a) false false) (ab:=af ?_));refine bP rfl (.dz rfl gC rfl (.t1 rfl)) λI hw=>⟨false,(cN:Int),rfl,fin _ _ ?_ λh=>(by cases h)⟩;rw[amn ant];refine⟨rfl,?_⟩;rw[amo];simpa using h1
 refine af ?_;refine b9 (λy:Nat×Bool=>j+1<=y.1/\y.1<=cN/\(op=false->y.1=j+1)/\(y.2=false↔∀q,j+1<=q->q<y.1->((t.code.getD k default).getD q default).op=12)) (λy=>[(14,true,.int .i64 (y.1:Int)),(13,true,.bool (!op)),(8,true,ax dv),(4,true,ax cO),(3,true,.int .i64 (cN:Int)),(2,true,.int .i64 (j:Int)),(1,true,tP)]) (λy=>Mem [(w,an)] [.box dv CZ 129,.box cO (gp t g (k:Int) z ((ob s i).ba<<<a) y.2 false) 129]) (λy=>cN-y.1) (j+1,false) ⟨amK _,uf,λ_=>rfl,by dsimp only;exact⟨λ_ q cq bn=>by omega,λ_=>rfl⟩⟩ ?_ ⟨rfl,rfl,rfl,rfl,rfl,rfl,rfl,trivial⟩ λ_ h=>h.tail.tail
 rintro⟨l,gj⟩ ⟨h2,h3,aC,aW⟩;dsimp only at h2 h3 aC aW⊢;refine di (λcM=>?_) λcM=>?_
 ·rw[ami,aq]at cM;have ef:l<cN:=by omega
  have bm:op=true:=by have:=cM.2;cases op<;>simp at this⊢
  subst bm;refine di (λdW=>?_) λdW=>?_
  ·rw[amk,ar]at dW;refine af ?_;refine c0 1 ?_;refine bt (l+1,true) ⟨by dsimp only;omega,ef,λh=>(by cases h),?_⟩ (by dsimp only;omega);exact⟨λh=>(by cases h),λh=>absurd (h l h2 (anF l)) dW⟩
  rw[amm,aq]at dW;refine af ?_;refine bt (l+1,gj) ⟨by dsimp only;omega,ef,λh=>(by cases h),?_⟩ (by dsimp only;omega);dsimp only;rw[aW];refine⟨λh q cq bn=>?_,λh q cq bn=>h q cq (by omega)⟩;by_cases e:q=l
  ·rw[e];exact dW
  exact h q cq (by omega)
 rw[amx,ar]at cM;refine af ?_;refine ao (bD 0 (h1:=iD mj t (k:Int) ((ob s i).ba<<<a) gj false) (ab:=af ?_));refine bP rfl (.dz rfl aL rfl (.t1 rfl)) λI hw=>⟨gj,(j:Int)+1,rfl,fin _ _ ?_ λ_=>rfl⟩;cases op with
 | true=>
  have ef:l=cN:=by
   rcases cM with cM | cM
   ·omega
   cases cM
  subst ef;rw[amo rfl];refine⟨?_,λ_=>rfl⟩;have hx:uq (t.code.getD k default) (j+1) l=true↔gj=false:=by rw[JJ (by omega),aW];refine⟨λh q cq bn=>?_,λh q cq=>h _ (by omega) (by omega)⟩;have:=h (q-(j+1)) (by omega);rwa[show j+1+(q-(j+1))=q by omega]at this
  rw[amN,hx];simp
 | false=>
  have ef:=aC rfl;subst ef;have hf:gj=false:=aW.2 λq cq bn=>by omega
  subst hf;rw[amn ant];refine⟨rfl,?_⟩;rw[Qr a _ _ mb]at h1;rw[amn];simpa using h1
end Go.Proofs.bK
namespace Go.cc
open Go Go.RowKit
universe u
theorem UB{P:Program}{N:Nat}{Q pU:Exit->Act->World->Prop}{tm:dU}{A:World->Prop}{x y:Code}{eT:Type u}(dX:eT->Prop)(T:eT->dU)(bN:eT->World->Prop) (h:fh P N x (Exit.then (mn N dX T bN) pU) tm A) (aR:∀s,dX s->fh P N y Q (T s) (bN s)):fh P N x (Exit.then (λa w=>y.wp P Q a w) pU) tm A:=by
 unfold fh cL at *;intro a w ag hw;refine wp_mono (h a w ag hw) λe dI I q=>?_;cases e with
 | normal=>have q':mn N dX T bN dI I:=q;unfold mn at q';obtain⟨s,ia,cn,fi⟩:=q';exact aR s ia dI I cn fi
 | _=>exact q
end Go.cc
attribute [local irreducible] Go.wpList Go.Code.wp Go.bodyPost Go.Exit.then Go.Exit.inBlock Go.Calls
namespace Go.Proofs.bK
theorem aau(a:Nat)(x:l0):vG x=bW a (oq x):=by
 unfold vG oq;split
 ·rw[BV,ans]
 show _=(⟨2,0,x.value.loc,0#64<<<a⟩:fO);rw[ans]
theorem VI(t:aM)(k a:Nat):sP t (k:Int) t.init.length=(fg t k).ah.map (bW a):=by
 have key:∀(l:List l0) (r:List eD),l.foldl (λl x=>if x.aI=(k:Int)then l.set x.bq.toNat (vG x)else l) (r.map (bW a))=(l.foldl (λl x=>if x.aI=(k:Int)then l.set x.bq.toNat (oq x)else l) r).map (bW a):=by
  intro l
  induction l with
  | nil=>intro r;rfl
  | cons x l bH=>
   intro r;rw[anJ,anJ,<-bH];congr 1;split
   ·rw[aau a,List.map_set]
   rfl
 unfold sP;rw[amU];show _=(sn t (k:Int)).map (bW a);unfold sn;rw[<-key];congr 1;rw[List.map_replicate,BV,ans]
theorem abK{cx:fa}(C:lG cx)(au:cx.az=2){k:Nat}(hk:k<cx.code.length)(bm:(cx.code.getD k default).op=11):mg cx.code k=((np cx.code k:Nat):Int):=by rw[<-Qz (C.cN au) hk];unfold yB;rw[amo bm,Ac C hk bm]
theorem ir.abM{t:aM}(G:ir t)(au:t.az=2){k:Nat}(hk:k<t.code.length):lp (t.code.getD k default)=0:=by have hm:=er (l:=t.code) hk;have ai:=G.len _ hm;refine JQ (by omega) (λi hi=>?_) (G.cN au _ hm);have:=G.ins _ hm _ (er hi);rw[au]at this;exact this
def so(z:im)(A:jM):List aA:=[.own z.aN 138 6 ec A.J,.own z.bv 140 3 fE A.bars,.own z.aK 178 2 bz A.addr,.own z.aX 178 2 bz A.data,.own z.ae 178 2 bz A.ba]
def Vc(t:aM)(g:l2)(k a:Nat)(A:jM):Nat->Value->List aA->World->Prop:=λ_ v es _=>∃(ej:im) (s':b6) (gj jP:Bool),ku g ej/\v=.agg (gp t g (k:Int) ej (s'.ba<<<a) gj jP).toArray/\es=h6 ej (dN a A s') (s'.ah.map (bW a))/\ match rz t k a with
 | .hg=>gj=true/\jP=false
 | .full=>jP=true
 | .go s2 _=>gj=false/\jP=false/\s2=s'
def C0(t:aM)(g:l2)(k a:Nat)(eb cS:Nat)(z:im)(s:b6)(gj jP:Bool):List aA:=[.box eb (gp t g (k:Int) z (s.ba<<<a) gj jP) 129,.box cS CZ 129]
theorem NM(a:Nat)(A:jM)(t:aM)(k:Nat):dN a A (fg t k)=A:=by unfold dN fg;dsimp only;simp only[List.map_nil,amB]
theorem afc(t:aM)(aj ae ak:Value)(vs:List Value)(lv e9 tt bE:Value)(k a:Nat)(A:jM)(z:im)(w:World)(G:ir t)(hk:k<t.code.length)(hA:A.J.length=a)(aji:a<=64)(iN:A.addr.length<=5000/\A.data.length<=5000/\A.ba.length<=5000/\A.bars.length<=5000) (bp:gz (bB (so z A)) w aj ae ak vs t) (c6:aV (bB (so z A)) w dV 1 lv (b2 t)) (ag:aD e9/\aD tt/\aD bE/\aD z.aN/\aD z.bv/\aD z.aK/\aD z.aX/\aD z.ae) (hw:Mem [] (so z A) w): eM prog 49 [.agg (cQ t aj ae ak).toArray,.agg #[lv,e9,z.aN,z.bv,z.aK,z.aX,z.ae,tt,bE],.int .i64 (k:Int)] (so z A) w (Vc t ⟨aj,ae,ak,lv,e9,tt,bE⟩ k a A):=by
 obtain⟨t1,t2,t3⟩:=bp.iF;obtain⟨s1,s2,cy,dq,dd,ep,dP,ff⟩:=ag;obtain⟨mf,km,yz,Fm⟩:=iN;have te:=c6.aG;have nM:=bp.mZ;have hM:=bp.mx;have hC:=bp.code k (by omega);have XX:=hC.aG;have C:=G.cx hk a;have h0:=G.db hk a;have eE:(t.code.getD k default).length<=256:=G.len _ (er hk);have Co:mo (ek t k a) (fg t k) 0:=⟨amz _,amz _,amz _,amz _,amz _⟩;refine jO func49 ntmps49 hw ?_;refine eQ λdR=>?_;refine eQ λcO=>?_;refine dH λcS=>?_;refine ao (gr (λI hw=>ae8 t ⟨aj,ae,ak,lv,e9,tt,bE⟩ vs k z I G hk (bp.now hw) ⟨te,s1,dq,dd,ep,dP,ff,s2,cy⟩) ?_);rintro ahJ bx es a6 ⟨rg,kk,rfl,rfl⟩;generalize ay:(⟨aj,ae,ak,lv,e9,tt,bE⟩:l2)=g at *;have mj:ku g {z with rg:=rg}:=by subst ay;exact⟨t1,t2,t3,te,s1,s2,cy,kk,dq,dd,ep,dP,ff⟩
 rw[VI t k a];refine af ?_;refine dH λeb=>?_;refine ao (bD 0 (h1:=iD mj t (k:Int) (0#64) false false) (ab:=af ?_));refine ao (ix _ _ _ _ _ _ (ab:=λv22 PV=>af ?_));refine UB (λy:Value×(Nat->Prop)×World=>aD y.1/\(t.az=2->aV y.2.1 y.2.2 bd 1 y.1 (qD (t.code.getD k default)))) (λy=>[(9,true,y.1),(8,true,vs.getD k default),(7,true,ax eb),(6,true,ax cS)]) (λy=>Mem [(y.2.2,y.2.1),(w,bB (so z A))] (h6 {z with rg:=rg} (dN a A (fg t k)) ((fg t k).ah.map (bW a))++C0 t g k a eb cS {z with rg:=rg} (fg t k) false false)) ?_ ?_
 ·have vo:(fg t k).ba<<<a=0#64:=(ans a:0#64<<<a=0#64);refine bA (λh1=>?_) λh1=>?_
  ·rw[aq]at h1;refine af ?_;refine ao (bw (λI hw=>Sb (vs.getD k default) (t.code.getD k default) I (hw.now hC)) ?_);rintro Uj cp bX ⟨JR,bc,r5,rfl,B0⟩ fq;refine af ?_;exact bZ (JR,Fr cp,bX) ⟨r5,λ_=>B0 (ir.abM G h1 hk)⟩ (hA:=λ_ h=>by unfold C0;rw[NM,vo];exact h.qt.cm [7,2,6,8,9,10,1,3])
  rw[ar]at h1;refine af ?_;exact bZ (v22,bB (so z A),w) ⟨PV,λh=>absurd h h1⟩ ⟨rfl,rfl,rfl,rfl,trivial⟩ (λ_ h=>by unfold C0;rw[NM,vo];exact(h.Hh (bs':=[(w,bB (so z A)),(w,bB (so z A))]) λB hB=>by simp at hB;rw[hB];exact .tail _ aL).cm [7,2,6,8,9,10,1,3])
 rintro⟨JR,Mu,wl⟩ ⟨r5,B0⟩;dsimp only at r5 B0⊢;refine af ?_;refine b9 (λy:Nat×im×b6×Bool×Bool=>y.1<=(t.code.getD k default).length/\ku g y.2.1/\((y.2.2.2.1=false/\y.2.2.2.2=false/\Rd (ek t k a) (fg t k) y.2.2.1 y.1/\mo (ek t k a) y.2.2.1 y.1)\/(y.2.2.2.1=true/\y.2.2.2.2=false/\rz t k a=.hg)\/(y.2.2.2.1=false/\y.2.2.2.2=true/\rz t k a=.full))) (λy=>[(10,true,.int .i64 y.1),(9,true,JR),(8,true,vs.getD k default),(7,true,ax eb),(6,true,ax cS)]) (λy=>Mem [(wl,Mu),(w,bB (so z A))] (h6 y.2.1 (dN a A y.2.2.1) (y.2.2.1.ah.map (bW a))++C0 t g k a eb cS y.2.1 y.2.2.1 y.2.2.2.1 y.2.2.2.2)) (λy=>(t.code.getD k default).length-y.1) (0,{z with rg:=rg},fg t k,false,false) ⟨amz _,mj,.inl ⟨rfl,rfl,.zero,Co⟩⟩ ?_
 rintro⟨j,z2,s,gj,jP⟩ ⟨ad,ok,k3⟩;dsimp only at ad ok k3⊢;have ajX:=ok.rg;refine di (λh2=>?_) λh2=>?_
 ·rw[ami,ami,aq,amk,amk]at h2;obtain⟨⟨h2,rfl⟩,rfl⟩:=h2;have fZ:j<(t.code.getD k default).length:=by omega
  obtain⟨_,_,j3,eh⟩:=k3.resolve_right (by rintro(⟨q,_⟩ | ⟨_,q,_⟩)<;>cases q);have fR:=j3.ok C h0;have O0:a+s.J.length<=64:=j3.Hn (show a+0<=64 by omega);have ai:y6 t g k a A z2 s:=by have bC:=eh.J;have cd:=eh.addr;have hY:=eh.data;have k0:=eh.dB;exact⟨ok,hA,O0,mf,km,yz,by omega,by omega,by omega,fR.ba,fR.lA⟩
  have lj:(dN a A s).bars.length<=100000:=by have:=eh.bars;unfold dN;rw[ams];omega
  obtain⟨i,hi⟩:∃i,(t.code.getD k default).getD j default=i:=⟨_,rfl⟩;refine af ?_;rw[hi];refine bA (λkW=>?_) λkW=>?_
  ·rw[aq]at kW;have kW:i.op=11:=kW;have I6:((ek t k a).code.getD j default).op=11:=by show((t.code.getD k default).getD j default).op=11;rw[hi];exact kW
   have zB:t.az=2:=by
    rcases G.az with q | q
    ·have:=(show qU t.az i from hi▸xK C fR fZ).Ap q;omega
    exact q
   have B0:=B0 zB;have ja:(qD (t.code.getD k default)).length=(t.code.getD k default).length:=by unfold qD;simp
   have YN:(qD (t.code.getD k default)).getD j default=((np (t.code.getD k default) j:Nat):Int):=(s7 fZ).trans (abK C zB fZ I6);refine af ?_;refine cV [0,1,2,3,4,5,6,7,8,9,10,11,12] mixed ?_;refine bI ?_;rw[YN];refine eG (Mem [(wl,Mu),(w,bB (so z A))] (h6 z2 (dN a A s) (s.ah.map (bW a)))) (h:=bw (λI hw=>ae9 t g k a z2 s j I ok C fR fZ eE i hi kW (vs.getD k default) (np (t.code.getD k default) j) rfl (hw.ed) (hw.now hC)) ?_);rintro v60 hD gb ⟨ai1,lS,rfl,c4⟩ nj;refine aF ?_ λ_ h=>h.cI.dk;refine cJ _ eS (aP ?_);refine bL _ (h:=bD 6 (h1:=iD ok _ _ _ _ _) (ab:=?_));refine aF (aP ?_) λ_ h=>h.dk;refine af ?_;rcases c4 with⟨hb,rfl,rfl⟩ | ⟨ou,hb,rfl,rfl⟩
   ·exact bt (j+1,z2,ob s i,true,false) ⟨fZ,ok,.inr (.inl ⟨rfl,rfl,C3 C h0 j3 fZ ((Gt I6).trans hb) λ_ _ z=>by cases z⟩)⟩ (by dsimp only;omega)
   have c4:=(Gt I6).trans hb;have hok:=wj C fR fZ c4;have dn:=hok.1;exact bt (ou,z2,ob s i,false,false) ⟨hok.2.le,ok,.inl ⟨rfl,rfl,.step j3 fZ c4,Gx eh (by omega) c4⟩⟩ (by dsimp only;omega)
  rw[ar]at kW;have kW:¬i.op=11:=kW;refine af ?_;refine cV [0,1,2,3,4,5,6,7] mixed ?_;refine bI ?_;rw[hi];refine eG (λ_=>True) (h:=en (es:=h6 z2 (dN a A s) (s.ah.map (bW a))) (H:=C0 t g k a eb cS z2 s false false) (a7:=λI hw=>afe t g k a A z2 s j I ai C fR fZ i hi kW lj (by subst ay;exact hw.gw c6 ds λe he=>amE _ he) hw.dk.ei) (ab:=?_));rintro r hD ai0 gb ⟨z3,cy,ai2,ai3,yI,rfl,rfl,c4⟩;refine aF (aP ?_) dx;refine bL _ (h:=bD 6 (h1:=iD yI _ _ _ _ _) (ab:=?_));refine aF (aP ?_) dx;refine af ?_;cases aH:fJ (ek t k a) s j with
  | hg=>rw[aH]at c4;obtain⟨rfl,rfl⟩:=c4;exact bt (j+1,z3,cy,true,false) ⟨fZ,yI,.inr (.inl ⟨rfl,rfl,C3 C h0 j3 fZ aH λ_ _ z=>by cases z⟩)⟩ (by dsimp only;omega)
  | full=>rw[aH]at c4;obtain⟨rfl,rfl⟩:=c4;exact bt (j+1,z3,cy,false,true) ⟨fZ,yI,.inr (.inr ⟨rfl,rfl,C3 C h0 j3 fZ aH λ_ _ z=>by cases z⟩)⟩ (by dsimp only;omega)
  | go dq aaS=>rw[aH]at c4;obtain⟨rfl,rfl,rfl,rfl⟩:=c4;exact bt (j+1,z3,dq,false,false) ⟨fZ,yI,.inl ⟨rfl,rfl,.step j3 fZ aH,Gx eh (by omega) aH⟩⟩ (by dsimp only;omega)
 refine af ?_;refine ao (bD 7 (h1:=iD ok _ _ _ _ _) (ab:=af ?_));refine ez rfl (.c1 rfl vO rfl) (h6 z2 (dN a A s) (s.ah.map (bW a))) [0,1,2,3,4,5] λI hw=>⟨z2,s,gj,jP,ok,rfl,rfl,?_⟩;rcases k3 with⟨rfl,rfl,j3,eh⟩ | ⟨rfl,rfl,aH⟩ | ⟨rfl,rfl,aH⟩
 ·have eB:(t.code.getD k default).length<=j:=by
   rw[amx,amx,ar]at h2;rcases h2 with(q | q) | q
   ·omega
   ·cases q
   cases q
  rw[show rz t k a=.go s j from SZ C h0 j3 eB];exact⟨rfl,rfl,rfl⟩
 ·rw[aH];exact⟨rfl,rfl⟩
 rw[aH]
end Go.Proofs.bK
