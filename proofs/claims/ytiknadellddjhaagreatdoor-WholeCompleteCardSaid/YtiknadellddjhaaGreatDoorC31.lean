/- Lemmas for the law WholeComplete. -/
import Derived.Test.YtiknadellddjhaaGreatDoorC30
set_option linter.all false
open Go.Proofs.Tryz
set_option maxHeartbeats 12800000
open Go Go.b9 Go.bM
namespace Go.Proofs.bA
attribute [local irreducible] wpList Code.wp bodyPost Exit.then Exit.inBlock Calls
def ie(z:iF)(l:j1)(aj:List fX):List aB:=.own z.bv 140 3 fE l.bars::kq z l aj
def Ns(r:oZ)(s':cg)(gv j4:Bool)(za:Nat):Prop:=match r with
 | .ho=>gv=true/\j4=false
 | .full=>gv=false/\j4=true
 | .go s2 Kj=>gv=false/\j4=false/\s2=s'/\Kj=za
structure zO(t:aV)(g:mv)(k a:Nat)(A:j1)(z:iF)(s:cg):Prop where
 ok:kM g z
 ahead:A.J.length=a
 a64:a+s.J.length<=64
 akv:A.addr.length<=5000
 B0:A.data.length<=5000
 ac:A.bh.length<=5000
 fe:s.addr.length<=5000
 q4:s.data.length<=5000
 rO:s.dF.length<=5000
 bh:fx s.J s.bh
 ag:s.ag.length=cn t.aC
theorem zO.iW{t:aV}{g:mv}{k a:Nat}{A:j1}{z:iF}{s:cg}(c:zO t g k a A z s):(dP a A s).addr.length<=500000/\(dP a A s).data.length<=500000/\(dP a A s).bh.length<=500000/\(dP a A s).J.length=a+s.J.length/\(s.ag.map (b5 a)).length=cn t.aC/\cn t.aC<=32:=by obtain⟨_,h1,_,h2,h3,aA,a6,cE,dL,_,dZ⟩:=c;unfold dP;simp only[aoy,aoJ];exact⟨by omega,by omega,by omega,by omega,dZ,by unfold cn;split<;>omega⟩
def No(t:aV)(g:mv)(k a:Nat)(A:j1)(z:iF)(s:cg)(r:oZ)(za:Nat):Nat->Value->List aB->World->Prop:=λ_ v es _=>∃(eu:iF) (s':cg) (gv j4:Bool),eu.bv=z.bv/\s'.bars=s.bars/\kM g eu/\v=.agg (gA t g (k:Int) eu (s'.bh<<<a) gv j4).toArray/\es=kq eu (dP a A s') (s'.ag.map (b5 a))/\Ns r s' gv j4 za
theorem TG(t:aV)(g:mv)(k a:Nat)(A:j1)(z:iF)(s:cg)(j:Nat)(loc:ByteArray)(n d:Int)(on xV:BitVec 64)(w:World)(c:zO t g k a A z s)(lN:loc∈cc t)(bd:n=xX (cc t) loc)(Jv:xV=on<<<a)(qb:fx s.J on)(hd:0<=d/\d<cn t.aC)(hw:Mem [] (kq z (dP a A s) (s.ag.map (b5 a))) w): eY prog 206 [.agg (gA t g (k:Int) z (s.bh<<<a) false false).toArray,.int .i64 (j:Int),.int .i64 n,.int .i64 d,u64 xV] (kq z (dP a A s) (s.ag.map (b5 a))) w (No t g k a A z s (mm (ez t k a) s j loc on d) (j+1)):=by
 obtain⟨mL,jX,zb,FY,Ri,Rj⟩:=c.iW;refine(agH t g (k:Int) z (dP a A s) (s.ag.map (b5 a)) (s.bh<<<a) xV (j:Int) n d w c.ok mL jX zb (by omega) (by omega) hw).mono ?_;rintro _ v es I (⟨h1,eu,h2,h3,rfl,rfl⟩ | ⟨h1,eu,h2,h3,rfl,rfl⟩)
 ·refine⟨eu,s,false,true,h2,rfl,h3,rfl,rfl,?_⟩;rw[LC (show 64<=(ez t k a).ahead+s.J.length from by show 64<=a+s.J.length;omega)];exact⟨rfl,rfl⟩
 refine⟨eu,zt t.aC (cc t) (k:Int) s (j:Int) loc on d,false,false,h2,rfl,h3,rfl,?_,?_⟩
 ·have bu:uy (dP a A s) (k:Int) ⟨0,(j:Int),1,n,0,d⟩ xV 0#64 (s.bh<<<a)=dP a A {s with J:=s.J++[⟨(k:Int),(j:Int),1,n,0,d⟩],addr:=s.addr++hV on s.J.length,data:=s.data++hV 0#64 s.J.length,dF:=s.dF++hV s.bh s.J.length}:=by have:=O2 a A s c.ahead c.a64 (k:Int) (j:Int) 1 n 0 d on 0#64 s.bh (λi q=>(qb i q).1) (λi q=>by simp at q) (λi q=>(c.bh i q).1);rwa[apB,<-Jv]at this
  have b2:(⟨3,((dP a A s).J.length:Int),bg,1#64<<<(dP a A s).J.length⟩:fX)=b5 a ⟨.told s.J.length,1#64<<<s.J.length⟩:=by rw[FY,Nat.add_comm,BitVec.shiftLeft_add,Nat.add_comm];rfl
  rw[bu,b2,Be,bd,Dx lN,SU,aoH];rfl
 rw[LD (show ¬64<=(ez t k a).ahead+s.J.length from by show ¬64<=a+s.J.length;omega)];exact⟨rfl,rfl,rfl,rfl⟩
theorem LO(t:aV)(g:mv)(k a:Nat)(A:j1)(z:iF)(s:cg)(j:Nat)(loc:ByteArray)(n:Int)(x:eO)(h:fX)(on xV:BitVec 64)(w:World)(c:zO t g k a A z s)(lN:loc∈cc t)(bd:n=xX (cc t) loc)(hx:h=b5 a x)(Jv:xV=on<<<a)(qb:fx s.J on)(jz:fx s.J x.on)(hw:Mem [] (kq z (dP a A s) (s.ag.map (b5 a))) w): eY prog 205 [.agg (gA t g (k:Int) z (s.bh<<<a) false false).toArray,.int .i64 (j:Int),.int .i64 n,.agg (gu h).toArray,u64 xV] (kq z (dP a A s) (s.ag.map (b5 a))) w (No t g k a A z s (kJ (ez t k a) s j loc on x) (j+1)):=by
 obtain⟨mL,jX,zb,FY,Ri,Rj⟩:=c.iW;have mc:n=(dr (cc t) loc:Int):=by rw[bd,Dx lN]
 refine(TK t g (k:Int) z (dP a A s) (s.ag.map (b5 a)) (s.bh<<<a) xV (j:Int) n h w c.ok mL jX zb hw).mono ?_;rintro _ v es I (⟨h0,rfl,rfl⟩ | ⟨⟨_,h0⟩,⟨h1,eu,h2,h3,rfl,rfl⟩ | ⟨h1,eu,h2,h3,rfl,rfl⟩⟩)
 ·refine⟨z,s,true,false,rfl,rfl,c.ok,rfl,rfl,?_⟩;have ba:(hz x.has).2=false:=by
   rcases h0 with h0 | h0
   ·omega
   rw[hx]at h0;exact aoW.2 λq=>h0 ((IZ a x).2 q)
  rw[Hk ba];exact⟨rfl,rfl⟩
 ·rw[hx]at h0;refine⟨eu,s,false,true,h2,rfl,h3,rfl,rfl,?_⟩;rw[Hl ((IZ a x).1 h0) (show 64<=(ez t k a).ahead+s.J.length from by show 64<=a+s.J.length;omega)];exact⟨rfl,rfl⟩
 rw[hx]at h0;have ba:=(IZ a x).1 h0;refine⟨eu,zE (cc t) (k:Int) s (j:Int) loc on (hz x.has).1 x.on,false,false,h2,rfl,h3,rfl,?_,?_⟩
 ·have bu:=O2 a A s c.ahead c.a64 (k:Int) (j:Int) 2 n (hz x.has).1 0 on x.on s.bh (λi q=>(qb i q).1) (λi q=>(jz i q).1) (λi q=>(c.bh i q).1);rw[hx,ZL ba,xA,Jv,bu,mc];rfl
 rw[Hm ba (show ¬64<=(ez t k a).ahead+s.J.length from by show ¬64<=a+s.J.length;omega)];exact⟨rfl,rfl,rfl,rfl⟩
def Wb(t:aV)(g:mv)(k a:Nat)(A:j1)(r:oZ)(za:Nat):Nat->Value->List aB->World->Prop:=λ_ v es _=>∃(eu:iF) (s':cg) (gv j4:Bool),kM g eu/\v=.agg (gA t g (k:Int) eu (s'.bh<<<a) gv j4).toArray/\es=ie eu (dP a A s') (s'.ag.map (b5 a))/\Ns r s' gv j4 za
theorem fx.at{t:aV}{k a j:Nat}{s:cg}(S:gH (ez t k a) s j){n:Int}(h:0<=n/\n<cn t.aC):l2 (ez t k a) s.J (bS s n).has/\fx s.J (bS s n).on:=S.ag n.toNat (by rw[S.lW];show n.toNat<cn t.aC;omega)
def DG:List Value:=gA ⟨0,ByteArray.empty,ByteArray.empty,[],[],0,default⟩ ⟨aa,aa,aa,aa,aa,aa,aa⟩ 0 ⟨aa,aa,aa,aa,aa,aa⟩ 0#64 false false
def rQ(t:aV)(g:mv)(k a:Nat)(A:j1)(z:iF)(s:cg)(cY ec dK:Nat)(i:Instr):List aB:=[.own z.bv 140 3 fE (dP a A s).bars,.box cY DG 129,.box ec (cL i) 169,.box dK (gA t g (k:Int) z (s.bh<<<a) false false) 129]
theorem agJ(t:aV)(g:mv)(k a:Nat)(A:j1)(z:iF)(s:cg)(j:Nat)(w:World)(c:zO t g k a A z s)(C:l1 (ez t k a))(S:gH (ez t k a) s j)(ae:j<(t.code.getD k default).length)(i:Instr)(hi:(t.code.getD k default).getD j default=i)(uF:¬i.op=11)(lr:(dP a A s).bars.length<=100000) (c0:aZ (bJ (ie z (dP a A s) (s.ag.map (b5 a)))) w dU 1 g.ak (cc t)) (hw:Mem [] (ie z (dP a A s) (s.ag.map (b5 a))) w): eY prog 120 [.agg (gA t g (k:Int) z (s.bh<<<a) false false).toArray,.int .i64 (j:Int),.agg (cL i).toArray] (ie z (dP a A s) (s.ag.map (b5 a))) w (Wb t g k a A (fR (ez t k a) s j) (j+1)):=by
 obtain⟨mL,jX,zb,FY,Ri,Rj⟩:=c.iW;have ok:=c.ok;have bV:ri t.aC i:=hi▸yj C S ae;have hm:i∈(t.code.getD k default):=hi▸eN ae;have Fi:=bV.a;have pb:=bV.b;have hid:=bV.d;have oH:(s.ag.map (b5 a)).getD i.a.toNat default=b5 a (bS s i.a):=Cw (by rw[c.ag];omega);have gN:(s.ag.map (b5 a)).getD i.b.toNat default=b5 a (bS s i.b):=Cw (by rw[c.ag];omega);obtain⟨uE,IL⟩:=fx.at S Fi;obtain⟨vU,Zy⟩:=fx.at S pb;have pJ:i.op=1\/i.op=2\/i.op=3->i.loc∈cc t:=C.loc _ hm;have aK:=ok;obtain⟨g1,g2,g3,g4,g5,g6,g7,mP,z2,z3,z4,z5,ov⟩:=aK;refine j3 func120 ntmps120 hw ?_;refine e4 λdK=>?_;refine e4 λec=>?_;refine ei λcY=>?_;refine cA (Mem [(w,bJ (ie z (dP a A s) (s.ag.map (b5 a))))] (kq z (dP a A s) (s.ag.map (b5 a))++rQ t g k a A z s cY ec dK i)) (b4 [4,5,6,7,8,3,0,1,2]) ?_;refine dp (λiN=>?_) λiN=>?_
 ·rw[an]at iN;have iN:i.op=1:=iN;refine af ?_;refine cz [0,1,2,3,4,5,7,8,9,6,10,11] mixed ?_;refine bQ ?_;refine bO _ (h:=bp (λI hw=>Bo g.ak g.ff z.aI z.bv z.aG z.aR z.ad g.tt g.bj (cc t) i.loc I (hw.now c0) ⟨g5,z2,z3,z4,z5,ov,g6,g7⟩) ?_);rintro v17 bx bc rfl cu;refine aF ?_ ek;refine cA _ ek (bQ ?_);refine eP (λ_=>True) (h:=eB (es:=kq z (dP a A s) (s.ag.map (b5 a))) (H:=rQ t g k a A z s cY ec dK i) (bb:=λI hw=>LO t g k a A z s j i.loc _ ⟨.num i.c3,0#64⟩ _ 0#64 0#64 I c (pJ (.inl iN)) rfl (by rw[Cy,apB]) (by rw[apB]) (fx.zero _) (fx.zero _) hw.dt.ew) (ab:=?_));rintro r ck es bY ⟨eu,s',gv,j4,bu,b2,iO,rfl,rfl,cS⟩;refine aF (aN ?_) dz;refine bO _ (h:=bK 6 (h1:=iP iO _ _ _ _ _) (ab:=?_));refine aF (aN ?_) dz;refine af ?_;exact eL rfl (.c1 rfl oQ rfl) (ie eu (dP a A s') (s'.ag.map (b5 a))) [5,0,1,2,3,4] (lu:=by unfold ie dP;rw[bu,b2];rfl) λI hw=>⟨eu,s',gv,j4,iO,rfl,rfl,by subst hi;rw[st1 iN];exact cS⟩
 rw[au]at iN;have iN:¬i.op=1:=iN;refine dp (λfZ=>?_) λfZ=>?_
 ·rw[an]at fZ;have fZ:i.op=2:=fZ;refine af ?_;refine cz [0,1,2,3,4,5,7,8,9,10,11,12,6,13,14] mixed ?_;refine bQ ?_;refine bO _ (h:=bp (λI hw=>Bo g.ak g.ff z.aI z.bv z.aG z.aR z.ad g.tt g.bj (cc t) i.loc I (hw.now c0) ⟨g5,z2,z3,z4,z5,ov,g6,g7⟩) ?_);rintro v30 bx bc rfl cu;refine aF ?_ ek;refine cA _ ek (bQ ?_);refine eP (λ_=>True) (h:=eB (es:=kq z (dP a A s) (s.ag.map (b5 a))) (H:=rQ t g k a A z s cY ec dK i) (bb:=λI hw=>LO t g k a A z s j i.loc _ (bS s i.a) _ 0#64 0#64 I c (pJ (.inr (.inl fZ))) rfl oH (by rw[apB]) (fx.zero _) IL hw.dt.ew) (ab:=?_));rintro r ck es bY ⟨eu,s',gv,j4,bu,b2,iO,rfl,rfl,cS⟩;refine aF (aN ?_) dz;refine bO _ (h:=bK 6 (h1:=iP iO _ _ _ _ _) (ab:=?_));refine aF (aN ?_) dz;refine af ?_;exact eL rfl (.c1 rfl oQ rfl) (ie eu (dP a A s') (s'.ag.map (b5 a))) [5,0,1,2,3,4] (lu:=by unfold ie dP;rw[bu,b2];rfl) λI hw=>⟨eu,s',gv,j4,iO,rfl,rfl,by subst hi;rw[st2 fZ];exact cS⟩
 rw[au]at fZ;have fZ:¬i.op=2:=fZ;refine dp (λjD=>?_) λjD=>?_
 ·rw[an]at jD;have jD:i.op=3:=jD;refine af ?_;refine cz [0,1,2,3,4,5,7,8,6,9,10] mixed ?_;refine bQ ?_;refine bO _ (h:=bp (λI hw=>Bo g.ak g.ff z.aI z.bv z.aG z.aR z.ad g.tt g.bj (cc t) i.loc I (hw.now c0) ⟨g5,z2,z3,z4,z5,ov,g6,g7⟩) ?_);rintro v46 bx bc rfl cu;refine aF ?_ ek;refine cA _ ek (bQ ?_);refine eP (λ_=>True) (h:=eB (es:=kq z (dP a A s) (s.ag.map (b5 a))) (H:=rQ t g k a A z s cY ec dK i) (bb:=λI hw=>TG t g k a A z s j i.loc _ i.d 0#64 0#64 I c (pJ (.inr (.inr jD))) rfl (by rw[apB]) (fx.zero _) hid hw.dt.ew) (ab:=?_));rintro r ck es bY ⟨eu,s',gv,j4,bu,b2,iO,rfl,rfl,cS⟩;refine aF (aN ?_) dz;refine bO _ (h:=bK 6 (h1:=iP iO _ _ _ _ _) (ab:=?_));refine aF (aN ?_) dz;refine af ?_;exact eL rfl (.c1 rfl oQ rfl) (ie eu (dP a A s') (s'.ag.map (b5 a))) [5,0,1,2,3,4] (lu:=by unfold ie dP;rw[bu,b2];rfl) λI hw=>⟨eu,s',gv,j4,iO,rfl,rfl,by subst hi;rw[Mj jD];exact cS⟩
 rw[au]at jD;have jD:¬i.op=3:=jD;refine dp (λlS=>?_) λlS=>?_
 ·rw[an]at lS;have lS:i.op=4:=lS;refine af ?_;refine cA (Mem [(w,bJ (ie z (dP a A s) (s.ag.map (b5 a))))] ([.own z.rg 133 4 gu (s.ag.map (b5 a))]++(np z (dP a A s)++rQ t g k a A z s cY ec dK i))) (λ_ h=>h) ?_;refine aq (eB (es:=[.own z.rg 133 4 gu (s.ag.map (b5 a))]) (H:=np z (dP a A s)++rQ t g k a A z s cY ec dK i) (bb:=λI hw=>Bp t g (k:Int) z (s.ag.map (b5 a)) (s.bh<<<a) false false i.d ⟨1,i.c3,bg,0#64⟩ I ok (by omega) (by omega) hw.dt.ew) (ab:=?_));rintro r ck es bY ⟨k1,kD,rfl,rfl⟩;rw[show(⟨1,i.c3,bg,0#64⟩:fX)=b5 a ⟨.num i.c3,0#64⟩from by rw[Cy,apB],Be];have iO:kM g {z with rg:=k1}:=⟨g1,g2,g3,g4,g5,g6,g7,kD,z2,z3,z4,z5,ov⟩;refine af ?_;refine aq (bK 6 (h1:=iP iO _ _ _ _ _) (ab:=af ?_));exact eL rfl (.c1 rfl oQ rfl) (ie {z with rg:=k1} (dP a A s) ((gP t.aC s.ag i.d ⟨.num i.c3,0#64⟩).map (b5 a))) [5,0,1,2,3,4] λI hw=>⟨{z with rg:=k1},{s with ag:=gP t.aC s.ag i.d ⟨.num i.c3,0#64⟩},false,false,iO,rfl,rfl,by subst hi;rw[UA lS];exact⟨rfl,rfl,rfl,rfl⟩⟩
 rw[au]at lS;have lS:¬i.op=4:=lS;refine dp (λoe=>?_) λoe=>?_
 ·rw[an]at oe;have oe:i.op=5:=oe;refine af ?_;refine aq (eI (enc:=fE) (dec:=Ch) (e:=140) (sz:=3) (len:=1) (dM:=[(0,fE ⟨(k:Int),(j:Int),1⟩)]) (ab:=λv1 jy=>af ?_));refine aq (e6 6 (hm:=aP) (hk:=rfl) (bH:=by simp only[aoJ,aoN,ao1];omega) (ab:=λv2 hS=>af ?_));refine c7 9 ?_;have iO:kM g {z with bv:=v2}:=⟨g1,g2,g3,g4,g5,g6,g7,mP,z2,hS,z4,z5,ov⟩;refine aq (bK 7 (h1:=iP iO t (k:Int) (s.bh<<<a) false false) (ab:=af ?_));exact eL rfl (.c1 rfl xR rfl) (ie {z with bv:=v2} (dP a A {s with bars:=s.bars++[⟨(k:Int),(j:Int),1⟩]}) (s.ag.map (b5 a))) [6,1,2,3,4,5] (lu:=by unfold ie dP;rw[<-aoP];rfl) λI hw=>⟨{z with bv:=v2},{s with bars:=s.bars++[⟨(k:Int),(j:Int),1⟩]},false,false,iO,rfl,rfl,by subst hi;rw[UB oe];exact⟨rfl,rfl,rfl,rfl⟩⟩
 rw[au]at oe;have oe:¬i.op=5:=oe;refine dp (λmN=>?_) λmN=>?_
 ·rw[an]at mN;have mN:i.op=13:=mN;refine af ?_;refine aq (eI (enc:=fE) (dec:=Ch) (e:=140) (sz:=3) (len:=1) (dM:=[(0,fE ⟨(k:Int),(j:Int),i.dA⟩)]) (ab:=λv1 jy=>af ?_));refine aq (e6 6 (hm:=aP) (hk:=rfl) (bH:=by simp only[aoJ,aoN,ao1];omega) (ab:=λv2 hS=>af ?_));refine c7 9 ?_;have iO:kM g {z with bv:=v2}:=⟨g1,g2,g3,g4,g5,g6,g7,mP,z2,hS,z4,z5,ov⟩;refine aq (bK 7 (h1:=iP iO t (k:Int) (s.bh<<<a) false false) (ab:=af ?_));exact eL rfl (.c1 rfl xR rfl) (ie {z with bv:=v2} (dP a A {s with bars:=s.bars++[⟨(k:Int),(j:Int),i.dA⟩]}) (s.ag.map (b5 a))) [6,1,2,3,4,5] (lu:=by unfold ie dP;rw[<-aoP];rfl) λI hw=>⟨{z with bv:=v2},{s with bars:=s.bars++[⟨(k:Int),(j:Int),i.dA⟩]},false,false,iO,rfl,rfl,by subst hi;rw[Uz mN];exact⟨rfl,rfl,rfl,rfl⟩⟩
 rw[au]at mN;have mN:¬i.op=13:=mN;refine dp (λpq=>?_) λpq=>?_
 ·rw[an]at pq;have pq:i.op=6:=pq;refine af ?_;refine aq (hq (bb:=λI hw=>arp t g (k:Int) z (s.ag.map (b5 a)) (cc t) (s.bh<<<a) false false i.a I ok (by omega) (hw.dX) (hw.now c0)) (ab:=?_));rintro anQ mj rW rfl yO;rw[oH];refine cA _ ek (af ?_);by_cases ay:(jL (bS s i.a).has).2=true
  ·rw[aou ((Cx a _).2 ay),I0 ay];have hmem:(jL (bS s i.a).has).1∈cc t:=by have eC:=uE;rw[Eh ay]at eC;exact eC.2
   have mc:=Dx hmem;refine cM rfl (λh=>by rw[an]at h;omega) λ_=>?_;refine af ?_;refine cz [0,1,2,3,4,6,7,8,9,10,11,12,13,14,5,15,16] mixed ?_;refine bQ ?_;refine bO _ (h:=hq (bb:=λI hw=>arp t g (k:Int) z (s.ag.map (b5 a)) (cc t) (s.bh<<<a) false false i.a I ok (by omega) (hw.dX) (hw.now c0)) (ab:=?_));rintro DW bx bc rfl cu;refine aF ?_ ek;refine cA _ ek (bQ ?_);rw[oH,aou ((Cx a _).2 ay),I0 ay];refine eP (λ_=>True) (h:=eB (es:=kq z (dP a A s) (s.ag.map (b5 a))) (H:=rQ t g k a A z s cY ec dK i) (bb:=λI hw=>TG t g k a A z s j (jL (bS s i.a).has).1 _ i.d (bS s i.a).on _ I c hmem rfl (xA a _) IL hid hw.dt.ew) (ab:=?_));rintro r ck es bY ⟨eu,s',gv,j4,bu,b2,iO,rfl,rfl,cS⟩;refine aF (aN ?_) dz;refine bO _ (h:=bK 6 (h1:=iP iO _ _ _ _ _) (ab:=?_));refine aF (aN ?_) dz;refine af ?_;exact eL rfl (.c1 rfl oQ rfl) (ie eu (dP a A s') (s'.ag.map (b5 a))) [5,0,1,2,3,4] (lu:=by unfold ie dP;rw[bu,b2];rfl) λI hw=>⟨eu,s',gv,j4,iO,rfl,rfl,by subst hi;rw[Mk pq ay];exact cS⟩
  rw[aot λq=>ay ((Cx a _).1 q)];refine cM rfl (λ_=>?_) (λh=>by rw[au]at h;exact absurd (by decide) h);refine af ?_;refine c7 8 ?_;refine aq (bK 6 (h1:=iP ok t (k:Int) (s.bh<<<a) true false) (ab:=af ?_));exact eL rfl (.c1 rfl oQ rfl) (ie z (dP a A s) (s.ag.map (b5 a))) [5,0,1,2,3,4] λI hw=>⟨z,s,true,false,ok,rfl,rfl,by subst hi;rw[UC pq (aoW.2 ay)];exact⟨rfl,rfl⟩⟩
 rw[au]at pq;have pq:¬i.op=6:=pq;refine dp (λnj=>?_) λnj=>?_
 ·rw[an]at nj;have nj:i.op=7:=nj;refine af ?_;refine cz [0,1,2,3,4,6,7,8,9,10,11,12,13,14,15,16,17,18,5,19,20] mixed ?_;refine bQ ?_;refine bO _ (h:=hq (bb:=λI hw=>arp t g (k:Int) z (s.ag.map (b5 a)) (cc t) (s.bh<<<a) false false i.a I ok (by omega) (hw.dX) (hw.now c0)) (ab:=?_));rintro anK bx bc rfl cu;refine aF ?_ ek;refine cA _ ek (bQ ?_);rw[oH,gN];by_cases ay:(jL (bS s i.a).has).2=true
  ·rw[aou ((Cx a _).2 ay),I0 ay];have hmem:(jL (bS s i.a).has).1∈cc t:=by have eC:=uE;rw[Eh ay]at eC;exact eC.2
   refine eP (λ_=>True) (h:=eB (es:=kq z (dP a A s) (s.ag.map (b5 a))) (H:=rQ t g k a A z s cY ec dK i) (bb:=λI hw=>LO t g k a A z s j (jL (bS s i.a).has).1 _ (bS s i.b) _ (bS s i.a).on _ I c hmem rfl rfl (xA a _) IL Zy hw.dt.ew) (ab:=?_));rintro r ck es bY ⟨eu,s',gv,j4,bu,b2,iO,rfl,rfl,cS⟩;refine aF (aN ?_) dz;refine bO _ (h:=bK 6 (h1:=iP iO _ _ _ _ _) (ab:=?_));refine aF (aN ?_) dz;refine af ?_;exact eL rfl (.c1 rfl oQ rfl) (ie eu (dP a A s') (s'.ag.map (b5 a))) [5,0,1,2,3,4] (lu:=by unfold ie dP;rw[bu,b2];rfl) λI hw=>⟨eu,s',gv,j4,iO,rfl,rfl,by subst hi;rw[G3 nj ay];exact cS⟩
  rw[aot λq=>ay ((Cx a _).1 q)];refine eP (λ_=>True) (h:=eB (es:=kq z (dP a A s) (s.ag.map (b5 a))) (H:=rQ t g k a A z s cY ec dK i) (bb:=λI hw=>TK t g (k:Int) z (dP a A s) (s.ag.map (b5 a)) (s.bh<<<a) _ (j:Int) (-1) (b5 a (bS s i.b)) I ok mL jX zb hw.dt.ew) (ab:=?_));rintro r ck es bY (⟨_,rfl,rfl⟩ | ⟨⟨h0,_⟩,_⟩)
  ·refine aF (aN ?_) dz;refine bO _ (h:=bK 6 (h1:=iP ok t (k:Int) (s.bh<<<a) true false) (ab:=?_));refine aF (aN ?_) dz;refine af ?_;exact eL rfl (.c1 rfl oQ rfl) (ie z (dP a A s) (s.ag.map (b5 a))) [5,0,1,2,3,4] λI hw=>⟨z,s,true,false,ok,rfl,rfl,by subst hi;rw[UD nj (aoW.2 ay)];exact⟨rfl,rfl⟩⟩
  exact absurd h0 (by decide)
 rw[au]at nj;have nj:¬i.op=7:=nj;refine dp (λql=>?_) λql=>?_
 ·rw[an]at ql;have ql:i.op=8:=ql;refine af ?_;have P8:eF i.c3=true:=bV.c3;have X8:wC i.op (b5 a (bS s i.a)) ⟨1,i.c3,bg,0#64⟩=b5 a (jF s i):=by have e:=KP i.op (.inl ql) a (bS s i.a) ⟨.num i.c3,0#64⟩ (si uE c.a64) (si (cx:=ez t k a) (J:=s.J) P8 c.a64);rw[Cy,apB]at e;rw[e];unfold jF;dsimp only;rw[aou ql,aot (by omega)]
  refine cz [0,1,2,3,4,5,6,7,8,9,10,11,12,13,14,15,16] mixed ?_;refine bQ ?_;rw[oH];refine bO _ (h:=bp (λI hw=>LM i.op (b5 a (bS s i.a)) ⟨1,i.c3,bg,0#64⟩ I (si uE c.a64) (si (cx:=ez t k a) (J:=s.J) (a:=a) (x:=⟨.num i.c3,0#64⟩) P8 c.a64)) ?_);rintro Vf bx bc rfl cu;refine aF ?_ ek;refine cA _ ek (bQ ?_);refine eP (λ_=>True) (h:=eB (es:=[.own z.rg 133 4 gu (s.ag.map (b5 a))]) (H:=np z (dP a A s)++rQ t g k a A z s cY ec dK i) (bb:=λI hw=>Bp t g (k:Int) z (s.ag.map (b5 a)) (s.bh<<<a) false false i.d (wC i.op (b5 a (bS s i.a)) ⟨1,i.c3,bg,0#64⟩) I ok (by omega) (by omega) hw.dt.ew) (ab:=?_));rintro r ck es bY ⟨k1,kD,rfl,rfl⟩;rw[X8,Be];have iO:kM g {z with rg:=k1}:=⟨g1,g2,g3,g4,g5,g6,g7,kD,z2,z3,z4,z5,ov⟩;refine aF (aN ?_) dz;refine bO _ (h:=bK 6 (h1:=iP iO _ _ _ _ _) (ab:=?_));refine aF (aN ?_) dz;refine af ?_;exact eL rfl (.c1 rfl oQ rfl) (ie {z with rg:=k1} (dP a A s) ((gP t.aC s.ag i.d (jF s i)).map (b5 a))) [5,0,1,2,3,4] λI hw=>⟨{z with rg:=k1},{s with ag:=gP t.aC s.ag i.d (jF s i)},false,false,iO,rfl,rfl,by subst hi;rw[DO (.inl ql)];exact⟨rfl,rfl,rfl,rfl⟩⟩
 rw[au]at ql;have ql:¬i.op=8:=ql;refine dp (λsD=>?_) λsD=>?_
 ·rw[an]at sD;have sD:i.op=9:=sD;refine dp (λhe=>?_) λhe=>?_
  ·rw[an]at he;refine af ?_;refine cz [0,1,2,3,4,5,6,7,8,9,10,11,12] mixed ?_;refine bQ ?_;rw[oH,xA];have Ae:(⟨1,0,bg,(bS s i.a).on<<<a⟩:fX)=b5 a (jF s i):=by unfold jF;dsimp only;rw[aot (show ¬i.op=8 by omega),aou ⟨sD,he⟩,<-he,BitVec.or_self];rfl
   refine eP (λ_=>True) (h:=eB (es:=[.own z.rg 133 4 gu (s.ag.map (b5 a))]) (H:=np z (dP a A s)++rQ t g k a A z s cY ec dK i) (bb:=λI hw=>Bp t g (k:Int) z (s.ag.map (b5 a)) (s.bh<<<a) false false i.d ⟨1,0,bg,(bS s i.a).on<<<a⟩ I ok (by omega) (by omega) hw.dt.ew) (ab:=?_));rintro r ck es bY ⟨k1,kD,rfl,rfl⟩;rw[Ae,Be];have iO:kM g {z with rg:=k1}:=⟨g1,g2,g3,g4,g5,g6,g7,kD,z2,z3,z4,z5,ov⟩;refine aF (aN ?_) dz;refine bO _ (h:=bK 6 (h1:=iP iO _ _ _ _ _) (ab:=?_));refine aF (aN ?_) dz;refine af ?_;exact eL rfl (.c1 rfl oQ rfl) (ie {z with rg:=k1} (dP a A s) ((gP t.aC s.ag i.d (jF s i)).map (b5 a))) [5,0,1,2,3,4] λI hw=>⟨{z with rg:=k1},{s with ag:=gP t.aC s.ag i.d (jF s i)},false,false,iO,rfl,rfl,by subst hi;rw[DO (.inr (.inl sD))];exact⟨rfl,rfl,rfl,rfl⟩⟩
  rw[au]at he;refine af ?_;have Ae:wC i.op (b5 a (bS s i.a)) (b5 a (bS s i.b))=b5 a (jF s i):=by rw[KP i.op (.inr (.inl sD)) a _ _ (si uE c.a64) (si vU c.a64)];unfold jF;dsimp only;rw[aot (show ¬i.op=8 by omega),aot (show ¬(i.op=9/\i.a=i.b)from(λq=>he q.2))]
  refine cz [0,1,2,3,4,5,6,7,8,9,10,11,12,13,14,15,16,17,18,19] mixed ?_;refine bQ ?_;rw[oH,gN];refine bO _ (h:=bp (λI hw=>LM i.op (b5 a (bS s i.a)) (b5 a (bS s i.b)) I (si uE c.a64) (si vU c.a64)) ?_);rintro Vf bx bc rfl cu;refine aF ?_ ek;refine cA _ ek (bQ ?_);refine eP (λ_=>True) (h:=eB (es:=[.own z.rg 133 4 gu (s.ag.map (b5 a))]) (H:=np z (dP a A s)++rQ t g k a A z s cY ec dK i) (bb:=λI hw=>Bp t g (k:Int) z (s.ag.map (b5 a)) (s.bh<<<a) false false i.d (wC i.op (b5 a (bS s i.a)) (b5 a (bS s i.b))) I ok (by omega) (by omega) hw.dt.ew) (ab:=?_));rintro r ck es bY ⟨k1,kD,rfl,rfl⟩;rw[Ae,Be];have iO:kM g {z with rg:=k1}:=⟨g1,g2,g3,g4,g5,g6,g7,kD,z2,z3,z4,z5,ov⟩;refine aF (aN ?_) dz;refine bO _ (h:=bK 6 (h1:=iP iO _ _ _ _ _) (ab:=?_));refine aF (aN ?_) dz;refine af ?_;exact eL rfl (.c1 rfl oQ rfl) (ie {z with rg:=k1} (dP a A s) ((gP t.aC s.ag i.d (jF s i)).map (b5 a))) [5,0,1,2,3,4] λI hw=>⟨{z with rg:=k1},{s with ag:=gP t.aC s.ag i.d (jF s i)},false,false,iO,rfl,rfl,by subst hi;rw[DO (.inr (.inl sD))];exact⟨rfl,rfl,rfl,rfl⟩⟩
 rw[au]at sD;have sD:¬i.op=9:=sD;refine dp (λwG=>?_) λwG=>?_
 ·rw[an]at wG;have wG:i.op=10:=wG;refine af ?_;have EC:wC i.op (b5 a (bS s i.a)) (b5 a (bS s i.b))=b5 a (jF s i):=by rw[KP i.op (.inr (.inr wG)) a _ _ (si uE c.a64) (si vU c.a64)];unfold jF;dsimp only;rw[aot (show ¬i.op=8 by omega),aot (show ¬(i.op=9/\i.a=i.b)from(λq=>by omega))]
  refine cz [0,1,2,3,4,5,6,7,8,9,10,11,12,13,14,15,16,17,18,19] mixed ?_;refine bQ ?_;rw[oH,gN];refine bO _ (h:=bp (λI hw=>LM i.op (b5 a (bS s i.a)) (b5 a (bS s i.b)) I (si uE c.a64) (si vU c.a64)) ?_);rintro Vf bx bc rfl cu;refine aF ?_ ek;refine cA _ ek (bQ ?_);refine eP (λ_=>True) (h:=eB (es:=[.own z.rg 133 4 gu (s.ag.map (b5 a))]) (H:=np z (dP a A s)++rQ t g k a A z s cY ec dK i) (bb:=λI hw=>Bp t g (k:Int) z (s.ag.map (b5 a)) (s.bh<<<a) false false i.d (wC i.op (b5 a (bS s i.a)) (b5 a (bS s i.b))) I ok (by omega) (by omega) hw.dt.ew) (ab:=?_));rintro r ck es bY ⟨k1,kD,rfl,rfl⟩;rw[EC,Be];have iO:kM g {z with rg:=k1}:=⟨g1,g2,g3,g4,g5,g6,g7,kD,z2,z3,z4,z5,ov⟩;refine aF (aN ?_) dz;refine bO _ (h:=bK 6 (h1:=iP iO _ _ _ _ _) (ab:=?_));refine aF (aN ?_) dz;refine af ?_;exact eL rfl (.c1 rfl oQ rfl) (ie {z with rg:=k1} (dP a A s) ((gP t.aC s.ag i.d (jF s i)).map (b5 a))) [5,0,1,2,3,4] λI hw=>⟨{z with rg:=k1},{s with ag:=gP t.aC s.ag i.d (jF s i)},false,false,iO,rfl,rfl,by subst hi;rw[DO (.inr (.inr wG))];exact⟨rfl,rfl,rfl,rfl⟩⟩
 rw[au]at wG;have wG:¬i.op=10:=wG;refine af ?_;refine aq (bK 6 (h1:=iP ok t (k:Int) (s.bh<<<a) false false) (ab:=af ?_));exact eL rfl (.c1 rfl oQ rfl) (ie z (dP a A s) (s.ag.map (b5 a))) [5,0,1,2,3,4] λI hw=>⟨z,s,false,false,ok,rfl,rfl,by subst hi;rw[UE λn bd q=>by rcases bd with rfl | rfl | rfl | rfl | rfl | rfl | rfl | rfl | rfl | rfl | rfl | rfl<;>contradiction];exact⟨rfl,rfl,rfl,rfl⟩⟩
def Nr(r:oZ)(s':cg)(gv:Bool)(ml za:Int):Prop:=(r=.ho/\gv=true/\ml=za)\/∃oN:Nat,r=.go s' oN/\gv=false/\ml=(oN:Int)
theorem agD(t:aV)(g:mv)(k a:Nat)(z:iF)(s:cg)(j:Nat)(w:World)(ok:kM g z)(C:l1 (ez t k a))(S:gH (ez t k a) s j)(ae:j<(t.code.getD k default).length)(eA:(t.code.getD k default).length<=256)(i:Instr)(hi:(t.code.getD k default).getD j default=i)(bn:i.op=11)(uo:Value)(cT:Nat)(pc:cT=nJ (t.code.getD k default) j) (cj:aZ al w gu 4 z.rg (s.ag.map (b5 a))) (hC:aZ al w cL 8 uo (t.code.getD k default)): bl prog 119 [.agg (gA t g (k:Int) z (s.bh<<<a) false false).toArray,uo,.int .i64 (j:Int),.int .i64 (cT:Int)] w λ_ v _=>∃gv ml,v=.tuple #[.agg (gA t g (k:Int) z ((oC s i).bh<<<a) gv false).toArray,.int .i64 ml]/\Nr (qD (ez t k a) s j) (oC s i) gv ml ((j:Int)+1):=by
 have bV:ri t.aC i:=hi▸yj C S ae;have Fi:=bV.a;have pb:=bV.b;have ep:s.ag.length=cn t.aC:=S.lW;have xF:(s.ag.map (b5 a)).length=cn t.aC:=by rw[aoJ,ep]
 have oH:(s.ag.map (b5 a)).getD i.a.toNat default=b5 a (bS s i.a):=Cw (by omega);have gN:(s.ag.map (b5 a)).getD i.b.toNat default=b5 a (bS s i.b):=Cw (by omega);obtain⟨uI,sm,_⟩:=FZ (AS C ae (by show((t.code.getD k default).getD j default).op=11;rw[hi];exact bn));have uI:j+1<=cT:=by rw[pc];exact uI
 have sm:cT<(t.code.getD k default).length:=by rw[pc];exact sm
 have hg:=acw a (bS s i.a) (bS s i.b);have fP:=hC.aK;have mO:=ok;obtain⟨g1,g2,g3,g4,g5,g6,g7,mP,z2,z3,z4,z5,ov⟩:=ok;have fin:∀(gv:Bool) (ml:Int),(if(bS s i.a).has.oM||(bS s i.b).has.oM then(!gv)=uR (t.code.getD k default) (j+1) cT/\((!gv)=true->ml=(j:Int)+1)else(!gv)=true/\ml=if sR (bS s i.a).has (bS s i.b).has then(cT:Int)else(j:Int)+1)->(gv=true->ml=(j:Int)+1)->Nr (qD (ez t k a) s j) (oC s i) gv ml ((j:Int)+1):=λgv ml h ba=>by
  subst hi;rw[pc]at h;rcases N4 (cx:=ez t k a) h with⟨h1,h2⟩ | ⟨oN,h1,h2,h3⟩
  ·have h2:gv=true:=by simpa using h2
   exact .inl ⟨h1,h2,ba h2⟩
  exact .inr ⟨oN,h1,by simpa using h2,h3⟩
 refine ha func119 ntmps119 ?_;refine e4 λcO=>?_;refine ei λdx=>?_;refine ih (λ_:Nat×Nat=>True) (λy=>[(11,true,.pointer (some ⟨y.2,0,none⟩)),(10,true,.pointer (some ⟨y.1,0,none⟩)),(8,true,av dx),(4,true,av cO),(3,true,.int .i64 (cT:Int)),(2,true,.int .i64 (j:Int)),(1,true,uo)]) (λy=>Mem [(w,al)] [.box y.2 (gu (b5 a (bS s i.b))) 133,.box y.1 (gu (b5 a (bS s i.a))) 133,.box dx DG 129,.box cO (gA t g (k:Int) z (s.bh<<<a) false false) 129]) ?_ ?_
 ·refine cz [0,1,2,3,4,5,6,7,8,9,10,11,12,13,14,15,16,17,999] mixed ?_;refine bQ ?_;rw[hi];refine bQ ?_;rw[hi];refine bQ ?_;rw[oH,gN];refine mf 18 19 ?_ ?_
  ·refine cp [999] _ (h:=fb ?_);intro dT;refine aF ?_ iR;refine ed 19 ?_;refine cp [20,21] _ (h:=fb ?_);intro df;refine aF ?_ λ_ h=>h.tail.tail;refine bO _ (h:=bK 1 (ab:=?_));refine aF ?_ (b4 [2,3]);refine gw (h:=bK 0 (ab:=?_));exact b6 (dT,df) trivial (hA:=b4 [0,1,2,3])
  refine cp [999] _ (h:=fb ?_);intro df;refine aF ?_ iR;refine ed 18 ?_;refine cp [20,21] _ (h:=fb ?_);intro dT;refine aF ?_ λ_ h=>h.tail.tail;refine bO _ (h:=bK 0 (ab:=?_));refine aF ?_ (b4 [2,3]);refine gw (h:=bK 1 (ab:=?_));exact b6 (dT,df) trivial (hA:=b4 [1,0,2,3])
 rintro⟨dT,df⟩ _;have Az:s.bh<<<a||| (b5 a (bS s i.a)).on||| (b5 a (bS s i.b)).on=(oC s i).bh<<<a:=by rw[xA,xA];unfold oC;rw[BitVec.shiftLeft_or_distrib,BitVec.shiftLeft_or_distrib]
 refine af ?_;refine aq (bK 3 (ab:=?_));refine cA (Mem [(w,al)] [.box df (gu (b5 a (bS s i.b))) 133,.box dT (gu (b5 a (bS s i.a))) 133,.box dx DG 129,.box cO (gA t g (k:Int) z ((oC s i).bh<<<a) false false) 129]) (λ_ h=>by rw[<-Az];exact h) ?_;refine af ?_;refine aq (bp (λI hw=>agE (b5 a (bS s i.a)) (b5 a (bS s i.b)) I) ?_);rintro v45 bx bc rfl cu;refine cA _ ek (af ?_);rw[hg];generalize mG:((bS s i.a).has.oM||(bS s i.b).has.oM)=op at fin⊢;refine bC (λh1=>?_) λh1=>?_
 ·have bn:op=false:=by cases op;rfl;simp at h1
  subst bn;rw[Rq a _ _ mG]at h1;refine af ?_;refine aq (bK 2 (h1:=iP mO t (k:Int) ((oC s i).bh<<<a) false false) (ab:=af ?_));refine bT rfl (.dv rfl hy rfl (.t1 rfl)) λI hw=>⟨false,(cT:Int),rfl,fin _ _ ?_ λh=>(by cases h)⟩;rw[aot apK];refine⟨rfl,?_⟩;rw[aou];simpa using h1
 refine af ?_;refine bX (λy:Nat×Bool=>j+1<=y.1/\y.1<=cT/\(op=false->y.1=j+1)/\(y.2=false↔∀q,j+1<=q->q<y.1->((t.code.getD k default).getD q default).op=12)) (λy=>[(14,true,.int .i64 (y.1:Int)),(13,true,.bool (!op)),(8,true,av dx),(4,true,av cO),(3,true,.int .i64 (cT:Int)),(2,true,.int .i64 (j:Int)),(1,true,uo)]) (λy=>Mem [(w,al)] [.box dx DG 129,.box cO (gA t g (k:Int) z ((oC s i).bh<<<a) y.2 false) 129]) (λy=>cT-y.1) (j+1,false) ⟨aoL _,uI,λ_=>rfl,by dsimp only;exact⟨λ_ q cB bz=>by omega,λ_=>rfl⟩⟩ ?_ ⟨rfl,rfl,rfl,rfl,rfl,rfl,rfl,trivial⟩ λ_ h=>h.tail.tail
 rintro⟨l,gv⟩ ⟨h2,h3,aA,a6⟩;dsimp only at h2 h3 aA a6⊢;refine dp (λcE=>?_) λcE=>?_
 ·rw[aoo,an]at cE;have dL:l<cT:=by omega
  have bn:op=true:=by have:=cE.2;cases op<;>simp at this⊢
  subst bn;refine dp (λdZ=>?_) λdZ=>?_
  ·rw[aoq,au]at dZ;refine af ?_;refine c7 1 ?_;refine bm (l+1,true) ⟨by dsimp only;omega,dL,λh=>(by cases h),?_⟩ (by dsimp only;omega);exact⟨λh=>(by cases h),λh=>absurd (h l h2 (apN l)) dZ⟩
  rw[aos,an]at dZ;refine af ?_;refine bm (l+1,gv) ⟨by dsimp only;omega,dL,λh=>(by cases h),?_⟩ (by dsimp only;omega);dsimp only;rw[a6];refine⟨λh q cB bz=>?_,λh q cB bz=>h q cB (by omega)⟩;by_cases e:q=l
  ·rw[e];exact dZ
  exact h q cB (by omega)
 rw[aoC,au]at cE;refine af ?_;refine aq (bK 0 (h1:=iP mO t (k:Int) ((oC s i).bh<<<a) gv false) (ab:=af ?_));refine bT rfl (.dv rfl aP rfl (.t1 rfl)) λI hw=>⟨gv,(j:Int)+1,rfl,fin _ _ ?_ λ_=>rfl⟩;cases op with
 | true=>
  have dL:l=cT:=by
   rcases cE with cE | cE
   ·omega
   cases cE
  subst dL;rw[aou rfl];refine⟨?_,λ_=>rfl⟩;have hx:uR (t.code.getD k default) (j+1) l=true↔gv=false:=by rw[Ko (by omega),a6];refine⟨λh q cB bz=>?_,λh q cB=>h _ (by omega) (by omega)⟩;have:=h (q-(j+1)) (by omega);rwa[show j+1+(q-(j+1))=q by omega]at this
  rw[aoR,hx];simp
 | false=>
  have dL:=aA rfl;subst dL;have hf:gv=false:=a6.2 λq cB bz=>by omega
  subst hf;rw[aot apK];refine⟨rfl,?_⟩;rw[Rq a _ _ mG]at h1;rw[aot];simpa using h1
end Go.Proofs.bA
namespace Go.b9
open Go Go.RowKit
universe u
theorem ajX{P:Program}{N:Nat}{Q pZ:Exit->Act->World->Prop}{tm:dY}{A:World->Prop}{x y:Code}{e2:Type u}(ee:e2->Prop)(T:e2->dY)(bV:e2->World->Prop) (h:fp P N x (Exit.then (mQ N ee T bV) pZ) tm A) (aY:∀s,ee s->fp P N y Q (T s) (bV s)):fp P N x (Exit.then (λa w=>y.wp P Q a w) pZ) tm A:=by
 unfold fp cR at *;intro a w aj hw;refine wp_mono (h a w aj hw) λe dJ I q=>?_;cases e with
 | normal=>have q':mQ N ee T bV dJ I:=q;unfold mQ at q';obtain⟨s,iq,cy,fs⟩:=q';exact aY s iq dJ I cy fs
 | _=>exact q
end Go.b9
attribute [local irreducible] Go.wpList Go.Code.wp Go.bodyPost Go.Exit.then Go.Exit.inBlock Go.Calls
namespace Go.Proofs.bA
theorem abI(a:Nat)(x:mu):wq x=b5 a (oL x):=by
 unfold wq oL;split
 ·rw[Cy,apB]
 show _=(⟨2,0,x.value.loc,0#64<<<a⟩:fX);rw[apB]
theorem WH(t:aV)(k a:Nat):s7 t (k:Int) t.init.length=(fm t k).ag.map (b5 a):=by
 have key:∀(l:List mu) (r:List eO),l.foldl (λl x=>if x.aH=(k:Int)then l.set x.bo.toNat (wq x)else l) (r.map (b5 a))=(l.foldl (λl x=>if x.aH=(k:Int)then l.set x.bo.toNat (oL x)else l) r).map (b5 a):=by
  intro l
  induction l with
  | nil=>intro r;rfl
  | cons x l bP=>
   intro r;rw[apR,apR,<-bP];congr 1;split
   ·rw[abI a,List.map_set]
   rfl
 unfold s7;rw[aoZ];show _=(sK t (k:Int)).map (b5 a);unfold sK;rw[<-key];congr 1;rw[List.map_replicate,Cy,apB]
theorem ac6{cx:fg}(C:l1 cx)(ay:cx.aC=2){k:Nat}(hk:k<cx.code.length)(bn:(cx.code.getD k default).op=11):mM cx.code k=((nJ cx.code k:Nat):Int):=by rw[<-Rx (C.cT ay) hk];unfold zd;rw[aou bn,AS C hk bn]
theorem iS.ac8{t:aV}(G:iS t)(ay:t.aC=2){k:Nat}(hk:k<t.code.length):lQ (t.code.getD k default)=0:=by have hm:=eN (l:=t.code) hk;have ai:=G.len _ hm;refine Kw (by omega) (λi hi=>?_) (G.cT ay _ hm);have:=G.ins _ hm _ (eN hi);rw[ay]at this;exact this
def sM(z:iF)(A:j1):List aB:=[.own z.aI 138 6 ef A.J,.own z.bv 140 3 fE A.bars,.own z.aG 178 2 bB A.addr,.own z.aR 178 2 bB A.data,.own z.ad 178 2 bB A.bh]
def V6(t:aV)(g:mv)(k a:Nat)(A:j1):Nat->Value->List aB->World->Prop:=λ_ v es _=>∃(eu:iF) (s':cg) (gv j4:Bool),kM g eu/\v=.agg (gA t g (k:Int) eu (s'.bh<<<a) gv j4).toArray/\es=ie eu (dP a A s') (s'.ag.map (b5 a))/\ match rR t k a with
 | .ho=>gv=true/\j4=false
 | .full=>j4=true
 | .go s2 _=>gv=false/\j4=false/\s2=s'
def DH(t:aV)(g:mv)(k a:Nat)(ey cY:Nat)(z:iF)(s:cg)(gv j4:Bool):List aB:=[.box ey (gA t g (k:Int) z (s.bh<<<a) gv j4) 129,.box cY DG 129]
theorem OJ(a:Nat)(A:j1)(t:aV)(k:Nat):dP a A (fm t k)=A:=by unfold dP fm;dsimp only;simp only[List.map_nil,aoH]
theorem agG(t:aV)(ah ad ao:Value)(vs:List Value)(ak ff tt bj:Value)(k a:Nat)(A:j1)(z:iF)(w:World)(G:iS t)(hk:k<t.code.length)(hA:A.J.length=a)(ak3:a<=64)(iW:A.addr.length<=5000/\A.data.length<=5000/\A.bh.length<=5000/\A.bars.length<=5000) (bL:gW (bJ (sM z A)) w ah ad ao vs t) (c0:aZ (bJ (sM z A)) w dU 1 ak (cc t)) (aj:aD ff/\aD tt/\aD bj/\aD z.aI/\aD z.bv/\aD z.aG/\aD z.aR/\aD z.ad) (hw:Mem [] (sM z A) w): eY prog 49 [.agg (c6 t ah ad ao).toArray,.agg #[ak,ff,z.aI,z.bv,z.aG,z.aR,z.ad,tt,bj],.int .i64 (k:Int)] (sM z A) w (V6 t ⟨ah,ad,ao,ak,ff,tt,bj⟩ k a A):=by
 obtain⟨t1,t2,t3⟩:=bL.jY;obtain⟨s1,s2,cJ,dw,dk,eM,eb,fl⟩:=aj;obtain⟨mL,jX,zb,FY⟩:=iW;have tB:=c0.aK;have vV:=bL.nX;have iv:=bL.nA;have hC:=bL.code k (by omega);have Zb:=hC.aK;have C:=G.cx hk a;have h0:=G.dd hk a;have eA:(t.code.getD k default).length<=256:=G.len _ (eN hk);have C2:mS (ez t k a) (fm t k) 0:=⟨aoD _,aoD _,aoD _,aoD _,aoD _⟩;refine j3 func49 ntmps49 hw ?_;refine e4 λdK=>?_;refine e4 λcO=>?_;refine ei λcY=>?_;refine aq (gi (λI hw=>agC t ⟨ah,ad,ao,ak,ff,tt,bj⟩ vs k z I G hk (bL.now hw) ⟨tB,s1,dw,dk,eM,eb,fl,s2,cJ⟩) ?_);rintro ajv bx es bc ⟨rg,kD,rfl,rfl⟩;generalize az:(⟨ah,ad,ao,ak,ff,tt,bj⟩:mv)=g at *;have mO:kM g {z with rg:=rg}:=by subst az;exact⟨t1,t2,t3,tB,s1,s2,cJ,kD,dw,dk,eM,eb,fl⟩
 rw[WH t k a];refine af ?_;refine ei λey=>?_;refine aq (bK 0 (h1:=iP mO t (k:Int) (0#64) false false) (ab:=af ?_));refine aq (gC _ _ _ _ _ _ (ab:=λv22 QP=>af ?_));refine ajX (λy:Value×(Nat->Prop)×World=>aD y.1/\(t.aC=2->aZ y.2.1 y.2.2 a7 1 y.1 (qT (t.code.getD k default)))) (λy=>[(9,true,y.1),(8,true,vs.getD k default),(7,true,av ey),(6,true,av cY)]) (λy=>Mem [(y.2.2,y.2.1),(w,bJ (sM z A))] (ie {z with rg:=rg} (dP a A (fm t k)) ((fm t k).ag.map (b5 a))++DH t g k a ey cY {z with rg:=rg} (fm t k) false false)) ?_ ?_
 ·have xv:(fm t k).bh<<<a=0#64:=(apB a:0#64<<<a=0#64);refine bC (λh1=>?_) λh1=>?_
  ·rw[an]at h1;refine af ?_;refine aq (bp (λI hw=>Ta (vs.getD k default) (t.code.getD k default) I (hw.now hC)) ?_);rintro Vh ck bY ⟨Kx,bk,sn,rfl,CF⟩ eZ;refine af ?_;exact b6 (Kx,Fr ck,bY) ⟨sn,λ_=>CF (iS.ac8 G h1 hk)⟩ (hA:=λ_ h=>by unfold DH;rw[OJ,xv];exact h.uu.cC [7,2,6,8,9,10,1,3])
  rw[au]at h1;refine af ?_;exact b6 (v22,bJ (sM z A),w) ⟨QP,λh=>absurd h h1⟩ ⟨rfl,rfl,rfl,rfl,trivial⟩ (λ_ h=>by unfold DH;rw[OJ,xv];exact(h.B8 (bs':=[(w,bJ (sM z A)),(w,bJ (sM z A))]) λB hB=>by simp at hB;rw[hB];exact .tail _ aP).cC [7,2,6,8,9,10,1,3])
 rintro⟨Kx,Np,wl⟩ ⟨sn,CF⟩;dsimp only at sn CF⊢;refine af ?_;refine bX (λy:Nat×iF×cg×Bool×Bool=>y.1<=(t.code.getD k default).length/\kM g y.2.1/\((y.2.2.2.1=false/\y.2.2.2.2=false/\Rd (ez t k a) (fm t k) y.2.2.1 y.1/\mS (ez t k a) y.2.2.1 y.1)\/(y.2.2.2.1=true/\y.2.2.2.2=false/\rR t k a=.ho)\/(y.2.2.2.1=false/\y.2.2.2.2=true/\rR t k a=.full))) (λy=>[(10,true,.int .i64 y.1),(9,true,Kx),(8,true,vs.getD k default),(7,true,av ey),(6,true,av cY)]) (λy=>Mem [(wl,Np),(w,bJ (sM z A))] (ie y.2.1 (dP a A y.2.2.1) (y.2.2.1.ag.map (b5 a))++DH t g k a ey cY y.2.1 y.2.2.1 y.2.2.2.1 y.2.2.2.2)) (λy=>(t.code.getD k default).length-y.1) (0,{z with rg:=rg},fm t k,false,false) ⟨aoD _,mO,.inl ⟨rfl,rfl,.zero,C2⟩⟩ ?_
 rintro⟨j,z2,s,gv,j4⟩ ⟨ae,ok,lz⟩;dsimp only at ae ok lz⊢;have alN:=ok.rg;refine dp (λh2=>?_) λh2=>?_
 ·rw[aoo,aoo,an,aoq,aoq]at h2;obtain⟨⟨h2,rfl⟩,rfl⟩:=h2;have gD:j<(t.code.getD k default).length:=by omega
  obtain⟨_,_,h8,ej⟩:=lz.resolve_right (by rintro(⟨q,_⟩ | ⟨_,q,_⟩)<;>cases q);have fQ:=h8.ok C h0;have PV:a+s.J.length<=64:=h8.HT (show a+0<=64 by omega);have ai:zO t g k a A z2 s:=by have bu:=ej.J;have b2:=ej.addr;have gg:=ej.data;have lp:=ej.dF;exact⟨ok,hA,PV,mL,jX,zb,by omega,by omega,by omega,fQ.bh,fQ.lW⟩
  have lr:(dP a A s).bars.length<=100000:=by have:=ej.bars;unfold dP;rw[aoy];omega
  obtain⟨i,hi⟩:∃i,(t.code.getD k default).getD j default=i:=⟨_,rfl⟩;refine af ?_;rw[hi];refine bC (λlh=>?_) λlh=>?_
  ·rw[an]at lh;have lh:i.op=11:=lh;have JM:((ez t k a).code.getD j default).op=11:=by show((t.code.getD k default).getD j default).op=11;rw[hi];exact lh
   have Aq:t.aC=2:=by
    rcases G.aC with q | q
    ·have:=(show ri t.aC i from hi▸yj C fQ gD).A8 q;omega
    exact q
   have CF:=CF Aq;have iy:(qT (t.code.getD k default)).length=(t.code.getD k default).length:=by unfold qT;simp
   have Z2:(qT (t.code.getD k default)).getD j default=((nJ (t.code.getD k default) j:Nat):Int):=(tp gD).trans (ac6 C Aq gD JM);refine af ?_;refine cz [0,1,2,3,4,5,6,7,8,9,10,11,12] mixed ?_;refine bQ ?_;rw[Z2];refine eP (Mem [(wl,Np),(w,bJ (sM z A))] (ie z2 (dP a A s) (s.ag.map (b5 a)))) (h:=bp (λI hw=>agD t g k a z2 s j I ok C fQ gD eA i hi lh (vs.getD k default) (nJ (t.code.getD k default) j) rfl (hw.dX) (hw.now hC)) ?_);rintro v60 hj fW ⟨akI,ml,rfl,cS⟩ nG;refine aF ?_ λ_ h=>h.cX.dt;refine cA _ ek (aN ?_);refine bO _ (h:=bK 6 (h1:=iP ok _ _ _ _ _) (ab:=?_));refine aF (aN ?_) λ_ h=>h.dt;refine af ?_;rcases cS with⟨hb,rfl,rfl⟩ | ⟨oN,hb,rfl,rfl⟩
   ·exact bm (j+1,z2,oC s i,true,false) ⟨gD,ok,.inr (.inl ⟨rfl,rfl,DI C h0 h8 gD ((G2 JM).trans hb) λ_ _ z=>by cases z⟩)⟩ (by dsimp only;omega)
   have cS:=(G2 JM).trans hb;have hok:=wU C fQ gD cS;have dq:=hok.1;exact bm (oN,z2,oC s i,false,false) ⟨hok.2.le,ok,.inl ⟨rfl,rfl,.step h8 gD cS,G5 ej (by omega) cS⟩⟩ (by dsimp only;omega)
  rw[au]at lh;have lh:¬i.op=11:=lh;refine af ?_;refine cz [0,1,2,3,4,5,6,7] mixed ?_;refine bQ ?_;rw[hi];refine eP (λ_=>True) (h:=eB (es:=ie z2 (dP a A s) (s.ag.map (b5 a))) (H:=DH t g k a ey cY z2 s false false) (bb:=λI hw=>agJ t g k a A z2 s j I ai C fQ gD i hi lh lr (by subst az;exact hw.iD c0 dg λe he=>aoK _ he) hw.dt.ew) (ab:=?_));rintro r hj akH fW ⟨z3,cJ,akJ,akK,zj,rfl,rfl,cS⟩;refine aF (aN ?_) dz;refine bO _ (h:=bK 6 (h1:=iP zj _ _ _ _ _) (ab:=?_));refine aF (aN ?_) dz;refine af ?_;cases aM:fR (ez t k a) s j with
  | ho=>rw[aM]at cS;obtain⟨rfl,rfl⟩:=cS;exact bm (j+1,z3,cJ,true,false) ⟨gD,zj,.inr (.inl ⟨rfl,rfl,DI C h0 h8 gD aM λ_ _ z=>by cases z⟩)⟩ (by dsimp only;omega)
  | full=>rw[aM]at cS;obtain⟨rfl,rfl⟩:=cS;exact bm (j+1,z3,cJ,false,true) ⟨gD,zj,.inr (.inr ⟨rfl,rfl,DI C h0 h8 gD aM λ_ _ z=>by cases z⟩)⟩ (by dsimp only;omega)
  | go dw ab5=>rw[aM]at cS;obtain⟨rfl,rfl,rfl,rfl⟩:=cS;exact bm (j+1,z3,dw,false,false) ⟨gD,zj,.inl ⟨rfl,rfl,.step h8 gD aM,G5 ej (by omega) aM⟩⟩ (by dsimp only;omega)
 refine af ?_;refine aq (bK 7 (h1:=iP ok _ _ _ _ _) (ab:=af ?_));refine eL rfl (.c1 rfl xR rfl) (ie z2 (dP a A s) (s.ag.map (b5 a))) [0,1,2,3,4,5] λI hw=>⟨z2,s,gv,j4,ok,rfl,rfl,?_⟩;rcases lz with⟨rfl,rfl,h8,ej⟩ | ⟨rfl,rfl,aM⟩ | ⟨rfl,rfl,aM⟩
 ·have eW:(t.code.getD k default).length<=j:=by
   rw[aoC,aoC,au]at h2;rcases h2 with(q | q) | q
   ·omega
   ·cases q
   cases q
  rw[show rR t k a=.go s j from TY C h0 h8 eW];exact⟨rfl,rfl,rfl⟩
 ·rw[aM];exact⟨rfl,rfl⟩
 rw[aM]
end Go.Proofs.bA
