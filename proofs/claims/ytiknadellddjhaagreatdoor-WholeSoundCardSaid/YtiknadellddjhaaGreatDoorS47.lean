/- Lemmas for the law WholeSound. -/
import Derived.Test.YtiknadellddjhaaGreatDoorS45
import Derived.Test.YtiknadellddjhaaGreatDoorS46
set_option linter.all false
open Go.Proofs.Tryz
set_option maxHeartbeats 12800000
open Go Go.cc Go.bU Go.gH Go.eV
attribute [local irreducible] Go.wpList Go.Code.wp Go.bodyPost Go.Exit.then Go.Exit.inBlock Go.Calls
namespace Go.Proofs.bK
theorem Nf{t:aM}(h:du t=0){m:cu}{log:List Nat}{b:Nat->List Nat}(M:kt t m log b){k:Nat}(hk:k<t.code.length):(m.cT.getD k default).length<=64:=by
 have bh:=(lD (jv h)).1;rw[M.buf k hk,amD,<-amD (f:=λe:Nat=>(e:Int))];refine ani (CD (al t).J.length _ ?_ ?_) bh
 ·rw[anz];exact(M.pq k hk).imp λh=>by omega
 intro x hx;obtain⟨e,he,rfl⟩:=am1.1 hx;have:=((M.jB k hk e).1 he).1;omega
theorem VM{b:Nat}{t:aM}{q:gm}{m:cu}(w:World)(h:pg an w b t q m)(bh:0<t.code.length)(ll:t.code.length<=16)(p:Int)(dC:cf t m=[]): bj prog 88 [ax b,.int .i64 p] w λ_ v _=>v=.tuple #[.agg (eW ⟨0,0⟩).toArray,.int .i64 210]:=by refine gP func88 ntmps88 ?_;refine dH λcO=>?_;refine ao (bw (λI hw=>DI I (h.now hw) bh) ?_);rintro v bx a6 rfl cA;refine af ?_;refine cK rfl (λh=>by cases h) λ_=>?_;refine af ?_;refine ao (bw (λI hw=>MX I (h.now hw) bh ll) ?_);rintro LR cp bX E2 fq;rw[dC]at E2;have agL:=E2.aG;refine af ?_;refine cK rfl (λh2=>?_) (λh2=>by rw[ar]at h2;exact absurd rfl h2);refine af ?_;refine c0 0 ?_;exact bP rfl (.dz rfl aL rfl (.t1 rfl)) λI hw=>rfl
theorem adg{t:aM}{buf:Bool}{script:List Int}{i:Nat}{m:cu}(hm:runM t (al t) buf script i=m)(h:¬cf t m=[]):gW t (al t) buf m (qH t m (rp script i))=runM t (al t) buf script (i+1):=by
 subst hm;have bh:¬(cf t (runM t (al t) buf script i)).length=0:=λg=>h (amO g);have e:runM t (al t) buf script (i+1)=let m:=runM t (al t) buf script i
  if(cf t m).length=0 then m else gW t (al t) buf m ((cf t m).getD (nV script i (cf t m).length) default):=rfl
 rw[e];dsimp only;rw[amn bh];rfl
theorem VR(t:aM)(aj ae ak aG:Value)(vs:List Value)(script:List Int)(w:World)(bp:gz an w aj ae ak vs t)(ct:aV an w bd 1 aG script):bj prog 31 [.agg (cQ t aj ae ak).toArray,aG] w (GZ t true script):=by
 have gZ:=ct.aG;refine gP func31 ntmps31 ?_;refine eQ λaT=>?_;refine dH λaO=>?_;refine ao (gr (λI hw=>VP t aj ae ak vs I (bp.now hw)) ?_);rintro v bx es a6 iK;rcases iK with⟨h1,rfl,rfl⟩ | ⟨h1,b,q,rfl,rfl,ok,c6,jF⟩
 ·refine af ?_;refine cK rfl (λ_=>?_) (λh=>by rw[amm,aq]at h;exact absurd h h1);refine af ?_;refine c0 0 ?_;exact bP rfl (.dz rfl aL rfl (.t1 rfl)) λI hw=>.inl ⟨h1,rfl⟩
 refine af ?_;refine cK rfl (λh=>by rw[amk,ar]at h;exact absurd rfl h) λ_=>?_;refine di (λh2=>?_) λh2=>?_
 ·rw[aq]at h2;refine af ?_;refine c0 5 ?_;exact bP rfl (.dz rfl pE rfl (.t1 rfl)) λI hw=>.inr (.inl ⟨h1,by omega,rfl⟩)
 rw[ar]at h2;have G:=kf h1;have ll:=G.n16;have ye:0<t.code.length:=by have:=G.bx;omega
 generalize ON:jx bx (iw b t q (iO t (al t)))=sD at *;refine af ?_;refine dH λeu=>?_;refine dZ 97 2 eW ?_;refine wu (λz:List (Value×Value)×Value×List lf=>qk t {q with rs:=z.1}/\aD z.2.1) (λz=>[(8,true,ax eu),(6,true,ax b),(4,true,ax aO),(1,true,aG)]) (λz=>Mem [(a6,sD),(w,an)] (iw b t {q with rs:=z.1} (nH t (al t) true script)++[.box eu [U,z.2.1] 47,.own z.2.1 97 2 eW z.2.2,.box aO [U,U] 47])) ?_ ?_
 ·refine b9 (λz:Nat×List (Value×Value)×Value×List lf=>z.1<=4161/\qk t {q with rs:=z.2.1}/\aD z.2.2.1/\z.2.2.2.length=z.1) (λz=>[(9,true,.int .i64 (z.1:Nat)),(8,true,ax eu),(6,true,ax b),(4,true,ax aO),(1,true,aG)]) (λz=>Mem [(a6,sD),(w,an)] (iw b t {q with rs:=z.2.1} (runM t (al t) true script z.1)++[.box eu [U,z.2.2.1] 47,.own z.2.2.1 97 2 eW z.2.2.2,.box aO [U,U] 47])) (λz=>4161-z.1) (0,q.rs,U,[]) ⟨amz _,ok,cZ,rfl⟩ ?_ ⟨rfl,rfl,rfl,rfl,rfl,trivial⟩ (bV [2,3,4,5,6,1,0,7])
  rintro⟨i,rs,mv,ms⟩ ⟨hi,ok,kj,B2⟩;dsimp only at hi ok kj B2⊢;obtain⟨log,dc,R,Pu⟩:=AO h1 true script i;have BW:=@C4 t h1 true script i;have kB:=Gk h1 true script (i:=i);have M:=R.M;generalize j2:runM t (al t) true script i=m at *;refine af ?_;refine h7 (λ_:Unit=>True) (λ_=>[(10,true,.int .i64 (rp script i)),(9,true,.int .i64 (i:Nat)),(8,true,ax eu),(6,true,ax b),(4,true,ax aO),(1,true,aG)]) (λ_=>Mem [(a6,sD),(w,an)] (iw b t {q with rs:=rs} m++[.box eu [U,mv] 47,.own mv 97 2 eW ms,.box aO [U,U] 47])) ?_ ?_
  ·refine bA (λaC=>?_) λaC=>?_
   ·have c5:i<script.length:=by rw[aq]at aC;omega
    refine af ?_;exact bZ () trivial ⟨by unfold rp;rw[amo c5];rfl,rfl,rfl,rfl,rfl,rfl,trivial⟩ λ_ h=>h
   have c5:¬i<script.length:=by rw[ar]at aC;omega
   refine af ?_;exact bZ () trivial ⟨by unfold rp;rw[amn c5];rfl,rfl,rfl,rfl,rfl,rfl,trivial⟩ λ_ h=>h
  rintro⟨⟩ _;refine af ?_;by_cases dC:cf t m=[]
  ·refine ao (bw (λI hw=>VM I (pg.of ok hw (hw.now c6) (hw.now jF)) ye ll (rp script i) dC) ?_);rintro v39 cp bX rfl fq;have hm:=kB dC;refine af ?_;refine dH λeN=>?_;refine c0 0 ?_;refine cK rfl (λ_=>?_) (λh=>by rw[amm,aq]at h;cases h);refine af ?_;exact bZ (rs,mv,ms) ⟨ok,kj⟩ (hA:=λ_ h=>by rw[<-hm];exact h.cI.tail)
  refine ao (en (es:=iw b t {q with rs:=rs} m) (a7:=λI hw=>VL I h1 R ok (rp script i) dC (λk hk=>Nf h1 M hk) (hw.gw c6 aL λ_ h=>amE _ h) (hw.gw jF aL λ_ h=>amE _ h) hw.dk.ei) (ab:=?_));rintro rq jI Xa jJ ⟨rfl,uG,rfl,lM⟩;rw[adg j2 dC];have ED:=BW dC;refine af ?_;generalize nQ:qH t m (rp script i)=uC;refine dH λeN=>?_;refine c0 0 ?_;refine cK rfl (λh=>by rw[amk,ar]at h;exact absurd rfl h) λ_=>?_;refine af ?_;refine cJ (Mem [(a6,sD),(w,an)] (.box eN (eW uC) 97::(iw b t {q with rs:=uG} (runM t (al t) true script (i+1))++([.box eu [U,mv] 47,.own mv 97 2 eW ms,.box aO [U,U] 47]:List aA)))) (λ_ h=>h) ?_;refine ao (eA eW wM (e:=97) (sz:=2) (len:=1) (dF:=[(0,eW uC)]) (ab:=λoE um=>af ?_));refine ao (e6 8 (hm:=aL) (hk:=rfl) (bG:=by simp;omega) (ab:=λtE tl=>af ?_));refine c0 7 ?_;refine bt (i+1,uG,tE,ms++[uC]) ⟨?_,lM,tl,?_⟩ ?_ (hA:=bV [2,3,4,5,6,7,8,9])
  ·show i+1<=4161;omega
  ·show(ms++[uC]).length=i+1;simp[B2]
  show 4161-(i+1)<4161-i;omega
 rintro⟨rs,mv,ms⟩ ⟨ok,kj⟩;dsimp only at ok kj⊢;obtain⟨log,dc,R⟩:=NP h1 true script;have M:=R.M;generalize j2:nH t (al t) true script=m at *;have hZ:=M.ns;rw[lq h1]at hZ;refine af ?_;refine ao (bw (λI hw=>(VS I (pg.of ok hw (hw.now c6) (hw.now jF)) G ye hZ λk hk=>(M.yS h1 hk).1.1).size (hw.sz ds)) ?_);rintro v53 hD gb ⟨Ci,IM⟩ nj;have agM:=Ci.aG;refine af ?_;refine c0 5 ?_;refine c0 7 ?_;refine bP rfl (.dz rfl vO rfl (.t1 rfl)) λI hw=>.inr (.inr ⟨h1,by omega,v53,mv,rfl,kj,?_⟩);rw[j2,TK h1];exact hw.pass Ci aL IM
structure kY where
 aj:Value
 ae:Value
 ak:Value
 vs:List Value
 hr:Value
 e9:Value
 hq:Value
 gx:Value
 hT:Value
 hV:Value
 hU:Value
 tt:Value
 hW:Value
structure e4 where
 aw:Value
 mv:Value
 iN:Value
 de:Value
 dA:Value
 br:Value
 co:Value
 ag:List (Value×Nat)
 bs:List Value
 cs:List Value
def jc(t:aM)(c:kY)(buf:Bool)(q:e4):List Value:=cQ t c.aj c.ae c.ak++[c.hr,c.e9,c.hq,c.gx,c.hT,c.hV,c.hU,c.tt,c.hW,.bool buf,q.aw,q.mv,q.iN,q.de,q.dA,q.br,q.co]
def gv(q:e4)(m:cu)(k:Nat):List aA:=[.own (q.ag.getD k default).1 70 2 dm (m.av.getD k default).ah,kM (q.bs.getD k default) 201 3 jN (m.cT.getD k default)]
def jd(q:e4)(m:cu)(l:Nat):List aA:=[.own (q.cs.getD l default) 3 1 bd (m.co.getD l default)]
def gK(b:Nat)(t:aM)(c:kY)(buf:Bool)(q:e4)(m:cu):List aA:=[.box b (jc t c buf q) 108,.own q.aw 183 2 fQ q.ag,.own q.mv 3 1 bd m.mem,.own q.iN 3 1 bd m.last,.own q.de 198 1 cD q.bs,.own q.dA 4 1 kz m.done,.own q.br 3 1 bd m.br,.own q.co 33 1 cD q.cs,df (dJ (gv q m) t.code.length),df (dJ (jd q m) (al t).bb.length)]
structure oI(t:aM)(q:e4)(m:cu):Prop where
 aw:aD q.aw
 mv:aD q.mv
 iN:aD q.iN
 de:aD q.de
 dA:aD q.dA
 br:aD q.br
 co:aD q.co
 aB:q.ag.length=t.code.length
 cW:q.bs.length=t.code.length
 cl:q.cs.length=(al t).bb.length
 ag:∀k,k<t.code.length->aD (q.ag.getD k default).1/\(q.ag.getD k default).2=(m.av.getD k default).at'
 bs:∀k,k<t.code.length->aD (q.bs.getD k default)
 cs:∀l,l<(al t).bb.length->aD (q.cs.getD l default)
structure pj(S:Nat->Prop)(w:World)(t:aM)(c:kY):Prop where
 T:gz S w c.aj c.ae c.ak c.vs t
 R:ha S w c.hr c.e9 c.hq c.gx c.hT c.hV c.hU c.tt c.hW (al t)
structure oH(S:Nat->Prop)(w:World)(b:Nat)(t:aM)(c:kY)(buf:Bool)(q:e4)(m:cu):Prop where
 ok:oI t q m
 g:pj S w t c
 box:gM S w b (jc t c buf q)
 hold:aV S w fQ 2 q.aw q.ag
 mem:aV S w bd 1 q.mv m.mem
 last:aV S w bd 1 q.iN m.last
 cT:aV S w cD 1 q.de q.bs
 done:aV S w kz 1 q.dA m.done
 bq:∀k,k<t.code.length->aV S w dm 2 (q.ag.getD k default).1 (m.av.getD k default).ah
 buf:∀k,k<t.code.length->aV S w jN 3 (q.bs.getD k default) (m.cT.getD k default)
theorem pj.now{S:Nat->Prop}{B I:World}{t:aM}{c:kY}{bs:List dr}{H:List aA}(h:pj S B t c)(hw:Mem bs H I)(hB:(B,S)∈bs:=by repeat (first | exact List.Mem.head _ | refine List.Mem.tail _ ?_)):pj an I t c:=⟨h.T.now hw hB,h.R.now hw hB⟩
theorem oH.of{b:Nat}{t:aM}{c:kY}{buf:Bool}{q:e4}{m:cu}{bs:List dr}{H:List aA}{w:World}(ok:oI t q m)(hw:Mem bs (gK b t c buf q m++H) w)(g:pj an w t c):oH an w b t c buf q m:=
 have hf:∀k,k<t.code.length->Mem bs (gv q m k++(df (jC (gv q m) t.code.length k)::(df (dJ (jd q m) (al t).bb.length)::H))) w:=λk hk=>(hw.tail.tail.tail.tail.tail.tail.tail.tail).rm k hk
 ⟨ok,g,hw.eN aL trivial,hw.ed,hw.ed,hw.ed,hw.ed,hw.ed,λk hk=>(hf k hk).ed aL,λk hk=>(hf k hk).abB ds⟩
theorem oH.now{S:Nat->Prop}{B I:World}{b:Nat}{t:aM}{c:kY}{buf:Bool}{q:e4}{m:cu}{bs:List dr}{H:List aA}(h:oH S B b t c buf q m)(hw:Mem bs H I)(hB:(B,S)∈bs:=by repeat (first | exact List.Mem.head _ | refine List.Mem.tail _ ?_)):oH an I b t c buf q m:=⟨h.ok,h.g.now hw hB,hw.va h.box hB,hw.now h.hold hB,hw.now h.mem hB,hw.now h.last hB,hw.now h.cT hB,hw.now h.done hB,λk hk=>hw.now (h.bq k hk) hB,λk hk=>hw.now (h.buf k hk) hB⟩
theorem Qv{α:Type}(l:List α):bO ((0:Int)<l.length)=!l.isEmpty:=by
 cases l with
 | nil=>show bO _=false;rw[ar];simp
 | cons x l=>show bO _=true;rw[aq,amI];omega
section
variable {b:Nat} {t:aM} {c:kY} {buf:Bool} {q:e4} {m:cu} (w:World) (h:oH an w b t c buf q m)
include h
theorem af3(k:Nat)(hk:k<t.code.length)(dO:(m.av.getD k default).at'<(cj t k).length):bj prog 91 [ax b,.int .i64 k] w λ_ v _=>v=.bool (sy t m k):=by
 have hb:=h.box;unfold jc at hb;have hp:=h.hold;have gl:=h.cT;have hM:=h.g.T.mx;have eE:=h.g.T.mZ;have mF:=h.g.T.code k (by omega);obtain⟨t1,t2,t3⟩:=h.g.T.iF;have ib:=h.buf k hk;obtain⟨s1,s2,cy,dq,dd,ep,dP,kU,lj,ra,jG,py,fC⟩:=h.ok;have iy:=jG k hk;have I4:=py k hk;have PL:=mF.aG;have Yg:(q.ag.getD k default).2<(t.code.getD k default).length:=by rw[iy.2];exact dO
 have Yk:=ib.le;refine gP func91 ntmps91 ?_;refine cV [0,1,2,3,4,5,6,7,8,9,10,11,12,13,14,15,16,17,18,19] mixed ?_;refine bI ?_;refine bL _ (h:=ft ?_);intro ea;refine aF (aP ?_) iG;refine eG (λ_=>True) (h:=bD 0 (ab:=?_));refine aF (aP ?_) dx;refine af ?_;rw[iy.2];have r2:(t.code.getD k default).getD (m.av.getD k default).at' default=(cj t k).getD (m.av.getD k default).at' default:=rfl;rw[r2];generalize hi:(cj t k).getD (m.av.getD k default).at' default=i at *;refine h7 (λ_:Unit=>True) (λ_=>[(6,true,.int .i64 (pZ i)),(5,true,ax ea),(1,true,.int .i64 k),(0,true,ax b)]) (λ_=>Mem [(w,an)] [.box ea (cC i) 169]) ?_ ?_
 ·refine bA (λh1=>?_) λh1=>?_
  ·rw[aq]at h1;refine af ?_;exact bZ () trivial ⟨by unfold pZ;rw[amo h1];rfl,rfl,rfl,rfl,trivial⟩ λ_ h=>h
  rw[ar]at h1;refine af ?_;exact bZ () trivial ⟨by unfold pZ;rw[amn h1];rfl,rfl,rfl,rfl,trivial⟩ λ_ h=>h
 rintro⟨⟩ _;refine af ?_;refine fm (h:=eY (a7:=λ_ I hw=>LD _ _ _ I)) (ab:=af ?_);refine bP rfl (.t1 rfl) λI hw=>?_;refine amC Value.bool ?_;unfold sy;rw[hi];dsimp only;have bC:=Qv (m.cT.getD k default);rw[bC,ch,ch]
theorem C5(ll:t.code.length<=16):bj prog 33 [ax b] w λn v I=>aV (Fr n) I eW 2 v (cf t m):=by
 have hb:=h.box;unfold jc at hb;have hp:=h.hold;have gl:=h.cT;have hM:=h.g.T.mx;have eE:=h.g.T.mZ;obtain⟨t1,t2,t3⟩:=h.g.T.iF;obtain⟨s1,s2,cy,dq,dd,ep,dP,kU,lj,ra,jG,py,fC⟩:=h.ok;refine gP func33 ntmps33 ?_;refine dZ 97 2 eW ?_;refine b9 (λz:Nat×Value=>z.1<=t.code.length/\aD z.2) (λz=>[(10,true,.int .i64 z.1),(9,true,.int .i64 q.ag.length),(3,true,z.2),(0,true,ax b)]) (λz=>Mem [(w,an)] [.own z.2 97 2 eW (o8 t m z.1)]) (λz=>t.code.length-z.1) (0,U) ⟨amz _,cZ⟩ ?_
 rintro⟨k,v⟩ ⟨hk,aw⟩;dsimp only at hk aw⊢;have hZ:=yG t m k;refine di (λh2=>?_) λh2=>?_
 ·have bF:k<t.code.length:=by rw[aq]at h2;omega
  have mF:=h.g.T.code k (by omega);have PL:=mF.aG;have eP:=mF.le;have ib:=h.buf k bF;have Yk:=ib.le;have iy:=jG k bF;have I4:=py k bF;have eg:=CG t m k;unfold ux at eg;refine af ?_;refine cV [0,1,2,3,4,5,6,7,8,9,10,11,12,13,14,15,16,17,18,19,20,21,22,23] mixed ?_;refine bI ?_;rw[iy.2];refine w9 ?_ (h:=eY (a7:=λay I hw=>af3 I (h.now hw) k bF (by rw[aq]at ay;show _<(t.code.getD k default).length;omega)));refine aP ?_;refine af ?_;have nL:(bO (((m.av.getD k default).at':Int)<(t.code.getD k default).length)&&!sy t m k)=kR t m k:=by
   unfold kR;have e:bO (((m.av.getD k default).at':Int)<(t.code.getD k default).length)=decide ((m.av.getD k default).at'<(cj t k).length):=by rw[ch];simp[cj]
   rw[e]
  refine h7 (λz:Value=>aD z) (λz=>[(4,true,.int .i64 k),(10,true,.int .i64 k),(9,true,.int .i64 q.ag.length),(3,true,z),(0,true,ax b)]) (λz=>Mem [(w,an)] [.own z 97 2 eW (o8 t m k++if kR t m k=true then [⟨1,(k:Int)⟩]else [])]) ?_ ?_
  ·refine bA (λh3=>?_) λh3=>?_
   ·rw[nL]at h3;rw[amo h3];refine af ?_;refine ao (eA eW wM (ab:=λsx zX=>af ?_));refine ao (e6 1 (hm:=aL) (hk:=rfl) (bG:=by simp;omega) (ab:=λv35 vD=>af ?_));exact bZ v35 vD (hA:=iG)
   rw[nL]at h3;rw[amn (by rw[h3];exact ant),amB];refine af ?_;exact bZ v aw
  rintro v1 j6;have Zc:(o8 t m k++if kR t m k=true then [(⟨1,(k:Int)⟩:lf)]else []).length<=2* k+1:=by rw[ams];split<;>simp<;>omega
  have bC:=Qv (m.cT.getD k default);rw[<-amJ]at eg;refine di (λh3=>?_) λh3=>?_
  ·rw[bC,amk]at h3;rw[amn (c:=(m.cT.getD k default).isEmpty=true) (by rw[h3];exact ant)]at eg;refine af ?_;refine ao (eA eW wM (ab:=λsx zX=>af ?_));refine ao (e6 1 (hm:=aL) (hk:=rfl) (bG:=by simp only[amD,amI,amW];omega) (ab:=λv35 vD=>af ?_));exact bt (k+1,v35) ⟨by omega,vD⟩ (show t.code.length-(k+1)<t.code.length-k by omega) (hA:=λ_ h=>by dsimp only;rw[eg];exact h.tail)
  rw[bC,amm]at h3;rw[amo (c:=(m.cT.getD k default).isEmpty=true) h3,amB]at eg;refine af ?_;exact bt (k+1,v1) ⟨by omega,j6⟩ (show t.code.length-(k+1)<t.code.length-k by omega) (hA:=λ_ h=>by dsimp only;rw[eg];exact h)
 have bF:k=t.code.length:=by rw[ar]at h2;omega
 subst bF;refine px λI hw=>?_;exact hw.hK aL aL
end
theorem Xb(hJ dy:Nat)(x:eL)(k p:Nat)(w:World)(h1:gM an w hJ [.int .i64 k])(h2:gM an w dy [.int .i64 p]):bj prog 260 [.agg (ec x).toArray,ax hJ,ax dy] w λ_ v _=>v=.bool (s5 k p x):=by refine gP func260 ntmps260 ?_;refine eQ λdR=>?_;refine bP rfl (.t1 rfl) λI hw=>?_;unfold s5;rw[<-ch,<-ch];rfl
theorem Xc(hJ dy:Nat)(aN:Value)(l:List eL)(k p:Nat)(w:World)(aB:aV an w ec 6 aN l)(h1:gM an w hJ [.int .i64 k])(h2:gM an w dy [.int .i64 p]):bj prog 259 [aN,.func (.func 260) #[] #[ax hJ,ax dy]] w λ_ v _=>v=.int .i64 (if l.findIdx (s5 k p)<l.length then(l.findIdx (s5 k p):Int)else -1):=by
 have ja:=aB.le;have gZ:=aB.aG;refine gP func259 ntmps259 ?_;refine b9 (λi:Nat=>i<=l.length/\∀j,j<i->s5 k p (l.getD j default)=false) (λi=>[(8,true,.int .i64 i),(7,true,.int .i64 l.length),(1,true,.func (.func 260) #[] #[ax hJ,ax dy]),(0,true,aN)]) (λs=>Mem [(w,an)] []) (λs=>l.length-s) (0) ⟨by omega,λj ad=>by omega⟩ ?_ ⟨rfl,rfl,rfl,rfl,trivial⟩ c7
 rintro i ⟨hi,bS⟩;have OT:∀j,(ad:j<l.length)->j<i->s5 k p l[j]=false:=λj ad kh=>by have:=bS j kh;rwa[aml,amp ad]at this
 refine di (λh3=>?_) λh3=>?_
 ·have dw:i<l.length:=by rw[aq]at h3;omega
  refine af ?_;refine ao (bw (λI hw=>Xb hJ dy (l.getD i default) k p I (hw.va h1 aL) (hw.va h2 aL)) ?_);rintro LU bx a6 rfl cA;refine di (λaC=>?_) λaC=>?_
  ·refine px λI hw=>?_;have hf:l.findIdx (s5 k p)=i:=by rw[List.findIdx_eq dw];refine⟨?_,λj ad=>OT j (by omega) ad⟩;rwa[aml,amp dw]at aC
   rw[hf,amo dw];rfl
  refine af ?_;refine bt ((i+1)) ⟨by omega,λj ad=>?_⟩ (by omega) (hA:=eS);by_cases e:j=i
  ·subst e;exact aC
  exact bS j (by omega)
 have dw:i=l.length:=by rw[ar]at h3;omega
 subst dw;refine px λI hw=>?_;have hf:l.findIdx (s5 k p)=l.length:=by rw[List.findIdx_eq_length];intro x hx;obtain⟨j,ad,rfl⟩:=aod hx;exact OT j ad ad
 rw[hf,amn (aow _)];rfl
theorem afW{b:Nat}{t:aM}{c:kY}{buf:Bool}{q:e4}(k p:Nat)(w:World)(hb:gM an w b (jc t c buf q))(b8:ha an w c.hr c.e9 c.hq c.gx c.hT c.hV c.hU c.tt c.hW (al t)):bj prog 171 [ax b,.int .i64 k,.int .i64 p] w λ_ v _=>v=.int .i64 (if nI (al t) k p<(al t).J.length then(nI (al t) k p:Int)else -1):=by have cP:=b8.J;have gZ:=cP.aG;unfold jc at hb;refine gP func171 ntmps171 ?_;refine eQ λcO=>?_;refine eQ λea=>?_;refine ao (bw (λI hw=>Xc cO ea _ _ k p I (hw.now cP) (hw.eN ds trivial) (hw.eN aL trivial)) ?_);rintro alD bx a6 rfl cA;refine af ?_;exact bP rfl (.t1 rfl) λI hw=>rfl
def sr(t:aM)(q:e4)(m:cu):List aA:=[.own q.mv 3 1 bd m.mem,.own q.iN 3 1 bd m.last,.own q.co 33 1 cD q.cs,df (dJ (jd q m) (al t).bb.length)]
def UY(t:aM)(q:e4)(m:cu):Nat->Value->List aA->World->Prop:=λ_ _ es _=>∃pt,es=sr t {q with cs:=pt} m/\pt.length=(al t).bb.length/\∀l,l<(al t).bb.length->aD (pt.getD l default)
theorem Ti{b:Nat}{t:aM}{c:kY}{buf:Bool}{q q0:e4}{m:cu}(wt:qn)(l:Nat)(w:World)(aB:l<(al t).bb.length)(oo:wt.loc=(l:Int))(hZ:m.mem.length=(al t).bb.length)(ja:m.last.length=(al t).bb.length)(eE:m.co.length=(al t).bb.length)(ue:(m.co.getD l default).length<=100000) (bC:q0.mv=q.mv) (cd:q0.iN=q.iN) (hY:q0.co=q.co) (s1:aD q.mv) (s2:aD q.iN) (cy:aD q.co) (fC:q.cs.length=(al t).bb.length) (hM:∀l,l<(al t).bb.length->aD (q.cs.getD l default)) (hb:gM (bB (sr t q m)) w b (jc t c buf q0)) (hw:Mem [] (sr t q m) w): eM prog 93 [ax b,.agg (jN wt).toArray] (sr t q m) w (UY t q (nb m wt)):=by
 unfold jc at hb;rw[bC,cd,hY]at hb;obtain⟨wl,v,e⟩:=wt;dsimp only at oo;subst oo;refine jO func93 ntmps93 hw ?_;refine eQ λdR=>?_;refine cV [0,1,2,3,4,5,6,7,8,9] mixed ?_;refine bI ?_;refine eG (λ_=>True) (h:=fB 1 rfl v (ab:=?_));refine aF (aP ?_) dx;refine af ?_;refine cV [0,1,2,3,4,5,6,7,8,9] mixed ?_;refine bI ?_;refine eG (λ_=>True) (h:=fB 2 rfl e (ab:=?_));refine aF (aP ?_) dx;refine af ?_;refine cJ (Mem [(w,bB (sr t q m))] ([.own (q.cs.getD l default) 3 1 bd (m.co.getD l default)]++(df (jC (jd q m) (al t).bb.length l)::[.box dR (jN ⟨l,v,e⟩) 201,.own q.mv 3 1 bd (m.mem.set l v),.own q.iN 3 1 bd (m.last.set l e),.own q.co 33 1 cD q.cs]))) (λ_ h=>(h.cm (es:=df (dJ (jd q m) (al t).bb.length)::[.box dR (jN ⟨l,v,e⟩) 201,.own q.mv 3 1 bd (m.mem.set l v),.own q.iN 3 1 bd (m.last.set l e),.own q.co 33 1 cD q.cs]) [4,0,1,2,3]).rm l aB) ?_;have Yr:=hM l aB;refine fs (Mem [(w,bB (sr t q m))] [.box dR (jN ⟨l,v,e⟩) 201,.own q.co 33 1 cD q.cs]) [0,1,2,3,4,5,6,7,8,9,10,11,12,13,14,15,16,17,18,19,20,21] mixed (bV [2,5]) ?_;refine bI ?_;refine bL _ (h:=eA bd cc.q4 (e:=3) (sz:=1) (len:=1) (dF:=[(0,[.int .i64 e])]) (ab:=?_));intro v40 PY;refine aF (bI ?_) (bV [3,6]);refine bL _ (h:=e6 1 (hm:=aL) (hk:=rfl) (bG:=by simp only[amD,amI,amW];omega) (ab:=?_));intro v41 vF;refine aF (bI ?_) (bV [3,6]);refine eG (λ_=>True) (h:=fB 6 rfl v41 (ab:=?_));refine aF (aP ?_) dx;refine af ?_;refine uz rfl .nil aL λI hw=>?_;have rW:(nb m ⟨(l:Int),v,e⟩).co=m.co.set l (m.co.getD l default++[e]):=by unfold nb;simp
 have Ii:∀j,(q.cs.set l v41).getD j default=if j=l then v41 else q.cs.getD j default:=λj=>by
  rw[fL,fC];by_cases g:j=l
  ·rw[amo ⟨g.symm,by omega⟩,amo g]
  rw[amn λg2=>g g2.1.symm,amn g]
 have h3:=Mem.wI (jd {q with cs:=q.cs.set l v41} (nb m ⟨(l:Int),v,e⟩)) l (show Mem _ (jd {q with cs:=q.cs.set l v41} (nb m ⟨(l:Int),v,e⟩) l++(df (jC (jd q m) (al t).bb.length l)::[.own q.mv 3 1 bd (m.mem.set l v),.own q.iN 3 1 bd (m.last.set l e),.own q.co 33 1 cD (q.cs.set l v41)])) _ by
  unfold jd;dsimp only;rw[Ii,amo rfl,rW,fL,amo ⟨rfl,by omega⟩];exact hw.cm [1,2,4,5,6]) aB λj ad dC=>by
  unfold jd;dsimp only;rw[Ii,amn dC,rW,fL,amn λg=>dC g.1.symm]
 refine⟨sr t {q with cs:=q.cs.set l v41} (nb m ⟨(l:Int),v,e⟩),⟨q.cs.set l v41,rfl,by rw[amQ,fC],λj ad=>?_⟩,h3.cm [1,2,3,0]⟩;rw[Ii];split
 ·exact vF
 exact hM j ad
theorem Tk{b:Nat}{t:aM}{c:kY}{buf:Bool}{q:e4}(cW:Nat)(aJ:Value)(a:Int)(ah:List dY)(d n:Int)(w:World)(fv:aD aJ)(hd:0<=d/\d<ah.length)(hb:gM (bB (lP cW aJ a ah)) w b (jc t c buf q))(hw:Mem [] (lP cW aJ a ah) w): eM prog 175 [ax b,ax cW,.int .i64 d,.int .i64 n] (lP cW aJ a ah) w λ_ _ es _=>es=lP cW aJ a (fD t.az ah d ⟨a8,n⟩):=by
 unfold jc at hb;refine jO func175 ntmps175 hw ?_;refine bA (λh1=>?_) λh1=>?_
 ·rw[amr,amk,amk,ar,ar]at h1;refine af ?_;refine ao (fB 1 rfl (⟨a8,n⟩:dY) (ab:=af ?_));refine qF rfl .nil aL (lP cW aJ a (ah.set d.toNat ⟨a8,n⟩)) [0,1] rfl (by decide) λI hw=>?_;unfold fD;rw[amn λq=>h1.elim (λg=>g q.1) λg=>g q.2]
 rw[amt,amm,amm,aq,aq]at h1;refine af ?_;refine qF rfl .nil aL (lP cW aJ a ah) [0,1] rfl (by decide) λI hw=>?_;unfold fD;rw[amo h1]
theorem afX{b:Nat}{t:aM}{c:kY}{buf:Bool}{q:e4}{m:cu}(k l e:Nat)(w:World)(hk:k<t.code.length)(aB:l<(al t).bb.length)(he:e<m.br.length)(hZ:m.mem.length=(al t).bb.length)(ja:m.last.length=(al t).bb.length)(s1:aD q.mv)(s2:aD q.iN)(cy:aD q.br)(dq:aD q.de)(lj:q.bs.length=t.code.length) (hb:gM (bB [.own q.br 3 1 bd m.br]) w b (jc t c buf q)) (gl:aV (bB [.own q.br 3 1 bd m.br]) w cD 1 q.de q.bs) (ib:aV (bB [.own q.br 3 1 bd m.br]) w jN 3 (q.bs.getD k default) (m.cT.getD k default)) (kj:aV (bB [.own q.br 3 1 bd m.br]) w bd 1 q.mv m.mem) (zN:aV (bB [.own q.br 3 1 bd m.br]) w bd 1 q.iN m.last) (hw:Mem [] [.own q.br 3 1 bd m.br] w): eM prog 176 [ax b,.int .i64 k,.int .i64 l,.int .i64 e] [.own q.br 3 1 bd m.br] w λ_ v es _=>v=.int .i64 (mP m k l).1/\es=[.own q.br 3 1 bd (m.br.set e (mP m k l).2)]:=by
 unfold jc at hb;have ajq:=ib.aG;have ajp:=ib.le;generalize hB:m.cT.getD k default=B at *;refine jO func176 ntmps176 hw ?_;refine b9 (λi:Nat=>i<=B.length/\pf B l=pf (B.take i) l) (λi=>[(9,true,.int .i64 ((i:Int)-1)),(3,true,.int .i64 e),(2,true,.int .i64 l),(1,true,.int .i64 k),(0,true,ax b)]) (λ_=>Mem [(w,bB [.own q.br 3 1 bd m.br])] [.own q.br 3 1 bd m.br]) (λi=>i) B.length ⟨amK _,by rw[amU]⟩ ?_
 rintro i ⟨hi,aR⟩;refine di (λh1=>?_) λh1=>?_
 ·obtain⟨cF,rfl⟩:∃cF,i=cF+1:=⟨i-1,by rw[aq]at h1;omega⟩;have eB:cF<B.length:=by omega
  have ag:pf (B.take (cF+1)) l=if(B.getD cF default).loc=l then some (B.getD cF default)else pf (B.take cF) l:=by
   unfold pf;rw[ang,getD_some eB];show((B.take cF++[B.getD cF default]).reverse.find? _)=_;rw[List.reverse_append,List.reverse_singleton,List.singleton_append,List.find?_cons];by_cases q:(B.getD cF default).loc=l
   ·rw[amo q,amq q]
   rw[amn q,amy q]
  have bC:((cF+1:Nat):Int)-1=(cF:Int):=by omega
  rw[bC];refine af ?_;refine dH λmr=>?_;refine c0 0 ?_;refine bA (λh2=>?_) λh2=>?_
  ·rw[aq]at h2;rw[amo h2]at ag;have Jv:=aR.trans ag;have j3:mP m k l=((B.getD cF default).val,(B.getD cF default).aN):=by unfold mP;rw[hB,Jv]
   refine af ?_;refine cV [0,1,2,3,4,5,6,7,8,9] mixed ?_;refine bI ?_;refine eG (λ_=>True) (h:=fB 1 rfl (B.getD cF default).aN (ab:=?_));refine aF (aP ?_) dx;refine af ?_;exact ez rfl (.t1 rfl) [.own q.br 3 1 bd (m.br.set e (B.getD cF default).aN)] [1] λI hw=>⟨by rw[j3];rfl,by rw[j3]⟩
  rw[ar]at h2;rw[amn h2]at ag;refine af ?_;exact bt cF ⟨by omega,aR.trans ag⟩ (by omega) (hA:=iG)
 have cb:i=0:=by rw[ar]at h1;omega
 subst cb;have bh:pf B l=none:=aR;have j3:mP m k l=(m.mem.getD l default,m.last.getD l default):=by unfold mP;rw[hB,bh]
 refine af ?_;refine cV [0,1,2,3,4,5,6,7,8,9,10,11,12,13,14] mixed ?_;refine bI ?_;refine eG (λ_=>True) (h:=fB 0 rfl (m.last.getD l default) (ab:=?_));refine aF (aP ?_) dx;refine af ?_;exact ez rfl (.t1 rfl) [.own q.br 3 1 bd (m.br.set e (m.last.getD l default))] [0] λI hw=>⟨by rw[j3];rfl,by rw[j3]⟩
end Go.Proofs.bK
