/- Lemmas for the law WholeSound. -/
import Derived.Test.YtiknadellddjhaaGreatDoorS50
set_option linter.all false
open Go.Proofs.Tryz
set_option maxHeartbeats 12800000
open Go Go.cc Go.bU Go.gH Go.eV
attribute [local irreducible] Go.wpList Go.Code.wp Go.bodyPost Go.Exit.then Go.Exit.inBlock Go.Calls
namespace Go.Proofs.bK
def UO(t:aM)(c:cv):Nat->Value->World->Prop:=λn v I=>∃(lv aj aN bv aK aX ae aU bE:Value) (e:Int),v=.tuple #[.agg #[lv,aj,aN,bv,aK,aX,ae,aU,bE],.int .i64 e]/\ (aD lv/\aD aj/\aD aN/\aD bv/\aD aK/\aD aX/\aD ae/\aD aU/\aD bE)/\(e=if du t=0 then if fc (al t) c=0 then 0 else 160 else du t)/\(du t=0->fc (al t) c=0->ha (Fr n) I lv aj aN bv aK aX ae aU bE (al t))
theorem Tg(t:aM)(aj ae ak cz b1:Value)(vs:List Value)(c:cv)(w:World)(bp:gz an w aj ae ak vs t)(ai:jW an w cz b1 c): bj prog 39 [.agg (cQ t aj ae ak).toArray,.agg #[cz,b1]] w (UO t c):=by
 obtain⟨s1,s2,cy⟩:=bp.iF;have k2:=ai.br.aG;have mE:=ai.oM;refine gP func39 ntmps39 ?_;refine eQ λdy=>?_;refine eQ λdR=>?_;refine dH λcO=>?_;refine ao (bw (λI hw=>(GD t aj ae ak vs I (bp.now hw)).size (hw.sz aL)) ?_);rintro v bx a6 ⟨⟨lv,pM,aN,bv,aK,aX,pr,aU,bE,Cy,rfl,⟨lB,qh,pc,fl,fI,oC,jV,st,pd⟩,fu⟩,fk⟩ cA;refine af ?_;refine dH λcS=>?_;refine ao (bD 0 (h1:=.cons lB.one (.cons qh.one (.cons pc.one (.cons fl.one (.cons fI.one (.cons oC.one (.cons jV.one (.cons st.one (.cons pd.one .nil))))))))) (ab:=af ?_));refine bA (λh1=>?_) λh1=>?_
 ·rw[amk,ar]at h1;refine af ?_;refine c0 1 ?_;refine bP rfl (.dz rfl ds rfl (.t1 rfl)) λI hw=>?_;exact⟨_,_,_,_,_,_,_,_,_,_,rfl,⟨cZ,cZ,cZ,cZ,cZ,cZ,cZ,cZ,cZ⟩,by rw[amn h1],λh=>absurd h h1⟩
 rw[amm,aq]at h1;have fu:=fu h1;refine af ?_;refine ao (bw (λI hw=>xG cz b1 c I (fu.now hw) (ai.now hw)) ?_);rintro v21 cp bX rfl fq;refine di (λh2=>?_) λh2=>?_
 ·rw[amk,ar]at h2;refine af ?_;refine c0 1 ?_;refine bP rfl (.dz rfl ds rfl (.t1 rfl)) λI hw=>?_;exact⟨_,_,_,_,_,_,_,_,_,_,rfl,⟨cZ,cZ,cZ,cZ,cZ,cZ,cZ,cZ,cZ⟩,by rw[amo h1,amn h2],λ_ h=>absurd h h2⟩
 rw[amm,aq]at h2;refine af ?_;refine ao (bD 1 (h1:=.cons lB.one (.cons qh.one (.cons pc.one (.cons fl.one (.cons fI.one (.cons oC.one (.cons jV.one (.cons st.one (.cons pd.one .nil))))))))) (ab:=af ?_));refine bP rfl (.dz rfl ds rfl (.t1 rfl)) λI hw=>?_;refine⟨lv,pM,aN,bv,aK,aX,pr,aU,bE,0,rfl,⟨lB,qh,pc,fl,fI,oC,jV,st,pd⟩,by rw[amo h1,amo h2],λ_ _=>?_⟩;exact⟨hw.pass fu.bb ds fk,hw.pass fu.init ds fk,hw.pass fu.J ds fk,hw.pass fu.bars ds fk,hw.pass fu.addr ds fk,hw.pass fu.data ds fk,hw.pass fu.ba ds fk,hw.pass fu.cw ds fk,hw.pass fu.ends ds fk⟩
def sQ(t:aM)(c:cv)(B:Bool):Int:=if du t=0 then if fc (al t) c=0 then if B=true then 0 else 181 else 160 else du t
def Mf(t:aM)(c:cv)(buf B:Bool):Nat->Value->World->Prop:=λn v I=>∃l,v=.tuple #[l,.int .i64 (sQ t c B)]/\aD l/\(du t=0->fc (al t) c=0->B=true->∃out,aV (Fr n) I bd 1 l out/\out.length<=65536/\ss (al t) (nH t (al t) buf out)=tW (al t) c)
theorem Qy{t:a1}(hb:t.J.length<=64){p:Nat->Nat->Bool}(au:mq t p=true):∃o,vL t.J.length (bT t.J.length p)=ints o/\rJ t.J.length o/\∀a d,a<t.J.length->d<t.J.length->p a d=true->e0 o a<e0 o d:=by obtain⟨_,h2,bp,aB⟩:=JP hb au;exact⟨_,h2,⟨bp.nodup,bp.lt,aB⟩,λa d h1 h2 q=>ahe bp aB h1 h2 (by rw[uE _ _ hb _ _ h1 h2];exact q)⟩
theorem aht{t:a1}{c:cv}(h:ml t c=true):na t c=true:=by unfold ml at h;rw[ami]at h;exact h.1
theorem Qt{t:aM}(aE:du t=0){buf:Bool}{out:List Int}{m:cu}(L:uZ t (al t) buf out m):out.length<=65536:=by
 cases L with
 | nil=>simp
 | @snoc out m x L hx=>have:=Fq aE L (λg=>by rw[g]at hx;cases hx);rw[ams,anr];omega
theorem afZ(t:aM)(aj ae ak cz b1:Value)(vs:List Value)(c:cv)(w:World)(bp:gz an w aj ae ak vs t)(ai:jW an w cz b1 c)(wU:lg w): bj prog 12 [.agg (cQ t aj ae ak).toArray,.agg #[cz,b1]] w (Mf t c false (oB (al t) c)):=by
 obtain⟨s1,s2,cy⟩:=bp.iF;have k2:=ai.br.aG;have mE:=ai.oM;refine gP func12 ntmps12 ?_;refine eQ λdy=>?_;refine eQ λdR=>?_;refine ao (bw (λI hw=>Tg t aj ae ak cz b1 vs c I (bp.now hw) (ai.now hw)) ?_);rintro v12 bx a6 ⟨lv,pM,aN,bv,aK,aX,pr,aU,bE,e,rfl,⟨lB,qh,pc,fl,fI,oC,jV,st,pd⟩,he,fu⟩ cA;refine af ?_;refine dH λcS=>?_;refine ao (bD 0 (h1:=.cons lB.one (.cons qh.one (.cons pc.one (.cons fl.one (.cons fI.one (.cons oC.one (.cons jV.one (.cons st.one (.cons pd.one .nil))))))))) (ab:=af ?_));refine bA (λh1=>?_) λh1=>?_
 ·rw[amk,ar]at h1;refine af ?_;refine bP rfl (.tmp rfl (.t1 rfl)) λI hw=>?_;have ib:e=sQ t c (oB (al t) c):=by
   rw[he]at h1⊢;unfold sQ;by_cases g1:du t=0
   ·rw[amo g1]at h1⊢;by_cases g2:fc (al t) c=0
    ·rw[amo g2]at h1;exact absurd rfl h1
    rw[amn g2,amo g1,amn g2]
   rw[amn g1,amn g1]
  refine⟨_,by rw[ib];rfl,cZ,λg1 g2 _=>?_⟩;rw[he,amo g1,amo g2]at h1;exact absurd rfl h1
 rw[amm,aq]at h1;have g1:du t=0:=amT λg=>by rw[he,amn g]at h1;exact g h1
 have g2:fc (al t) c=0:=amT λg=>by rw[he,amo g1,amn g]at h1;exact absurd h1 (by decide)
 have fu:=fu g1 g2;have Ia:=(lD (Go.bU.jv g1)).1;refine af ?_;refine ao (gr (λI hw=>agj cz b1 c I (fu.now hw) (ai.now hw) (wU.now hw)) ?_);rintro v21 cp es bX ⟨iQ,yi,rfl,rfl⟩;have I5:AR (al t) c=if oB (al t) c=true then 0 else 181:=by unfold AR;rw[amo g2]
 rw[I5];refine af ?_;cases hB:oB (al t) c with
 | false=>refine cK rfl (λ_=>?_) (λh=>by rw[amm,aq]at h;exact absurd h (by decide));refine af ?_;exact bP rfl (.tmp rfl (.t1 rfl)) λI hw=>⟨_,by unfold sQ;rw[amo g1,amo g2];rfl,cZ,λ_ _ g=>by cases g⟩
 | true=>
  refine cK rfl (λh=>by rw[amk,ar]at h;exact absurd rfl h) λ_=>?_;have dT:mq (al t) (pJ (al t) c)=true:=(by rw[<-Gn g2];exact hB);obtain⟨o,rh,mC,r7⟩:=Qy Ia dT;have H3:AS (al t) c=ints o:=by unfold AS;rw[amo hB,rh]
  have Ij:na (al t) c=true:=by have:=(afR hB);exact this
  have jZ:xx t false o:=Ry g1 mC (c:=c) (by simpa using r7);rw[H3];refine af ?_;refine ao (bw (λI hw=>(Tm t false aj ae ak lv pM aN bv aK aX pr aU bE iQ vs o I g1 jZ (bp.now hw) (fu.now hw) (hw.ed)).size (hw.sz gC)) ?_);rintro v30 hD gb ⟨⟨out,m,Ch,BN,⟨dc,b8⟩,tg⟩,j4⟩ nj;have Lw:=Ch.aG;have ib:=MO g1 mC g2 Ij (by simpa using r7) BN b8 tg;refine af ?_;refine bP rfl (.tmp rfl (.t1 rfl)) λI hw=>⟨v30,by unfold sQ;rw[amo g1,amo g2];rfl,Lw,λ_ _ _=>⟨out,hw.pass Ch aL j4,?_,by rw[ib.1];exact ib.2⟩⟩;exact Qt g1 BN
theorem af1(t:aM)(aj ae ak cz b1:Value)(vs:List Value)(c:cv)(w:World)(bp:gz an w aj ae ak vs t)(ai:jW an w cz b1 c)(wU:lg w): bj prog 14 [.agg (cQ t aj ae ak).toArray,.agg #[cz,b1]] w (Mf t c true (ml (al t) c)):=by
 obtain⟨s1,s2,cy⟩:=bp.iF;have k2:=ai.br.aG;have mE:=ai.oM;refine gP func14 ntmps14 ?_;refine eQ λdy=>?_;refine eQ λdR=>?_;refine ao (bw (λI hw=>Tg t aj ae ak cz b1 vs c I (bp.now hw) (ai.now hw)) ?_);rintro v12 bx a6 ⟨lv,pM,aN,bv,aK,aX,pr,aU,bE,e,rfl,⟨lB,qh,pc,fl,fI,oC,jV,st,pd⟩,he,fu⟩ cA;refine af ?_;refine dH λcS=>?_;refine ao (bD 0 (h1:=.cons lB.one (.cons qh.one (.cons pc.one (.cons fl.one (.cons fI.one (.cons oC.one (.cons jV.one (.cons st.one (.cons pd.one .nil))))))))) (ab:=af ?_));refine bA (λh1=>?_) λh1=>?_
 ·rw[amk,ar]at h1;refine af ?_;refine bP rfl (.tmp rfl (.t1 rfl)) λI hw=>?_;have ib:e=sQ t c (ml (al t) c):=by
   rw[he]at h1⊢;unfold sQ;by_cases g1:du t=0
   ·rw[amo g1]at h1⊢;by_cases g2:fc (al t) c=0
    ·rw[amo g2]at h1;exact absurd rfl h1
    rw[amn g2,amo g1,amn g2]
   rw[amn g1,amn g1]
  refine⟨_,by rw[ib];rfl,cZ,λg1 g2 _=>?_⟩;rw[he,amo g1,amo g2]at h1;exact absurd rfl h1
 rw[amm,aq]at h1;have g1:du t=0:=amT λg=>by rw[he,amn g]at h1;exact g h1
 have g2:fc (al t) c=0:=amT λg=>by rw[he,amo g1,amn g]at h1;exact absurd h1 (by decide)
 have fu:=fu g1 g2;have Ia:=(lD (Go.bU.jv g1)).1;refine af ?_;refine ao (gr (λI hw=>ahf cz b1 c I (fu.now hw) (ai.now hw) (wU.now hw)) ?_);rintro v21 cp es bX ⟨iQ,yi,rfl,rfl⟩;have I5:AZ (al t) c=if ml (al t) c=true then 0 else 181:=by unfold AZ;rw[amo g2]
 rw[I5];refine af ?_;cases hB:ml (al t) c with
 | false=>refine cK rfl (λ_=>?_) (λh=>by rw[amm,aq]at h;exact absurd h (by decide));refine af ?_;exact bP rfl (.tmp rfl (.t1 rfl)) λI hw=>⟨_,by unfold sQ;rw[amo g1,amo g2];rfl,cZ,λ_ _ g=>by cases g⟩
 | true=>
  refine cK rfl (λh=>by rw[amk,ar]at h;exact absurd rfl h) λ_=>?_;have dT:mq (al t) (nx (al t) c)=true:=(by unfold ml at hB;rw[ami]at hB;exact hB.2);obtain⟨o,rh,mC,r7⟩:=Qy Ia dT;have H3:A0 (al t) c=ints o:=by unfold A0;rw[amo hB,rh]
  have Ij:na (al t) c=true:=by have:=(aht hB);exact this
  have jZ:xx t true o:=Ry g1 mC (c:=c) (by simpa using r7);rw[H3];refine af ?_;refine ao (bw (λI hw=>(Tm t true aj ae ak lv pM aN bv aK aX pr aU bE iQ vs o I g1 jZ (bp.now hw) (fu.now hw) (hw.ed)).size (hw.sz gC)) ?_);rintro v30 hD gb ⟨⟨out,m,Ch,BN,⟨dc,b8⟩,tg⟩,j4⟩ nj;have Lw:=Ch.aG;have ib:=MO g1 mC g2 Ij (by simpa using r7) BN b8 tg;refine af ?_;refine bP rfl (.tmp rfl (.t1 rfl)) λI hw=>⟨v30,by unfold sQ;rw[amo g1,amo g2];rfl,Lw,λ_ _ _=>⟨out,hw.pass Ch aL j4,?_,by rw[ib.1];exact ib.2⟩⟩;exact Qt g1 BN
def Vb(t:aM)(buf:Bool)(script:List Int):Nat->Value->World->Prop:=λn v I=>∃br co,v=.tuple #[.agg #[br,co],.int .i64 0]/\jW (Fr n) I br co (nC (nH t (al t) buf script))
theorem afY(t:aM)(buf:Bool)(aj ae ak aG:Value)(vs:List Value)(script:List Int)(w:World)(aE:du t=0)(zS:script.length<=65536)(bp:gz an w aj ae ak vs t)(ct:aV an w bd 1 aG script): bj prog 8 [.agg (cQ t aj ae ak).toArray,.int .i64 (if buf=true then 2 else 1),aG] w (Vb t buf script):=by
 obtain⟨s1,s2,cy⟩:=bp.iF;have gZ:=ct.aG;have G:=kf aE;have ll:=G.n16;refine gP func8 ntmps8 ?_;refine eQ λdR=>?_;refine dH λcS=>?_;refine ao (bw (λI hw=>(GD t aj ae ak vs I (bp.now hw)).size (hw.sz aL)) ?_);rintro v bx a6 ⟨⟨lv,pM,aN,bv,aK,aX,pr,aU,bE,Cy,rfl,⟨lB,qh,pc,fl,fI,oC,jV,st,pd⟩,fu⟩,fk⟩ cA;have fu:=fu aE;rw[aE];refine af ?_;refine dH λdv=>?_;refine ao (bD 0 (h1:=.cons lB.one (.cons qh.one (.cons pc.one (.cons fl.one (.cons fI.one (.cons oC.one (.cons jV.one (.cons st.one (.cons pd.one .nil))))))))) (ab:=af ?_));refine cK rfl (λh=>by rw[amk,ar]at h;exact absurd rfl h) λ_=>?_;refine di (λh=>?_) λ_=>?_
 ·exfalso;rw[ami,amk,amk,ar,ar]at h;cases buf
  ·exact h.1 rfl
  exact h.2 rfl
 refine af ?_;refine cK rfl (λh=>by rw[aq]at h;omega) λ_=>?_;refine af ?_;have gl:bO ((if buf=true then(2:Int)else 1)=2)=buf:=by
  cases buf
  ·rw[ar];decide
  rw[aq];rfl
 rw[gl];refine ao (gr (λI hw=>Th t buf aj ae ak lv pM aN bv aK aX pr aU bE vs I aE (bp.now hw) (fu.now hw)) ?_);rintro v40 cp es bX ⟨b,q,rfl,rfl,ok⟩;generalize iL:(⟨aj,ae,ak,vs,lv,pM,aN,bv,aK,aX,pr,aU,bE⟩:kY)=c at *;have OQ:∀{bs:List dr} {H:List aA} {I:World},Mem bs H I->(w,an)∈bs->(a6,Fr bx)∈bs->pj an I t c:=λhw h1 h2=>by subst iL;exact⟨bp.now hw h1,fu.now hw h2⟩
 have X1:∀{bs:List dr} {H es:List aA} {I:World},Mem bs H I->(w,an)∈bs->(a6,Fr bx)∈bs->(∀e,e∈es->e∈H)->pj (bB es) I t c:=λhw h1 h2 ag=>by subst iL;exact⟨bp.map λv c9 h=>hw.gw h h1 ag,⟨hw.gw fu.bb h2 ag,hw.gw fu.init h2 ag,hw.gw fu.J h2 ag,hw.gw fu.bars h2 ag,hw.gw fu.addr h2 ag,hw.gw fu.data h2 ag,hw.gw fu.ba h2 ag,hw.gw fu.cw h2 ag,hw.gw fu.ends h2 ag⟩⟩
 refine af ?_;refine ao (bw (λI hw=>C5 I (oH.of ok hw (OQ hw gC ds)) ll) ?_);rintro wo hD gb zY nj;have alo:=zY.aG;refine af ?_;refine b9 (λz:(Value×Nat×World)×Nat×e4=>z.2.1<=4161/\oI t z.2.2 (runM t (al t) buf script z.2.1)/\aV (Fr z.1.2.1) z.1.2.2 eW 2 z.1.1 (cf t (runM t (al t) buf script z.2.1))) (λz=>[(13,true,z.1.1),(12,true,.int .i64 (z.2.1:Nat)),(11,true,ax b),(6,true,ax cS),(2,true,aG)]) (λz=>Mem [(z.1.2.2,Fr z.1.2.1),(a6,Fr bx),(w,an)] (gK b t c buf z.2.2 (runM t (al t) buf script z.2.1)++([.box dv [lv,pM,aN,bv,aK,aX,pr,aU,bE] 41,.box cS [U,U] 53]:List aA))) (λz=>4161-z.2.1) ((wo,hD,gb),0,q) ⟨amz _,ok,zY⟩ ?_ ⟨rfl,rfl,rfl,rfl,rfl,trivial⟩ λ_ h=>h.qt.cm [0,1,2,3,4,5,6,7,8,9,10,11]
 rintro⟨⟨v,n,iU⟩,i,q⟩ ⟨hi,ok,aw⟩;dsimp only at hi ok aw⊢;have agR:=aw.aG;obtain⟨log,dc,R,Pu⟩:=AO aE buf script i;have BW:=@C4 t aE buf script i;have kB:=Gk aE buf script (i:=i);have zy:=R.M;have I9:∀dC:¬cf t (runM t (al t) buf script i)=[],gW t (al t) buf (runM t (al t) buf script i) ((cf t (runM t (al t) buf script i)).getD (nV script i (cf t (runM t (al t) buf script i)).length) default)=runM t (al t) buf script (i+1):=λdC=>by
  have bh:¬(cf t (runM t (al t) buf script i)).length=0:=λg=>dC (amO g);have e:runM t (al t) buf script (i+1)=let m:=runM t (al t) buf script i
   if(cf t m).length=0 then m else gW t (al t) buf m ((cf t m).getD (nV script i (cf t m).length) default):=rfl
  rw[e];dsimp only;rw[amn bh]
 generalize j2:runM t (al t) buf script i=m at *;refine di (λh1=>?_) λh1=>?_
 ·have hZ:0<(cf t m).length:=by rw[aq]at h1;omega
  have dC:¬cf t m=[]:=λg=>by rw[g]at hZ;simp at hZ
  have ED:=BW dC;have I9:=I9 dC;have kC:nV script i (cf t m).length<(cf t m).length:=by unfold nV;have h2:=aoE (if i<script.length then script.getD i default else 0) (show((cf t m).length:Int)≠0 by omega);have h3:=aox (if i<script.length then script.getD i default else 0) (show(0:Int)<(cf t m).length by omega);show((if i<script.length then script.getD i default else 0) % ((cf t m).length:Int)).toNat<_;omega
  have B9:((nV script i (cf t m).length:Nat):Int)=(if i<script.length then script.getD i default else 0).emod (cf t m).length:=by unfold nV;have h2:=aoE (if i<script.length then script.getD i default else 0) (show((cf t m).length:Int)≠0 by omega);exact Int.toNat_of_nonneg h2
  refine af ?_;refine h7 (λ_:Unit=>True) (λ_=>[(14,true,.int .i64 (nV script i (cf t m).length:Nat)),(13,true,v),(12,true,.int .i64 (i:Nat)),(11,true,ax b),(6,true,ax cS),(2,true,aG)]) (λ_=>Mem [(iU,Fr n),(a6,Fr bx),(w,an)] (gK b t c buf q m++([.box dv [lv,pM,aN,bv,aK,aX,pr,aU,bE] 41,.box cS [U,U] 53]:List aA))) ?_ ?_
  ·refine bA (λaC=>?_) λaC=>?_
   ·have c5:i<script.length:=by rw[aq]at aC;omega
    rw[amo c5]at B9;have nQ:=Ks (x:=script.getD i default) (n:=(cf t m).length) (by omega);refine af ?_;refine dg (KK (bY rfl) (bY rfl) hZ) (ab:=af ?_);refine bA (λaW=>?_) λaW=>?_
    ·rw[aq]at aW;rw[amo aW]at nQ;have hb:(script.getD i default).tmod (cf t m).length+(cf t m).length=(script.getD i default) % ((cf t m).length:Int):=nQ;have Eu:=aox (script.getD i default) (show(0:Int)<(cf t m).length by omega);have ajm:=aoE (script.getD i default) (show((cf t m).length:Int)≠0 by omega);have ajH:(cf t m).length<=2* t.code.length:=yG t m _;have Zp:((nV script i (cf t m).length:Nat):Int)=(script.getD i default) % ((cf t m).length:Int):=B9;refine af ?_;exact bZ () trivial ⟨by rw[Zp,<-hb];rfl,rfl,rfl,rfl,rfl,rfl,trivial⟩ λ_ h=>h
    rw[ar]at aW;rw[amn aW]at nQ;refine af ?_;exact bZ () trivial ⟨by rw[B9,<-nQ];rfl,rfl,rfl,rfl,rfl,rfl,trivial⟩ λ_ h=>h
   have c5:¬i<script.length:=by rw[ar]at aC;omega
   rw[amn c5]at B9;refine af ?_;exact bZ () trivial ⟨by rw[B9,show Int.emod 0 ((cf t m).length:Int)=0 from Int.zero_emod _];rfl,rfl,rfl,rfl,rfl,rfl,trivial⟩ λ_ h=>h
  rintro⟨⟩ _;have hx:(cf t m).getD (nV script i (cf t m).length) default∈cf t m:=er kC;refine af ?_;generalize(cf t m).getD (nV script i (cf t m).length) default=x at *;refine ao (en (es:=gK b t c buf q m) (a7:=λI hw=>Tj I aE zy ok x hx (Hp aE zy) (X1 hw gC ds λ_ h=>amE _ h) hw.dk.ei) (ab:=?_));rintro ak8 akK es amd ⟨q',rfl,lM⟩;rw[I9]at lM⊢;refine af ?_;refine ao (bw (λI hw=>C5 I (oH.of lM hw (OQ hw gC ds)) ll) ?_);rintro oE n47 LZ um ajI;have alp:=um.aG;refine af ?_;exact bt ((oE,n47,LZ),i+1,q') ⟨by show i+1<=4161;omega,lM,um⟩ (show 4161-(i+1)<4161-i by omega) (hA:=λ_ h=>h.qt)
 have tg:cf t m=[]:=amO (by rw[ar]at h1;omega);have kB:=kB tg;obtain⟨s1,s2,cy,dq,dd,ep,dP,kU,rV,ra,jG,py,fC⟩:=ok;refine af ?_;refine ao (bD 11 (h1:=.cons ep.one (.cons dP.one .nil)) (ab:=af ?_));refine bP rfl (.dz rfl Fz rfl (.t1 rfl)) λI hw=>⟨q.br,q.co,rfl,?_⟩;rw[<-kB];have rX:=zy.nE;refine⟨hw.hK nS gC,⟨q.cs,hw.hK vO gC,ra.trans rX.symm,λl aB=>?_⟩,λl aB=>?_⟩
 ·have Pj:l<(al t).bb.length:=by rw[<-rX];exact aB
  exact((hw.cm (es:=df (dJ (jd q m) (al t).bb.length)::[]) [9]).rm l Pj).hK aL gC
 have:=Hp aE zy l (by rw[<-rX];exact aB);show(m.co.getD l default).length* 8<=_;omega
theorem agm{t:aM}(h:du t=0)(buf:Bool)(script:List Int): fc (al t) (nC (nH t (al t) buf script))=0/\(if buf=true then ml (al t) (nC (nH t (al t) buf script))else oB (al t) (nC (nH t (al t) buf script)))=true/\ss (al t) (nH t (al t) buf script)=tW (al t) (nC (nH t (al t) buf script)):=by
 obtain⟨log,b,R⟩:=NP h buf script;have hx:=NQ h buf script;refine⟨Kl h R hx,?_,RC h R hx⟩;cases buf with
 | true=>rw[amo rfl];exact RF h R hx
 | false=>rw[amn ant];exact ac5 h R hx rfl
theorem M7{t:aM}(h:du t=0){c:cv}(ai:fc (al t) c=0)(B:Bool):sQ t c B=if B=true then 0 else 181:=by unfold sQ;rw[amo h,amo ai]
def AL(t:aM)(script:List Int):Int:=if du t=0 then if 65536<script.length then 2 else 0 else du t
def G2(t:aM)(buf:Bool)(script:List Int):Nat->Value->World->Prop:=λn v I=>∃st mv,v=.tuple #[.agg #[st,mv],.int .i64 (AL t script)]/\aD st/\aD mv/\(du t=0->script.length<=65536->aV (Fr n) I bd 1 st (ss (al t) (nH t (al t) buf script)))
theorem SS{t:aM}{buf:Bool}{script:List Int}{n:Nat}{v:Value}{I:World}(h:GZ t buf script n v I):G2 t buf script n v I:=by
 unfold G2 AL;rcases h with⟨h1,rfl⟩ | ⟨h1,h2,rfl⟩ | ⟨h1,h2,st,mv,rfl,h3,aC⟩
 ·exact⟨_,_,by rw[amn h1],cZ,cZ,λq=>absurd q h1⟩
 ·exact⟨_,_,by rw[amo h1,amo h2],cZ,cZ,λ_ q=>by omega⟩
 exact⟨st,mv,by rw[amo h1,amn (by omega)],aC.aG,h3,λ_ _=>aC⟩
def FA(buf:Bool):Int:=if buf=true then 2 else 1
theorem JM(t:aM)(buf:Bool)(aj ae ak aG:Value)(vs:List Value)(script:List Int)(w:World)(bp:gz an w aj ae ak vs t)(ct:aV an w bd 1 aG script): bj prog 7 [.agg (cQ t aj ae ak).toArray,.int .i64 (FA buf),aG] w (G2 t buf script):=by
 obtain⟨s1,s2,cy⟩:=bp.iF;have gZ:=ct.aG;refine gP func7 ntmps7 ?_;refine eQ λdR=>?_;refine dH λcS=>?_;cases buf with
 | false=>refine cK rfl (λ_=>?_) (λh=>by rw[ar]at h;exact absurd rfl h);refine af ?_;refine ao (bw (λI hw=>(ab4 t aj ae ak aG vs script I (bp.now hw) (hw.now ct)).size (hw.sz aL)) ?_);rintro v bx a6 ⟨ew,fk⟩ cA;obtain⟨st,mv,rfl,h1,h2,h3⟩:=SS ew;refine af ?_;refine c0 0 ?_;exact bP rfl (.dz rfl aL rfl (.t1 rfl)) λI hw=>⟨st,mv,rfl,h1,h2,λcq bn=>hw.pass (h3 cq bn) aL fk⟩
 | true=>refine cK rfl (λh=>by rw[aq]at h;exact absurd h (by decide)) λ_=>?_;refine af ?_;refine ao (bw (λI hw=>(VR t aj ae ak aG vs script I (bp.now hw) (hw.now ct)).size (hw.sz aL)) ?_);rintro v bx a6 ⟨ew,fk⟩ cA;obtain⟨st,mv,rfl,h1,h2,h3⟩:=SS ew;refine af ?_;refine c0 0 ?_;exact bP rfl (.dz rfl aL rfl (.t1 rfl)) λI hw=>⟨st,mv,rfl,h1,h2,λcq bn=>hw.pass (h3 cq bn) aL fk⟩
theorem agl(t:aM)(aj ae ak aG:Value)(vs:List Value)(script:List Int)(w:World)(bp:gz an w aj ae ak vs t)(ct:aV an w bd 1 aG script)(wU:lg w): bj prog 3 [.agg (cQ t aj ae ak).toArray,aG] w λ_ v _=>v=.bool true:=by
 obtain⟨s1,s2,cy⟩:=bp.iF;have gZ:=ct.aG;have hle:=ct.le;have hd:bO True=true:=by rw[aq];trivial
 refine gP func3 ntmps3 ?_;refine eQ λdy=>?_;refine ao (bw (λI hw=>GD t aj ae ak vs I (bp.now hw)) ?_);rintro v bx a6 ⟨lv,pM,aN,bv,aK,aX,pr,aU,bE,Cy,rfl,⟨lB,qh,pc,fl,fI,oC,jV,st,pd⟩,fu⟩ cA;refine af ?_;refine dH λea=>?_;refine ao (bD 0 (h1:=.cons lB.one (.cons qh.one (.cons pc.one (.cons fl.one (.cons fI.one (.cons oC.one (.cons jV.one (.cons st.one (.cons pd.one .nil))))))))) (ab:=af ?_));refine bA (λh1=>?_) λh1=>?_
 ·have hx:du t≠0\/65536<script.length:=by rw[amr,amk,ar,aq]at h1;exact h1.imp id λq=>by omega
  refine af ?_;refine ao (bw (λI hw=>aeQ t aj ae ak aG vs script I (bp.now hw) (hw.now ct) hx) ?_);rintro v cp bX rfl fq;refine af ?_;refine dH λdv=>?_;refine c0 0 ?_;refine ao (bw (λI hw=>JM t true aj ae ak aG vs script I (bp.now hw) (hw.now ct)) ?_);rintro v hD gb ⟨Gu,akz,rfl,alj,alf,_⟩ nj;refine af ?_;refine dH λmr=>?_;refine c0 0 ?_;refine bP rfl (.t1 rfl) λI hw=>?_;show Value.bool (bO ((if du t=0 then 2 else du t)=AL t script))=.bool true;congr 1;rw[aq];unfold AL;by_cases q:du t=0
  ·rw[amo q,amo q,amo (hx.resolve_left λz=>z q)]
  rw[amn q,amn q]
 rw[amt,amm,aq,ar]at h1;obtain⟨aE,aB⟩:=h1;have aB:script.length<=65536:=by omega
 have fu:=fu aE;have O4:∀l:List Int,l.length<=65536->AL t l=0:=λl aB=>by unfold AL;rw[amo aE,amn (by omega)]
 refine af ?_;refine b9 (λm:Nat=>1<=m/\m<=3) (λm=>[(12,true,.int .i64 m),(5,true,ax ea),(2,true,ax dy),(1,true,aG)]) (λ_=>Mem [(a6,Fr bx),(w,an)] [.box ea [lv,pM,aN,bv,aK,aX,pr,aU,bE] 41,.box dy (cQ t aj ae ak) 32]) (λm=>3-m) 1 ⟨by omega,by omega⟩ ?_
 rintro m ⟨tf,Pm⟩;refine di (λh2=>?_) λh2=>?_
 ·have B1:m<=2:=by rw[aq]at h2;omega
  obtain⟨buf,vv⟩:∃buf:Bool,(m:Int)=FA buf:=by
   by_cases q:m=2
   ·exact⟨true,by rw[q];rfl⟩
   exact⟨false,by rw[show m=1 by omega];rfl⟩
  rw[vv];obtain⟨vo,tc,Ih⟩:=agm aE buf script;generalize iL:nC (nH t (al t) buf script)=c at vo tc Ih;refine af ?_;refine ao (bw (λI hw=>JM t buf aj ae ak aG vs script I (bp.now hw) (hw.now ct)) ?_);rintro v cp bX ⟨Lu,acA,rfl,alk,alg,EZ⟩ fq;have EZ:=EZ aE aB;rw[O4 _ aB];refine af ?_;refine dH λu7=>?_;refine c0 0 ?_;refine ao (bw (λI hw=>afY t buf aj ae ak aG vs script I aE aB (bp.now hw) (hw.now ct)) ?_);rintro v hD gb ⟨br,co,rfl,nM⟩ nj;rw[iL]at nM;have ali:=nM.br.aG;have alc:=nM.oM;refine af ?_;refine dH λaiN=>?_;refine c0 0 ?_;refine ao (bw (λI hw=>V6 br co c I (fu.now hw) (nM.now hw) vo) ?_);rintro v jI jJ ⟨u,rfl,hu⟩ zQ;have aln:=hu.aG;refine af ?_;simp only[hd];refine af ?_;refine L2 rfl rfl rfl ?_;refine ao (bw (λI hw=>Tc Lu u _ I (hw.now EZ) (Ih▸hw.now hu)) ?_);rintro v pG pO rfl EP;refine cJ _ (λ_ h=>h.cI.cI) (af ?_);refine cK rfl (λh=>by cases h) λ_=>?_;refine af ?_;refine ao (eA bd cc.q4 (e:=3) (sz:=1) (len:=0) (dF:=[]) (ab:=λahL aki=>af ?_));have Y6:bO (FA buf=1)=!buf:=by
   cases buf
   ·rw[show(!false)=true from rfl,aq];rfl
   rw[show(!true)=false from rfl,ar];decide
  rw[Y6];refine UB (λy:Value×List Int×Nat×World=>aV (Fr y.2.2.1) y.2.2.2 bd 1 y.1 y.2.1/\y.2.1.length<=65536/\ss (al t) (nH t (al t) buf y.2.1)=tW (al t) c) (λy=>[(20,true,y.1),(19,true,.bool true),(16,true,.int .i64 0),(13,true,ax u7),(12,true,.int .i64 (FA buf)),(5,true,ax ea),(2,true,ax dy),(1,true,aG)]) (λy=>Mem [(y.2.2.2,Fr y.2.2.1),(bX,Fr cp),(a6,Fr bx),(w,an)] [.box u7 [Lu,acA] 47,.box ea [lv,pM,aN,bv,aK,aX,pr,aU,bE] 41,.box dy (cQ t aj ae ak) 32]) ?_ ?_
  ·cases buf with
   | false=>refine cK rfl (λ_=>?_) (λh=>by cases h);refine af ?_;refine ao (bw (λI hw=>afT br co c I (fu.now hw) (nM.now hw) (wU.now hw)) ?_);rintro v pG pO rfl EP;refine cJ _ eS ?_;have tc:oB (al t) c=true:=tc;rw[tc];refine af ?_;refine ao (bw (λI hw=>afZ t aj ae ak br co vs c I (bp.now hw) (nM.now hw) (wU.now hw)) ?_);rintro v n6 tG ⟨l,rfl,agb,ie⟩ B4;obtain⟨out,rh,mC,r7⟩:=ie aE vo tc;rw[M7 aE vo,amo tc];refine af ?_;exact bZ (l,out,n6,tG) ⟨rh,mC,r7⟩ (hA:=λ_ h=>h.qt.cm [2,3,4])
   | true=>refine cK rfl (λh=>by cases h) λ_=>?_;refine af ?_;refine ao (bw (λI hw=>ag0 br co c I (fu.now hw) (nM.now hw) (wU.now hw)) ?_);rintro v pG pO rfl EP;refine cJ _ eS ?_;have tc:ml (al t) c=true:=tc;rw[tc];refine af ?_;refine ao (bw (λI hw=>af1 t aj ae ak br co vs c I (bp.now hw) (nM.now hw) (wU.now hw)) ?_);rintro v n6 tG ⟨l,rfl,agb,ie⟩ B4;obtain⟨out,rh,mC,r7⟩:=ie aE vo tc;rw[M7 aE vo,amo tc];refine af ?_;exact bZ (l,out,n6,tG) ⟨rh,mC,r7⟩ (hA:=λ_ h=>h.qt.cm [2,3,4])
  rintro⟨l,out,nl,wl⟩ ⟨rh,mC,r7⟩;dsimp only at rh mC r7⊢;have ale:=rh.aG;refine af ?_;refine ao (bw (λI hw=>JM t buf aj ae ak l vs out I (bp.now hw) (hw.now rh)) ?_);rintro v n7 A6 ⟨agv,akA,rfl,alm,alh,I7⟩ B5;have I7:=I7 aE mC;rw[O4 _ mC];refine af ?_;refine dH λaiO=>?_;refine c0 0 ?_;simp only[hd];refine af ?_;refine L2 rfl rfl rfl ?_;refine ao (iJ (a7:=λI hw=>Tc agv Lu (ss (al t) (nH t (al t) buf script)) I (by have:=hw.now I7;rwa[r7,<-Ih]at this) (hw.now EZ)) (ab:=?_));rintro v n8 ah5 rfl ajK;refine cJ _ (λ_ h=>h.cI.cI.cI.cI) (af ?_);refine cK rfl (λh=>by cases h) λ_=>?_;refine af ?_;exact bt (m+1) ⟨by omega,by omega⟩ (by omega) ⟨by rw[<-vv];rfl,rfl,rfl,rfl,trivial⟩ (bV [2,3])
 refine af ?_;exact bP rfl (.t1 rfl) λI hw=>rfl
end Go.Proofs.bK
