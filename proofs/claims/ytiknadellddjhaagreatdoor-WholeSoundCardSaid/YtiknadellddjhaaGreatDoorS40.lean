/- Lemmas for the law WholeSound. -/
import Derived.Test.YtiknadellddjhaaGreatDoorS39
set_option linter.all false
open Go.Proofs.Tryz
set_option maxHeartbeats 12800000
open Go Go.cc Go.bU Go.gH Go.eV
namespace Go.Proofs.bK
attribute [local irreducible] wpList Code.wp bodyPost Exit.then Exit.inBlock Calls
theorem ab3(p:Int)(n:Nat)(w:World)(bh:0<n)(aB:n<=1000):bj prog 163 [.int .i64 p,.int .i64 n] w λ_ v _=>v=.int .i64 (p.emod n):=by
 have h0:(0:Int)<(n:Int):=by omega
 have nQ:=Ks (x:=p) h0;have h2:=aoE p (show(n:Int)≠0 by omega);have h3:=aox p h0;refine gP func163 ntmps163 ?_;refine dg (KK (bY rfl) (bY rfl) bh) (ab:=af ?_);refine bA (λh1=>?_) λh1=>?_
 ·rw[aq]at h1;rw[amo h1]at nQ;have hb:p.tmod n+n=p % n:=nQ;refine px λI hw=>?_;exact amC (Value.int .i64) nQ
 rw[ar]at h1;rw[amn h1]at nQ;refine px λI hw=>?_;exact amC (Value.int .i64) nQ
def qH(t:aM)(m:cu)(p:Int):lf:=(cf t m).getD (p.emod (cf t m).length).toNat default
def Mj(b:Nat)(t:aM)(q:fW)(m:cu)(p:Int):Nat->Value->List aA->World->Prop:=λ_ v es _=>v=.tuple #[.agg (eW (qH t m p)).toArray,.int .i64 0]/\∃qB,es=ko b t {q with ag:=qB} (gW t (al t) false m (qH t m p))/\sH t {q with ag:=qB} (gW t (al t) false m (qH t m p))
theorem RT{t:aM}{m:cu}(p:Int)(h:¬cf t m=[]):qH t m p∈cf t m/\(p.emod (cf t m).length).toNat<(cf t m).length/\0<=p.emod (cf t m).length:=by
 have aB:(0:Int)<(cf t m).length:=by
  rcases Nat.eq_zero_or_pos (cf t m).length with g | g
  ·exact absurd (amO g) h
  omega
 have h2:0<=p.emod (cf t m).length:=aoE p (by omega);have h3:p.emod (cf t m).length<(cf t m).length:=aox p aB;have aC:(p.emod (cf t m).length).toNat<(cf t m).length:=by omega
 exact⟨er aC,aC,h2⟩
theorem ab0{b:Nat}{t:aM}{q:fW}{m:cu}(w:World)(aE:du t=0){log:List Nat}{dc:Nat->List Nat}(R:jY t false m log dc)(ok:sH t q m)(p:Int)(dC:¬cf t m=[]) (c6:aV (bB (ko b t q m)) w dV 1 q.lv (b2 t)) (jF:aV (bB (ko b t q m)) w ev 3 q.aU (bk t)) (hw:Mem [] (ko b t q m) w): eM prog 85 [ax b,.int .i64 p] (ko b t q m) w (Mj b t q m p):=by
 have G:=kf aE;have ll:=G.n16;have M:=R.M;have gl:∀k,k<t.code.length->m.cT.getD k default=[]:=λk hk=>by rw[M.buf k hk,(R.jV rfl).1 k hk];rfl
 obtain⟨r8,kC,Zm⟩:=RT p dC;have hZ:(cf t m).length<=2* t.code.length:=yG t m _;obtain⟨k,hk,mA⟩:=vP.1 r8;have Y2:qH t m p=⟨1,(k:Int)⟩/\kR t m k=true:=mA.resolve_right λg=>g.2 (gl k hk);obtain⟨mA,nL⟩:=Y2;have dO:(m.av.getD k default).at'<(cj t k).length:=by unfold kR at nL;rw[ami,amj]at nL;exact nL.1
 have l9:gW t (al t) false m (qH t m p)=eK t (al t) false m k:=by rw[mA];unfold gW;rw[amo rfl,amw]
 unfold Mj;rw[l9];refine jO func85 ntmps85 hw ?_;refine dH λcO=>?_;refine ao (bw (λI hw=>J0 I (oF.rk ok hw.tail (hw.now c6) (hw.now jF))) ?_);rintro v bx a6 rfl cA;refine af ?_;refine cK rfl (λh=>by cases h) λ_=>?_;refine af ?_;refine ao (bw (λI hw=>QX I (oF.rk ok hw.tail (hw.now c6) (hw.now jF)) ll gl) ?_);rintro v6 cp bX mH fq;have als:=mH.aG;refine af ?_;refine cK rfl (λh2=>by rw[aq]at h2;omega) λ_=>?_;refine af ?_;refine ao (iJ (a7:=λI hw=>ab3 p (cf t m).length I (by omega) (by omega)) (ab:=?_));rintro v22 hD gb rfl nj;refine af ?_;refine dH λeN=>?_;refine c0 0 ?_;have IH:(cf t m).getD (p.emod (cf t m).length).toNat default=(⟨1,(k:Int)⟩:lf):=mA;rw[IH,mA];refine cJ (Mem [(w,bB (ko b t q m))] (ko b t q m++[.box eN (eW ⟨1,(k:Int)⟩) 97,.box cO [.int .i64 0,.int .i64 0] 97])) (λ_ h=>(h.cm (es:=ko b t q m++[_,_]) [2,3,4,5,6,0,1]).cI.cI.cI) ?_;refine ao (en (es:=ko b t q m) (a7:=λI hw=>ab6 I aE M ok k hk dO (gl k hk) (hw.gw c6 aL λ_ h=>amE _ h) (hw.gw jF aL λ_ h=>amE _ h) hw.dk.ei) (ab:=?_));rintro rq jI es jJ ⟨qB,rfl,lM⟩;refine af ?_;refine c0 6 ?_;exact FH rfl (.dz rfl nS rfl (.t1 rfl)) aL λI hw=>⟨_,⟨rfl,qB,rfl,lM⟩,hw.cm [0,1,2,3,4]⟩
end Go.Proofs.bK
namespace Go.Proofs.bK
attribute [local irreducible] wpList Code.wp bodyPost Exit.then Exit.inBlock Calls Exit.jump
def GZ(t:aM)(buf:Bool)(script:List Int):Nat->Value->World->Prop:=λn v I=>(du t≠0/\v=.tuple #[.agg #[U,U],.int .i64 (du t)])\/ (du t=0/\65536<script.length/\v=.tuple #[.agg #[U,U],.int .i64 2])\/ (du t=0/\script.length<=65536/\∃st mv,v=.tuple #[.agg #[st,mv],.int .i64 0]/\aD mv/\aV (Fr n) I bd 1 st (ss (al t) (nH t (al t) buf script)))
def rp(script:List Int)(i:Nat):Int:=if i<script.length then script.getD i default else 0
theorem adf{t:aM}{script:List Int}{i:Nat}{m:cu}(hm:runM t (al t) false script i=m)(h:¬cf t m=[]):gW t (al t) false m (qH t m (rp script i))=runM t (al t) false script (i+1):=by
 subst hm;have bh:¬(cf t (runM t (al t) false script i)).length=0:=λg=>h (amO g);have e:runM t (al t) false script (i+1)=let m:=runM t (al t) false script i
  if(cf t m).length=0 then m else gW t (al t) false m ((cf t m).getD (nV script i (cf t m).length) default):=rfl
 rw[e];dsimp only;rw[amn bh];rfl
structure U3 where
 i:Nat
 q:fW
 mv:Value
 ms:List lf
 b:Nat
 eu:Nat
 bx:Nat
 a6:World
 es:List aA
theorem ab4(t:aM)(aj ae ak aG:Value)(vs:List Value)(script:List Int)(w:World)(bp:gz an w aj ae ak vs t)(ct:aV an w bd 1 aG script):bj prog 30 [.agg (cQ t aj ae ak).toArray,aG] w (GZ t false script):=by
 have gZ:=ct.aG;refine gP func30 ntmps30 ?_;refine eQ λaT=>?_;refine dH λaO=>?_;refine aij 0 (λz:U3=>du t=0/\script.length<=65536/\z.i<=4161/\sH t z.q (runM t (al t) false script z.i)/\aD z.mv/\z.ms.length=z.i/\aV (jx z.bx z.es) z.a6 dV 1 z.q.lv (b2 t)/\aV (jx z.bx z.es) z.a6 ev 3 z.q.aU (bk t)) (λz=>[(9,true,.int .i64 (z.i:Nat)),(8,true,.pointer (some ⟨z.eu,0,none⟩)),(6,true,.pointer (some ⟨z.b,0,none⟩)),(4,true,ax aO),(1,true,aG)]) (λz=>Mem [(z.a6,jx z.bx z.es),(w,an)] (ko z.b t z.q (runM t (al t) false script z.i)++[.box z.eu [U,z.mv] 47,.own z.mv 97 2 eW z.ms,.box aO [U,U] 47])) (λz=>4161-z.i) rfl ?_ λhp=>?_
 ·rintro⟨i,q,mv,ms,b,eu,bx,a6,es⟩ ⟨h1,zS,hi,ok,kj,B2,c6,jF⟩;dsimp only at h1 zS hi ok kj B2 c6 jF⊢;have G:=kf h1;have ll:=G.n16;obtain⟨log,dc,R,Pu⟩:=AO h1 false script i;have BW:=@C4 t h1 false script i;have M:=R.M;generalize j2:runM t (al t) false script i=m at *;have gl:∀k,k<t.code.length->m.cT.getD k default=[]:=λk hk=>by rw[M.buf k hk,(R.jV rfl).1 k hk];rfl
  refine af ?_;refine ao (bw (λI hw=>QX I (oF.rk ok (Mem.dk hw) (hw.now c6) (hw.now jF)) ll gl) ?_);rintro Uj cp bX Z4 fq;refine di (λh3=>?_) λh3=>?_
  ·have dC:¬cf t m=[]:=λg=>by rw[g,aq]at h3;simp at h3
   have ED:=BW dC;refine af ?_;refine h7 (λ_:Unit=>True) (λ_=>[(10,true,.int .i64 (rp script i)),(9,true,.int .i64 (i:Nat)),(8,true,ax eu),(6,true,ax b),(4,true,ax aO),(1,true,aG)]) (λ_=>Mem [(a6,jx bx es),(w,an)] (ko b t q m++[.box eu [U,mv] 47,.own mv 97 2 eW ms,.box aO [U,U] 47])) ?_ ?_
   ·refine bA (λaC=>?_) λaC=>?_
    ·have c5:i<script.length:=by rw[aq]at aC;omega
     refine af ?_;exact bZ () trivial ⟨by unfold rp;rw[amo c5];rfl,rfl,rfl,rfl,rfl,rfl,trivial⟩ eS
    have c5:¬i<script.length:=by rw[ar]at aC;omega
    refine af ?_;exact bZ () trivial ⟨by unfold rp;rw[amn c5];rfl,rfl,rfl,rfl,rfl,rfl,trivial⟩ eS
   rintro⟨⟩ _;refine af ?_;refine ao (en (es:=ko b t q m) (a7:=λI hw=>ab0 I h1 R ok (rp script i) dC (hw.gw c6 aL λ_ h=>amE _ h) (hw.gw jF aL λ_ h=>amE _ h) hw.dk.ei) (ab:=?_));rintro rq jI Xa jJ ⟨rfl,qB,rfl,lM⟩;rw[adf j2 dC]at lM⊢;refine af ?_;generalize nQ:qH t m (rp script i)=uC;refine dH λeN=>?_;refine c0 0 ?_;refine cJ (Mem [(a6,jx bx es),(w,an)] (.box eN (eW uC) 97::(ko b t {q with ag:=qB} (runM t (al t) false script (i+1))++([.box eu [U,mv] 47,.own mv 97 2 eW ms,.box aO [U,U] 47]:List aA)))) (λ_ h=>h) ?_;refine ao (eA eW wM (e:=97) (sz:=2) (len:=1) (dF:=[(0,eW uC)]) (ab:=λoE um=>af ?_));refine ao (e6 8 (hm:=aL) (hk:=rfl) (bG:=by simp;omega) (ab:=λtE tl=>af ?_));refine c0 7 ?_;refine aie ?_;repeat refine adq ?_
   refine adi ⟨i+1,{q with ag:=qB},tE,ms++[uC],b,eu,bx,a6,es⟩ ⟨h1,zS,?_,lM,tl,?_,c6,jF⟩ ?_ ⟨rfl,rfl,rfl,rfl,rfl,trivial⟩ (bV [2,3,4,5,6,7,8,9])
   ·show i+1<=4161;omega
   ·show(ms++[uC]).length=i+1;simp[B2]
   show 4161-(i+1)<4161-i;omega
  have Ir:cf t m=[]:=by rw[ar]at h3;exact amO (by omega)
  have zL:=Gk h1 false script (i:=i) (by rw[j2];exact Ir);rw[j2]at zL;refine af ?_;have hZ:=M.ns;rw[lq h1]at hZ;refine ao (bw (λI hw=>(ab5 I (oF.rk ok (Mem.dk hw) (hw.now c6) (hw.now jF)) G hZ λk hk=>(M.yS h1 hk).1.1).size (hw.sz gC)) ?_);rintro v53 hD gb ⟨Ci,IM⟩ nj;have agM:=Ci.aG;refine af ?_;refine c0 5 ?_;refine c0 7 ?_;refine Ku (bP rfl (.dz rfl vO rfl (.t1 rfl)) λI hw=>.inr (.inr ⟨h1,zS,v53,mv,rfl,kj,?_⟩));rw[<-zL,TK h1];exact hw.pass Ci aL IM
 refine af ?_;refine ao (gr (λI hw=>ab1 t aj ae ak vs I (bp.now hw)) ?_);rintro v bx es a6 iK;rcases iK with⟨h1,rfl,rfl⟩ | ⟨h1,b,q,rfl,rfl,ok,c6,jF⟩
 ·refine af ?_;refine cK rfl (λ_=>?_) (λh=>by rw[amm,aq]at h;exact absurd h h1);refine af ?_;refine c0 0 ?_;exact Ku (bP rfl (.dz rfl aL rfl (.t1 rfl)) λI hw=>.inl ⟨h1,rfl⟩)
 refine af ?_;refine cK rfl (λh=>by rw[amk,ar]at h;exact absurd rfl h) λ_=>?_;refine di (λh2=>?_) λh2=>?_
 ·rw[aq]at h2;refine af ?_;refine c0 5 ?_;exact Ku (bP rfl (.dz rfl pE rfl (.t1 rfl)) λI hw=>.inr (.inl ⟨h1,by omega,rfl⟩))
 rw[ar]at h2;refine af ?_;refine dH λeu=>?_;refine dZ 97 2 eW ?_;exact aic hp ⟨0,q,U,[],b,eu,bx,a6,ko b t q (iO t (al t))⟩ ⟨h1,by omega,amz _,ok,cZ,rfl,c6,jF⟩ ⟨rfl,rfl,rfl,rfl,rfl,trivial⟩ (bV [2,3,4,5,6,1,0,7])
end Go.Proofs.bK
namespace Go.cc
open Go Go.bU
def l7(k:Nat):List Value:=[ax k]
def NI:List Value->Nat | [.pointer (some a)]=>a.block | _=>0
instance:ee l7 1:=⟨λ_=>rfl,by decide⟩
instance:n5 l7 (λ_=>True):=⟨λ_ _ u hu=>by simp[l7]at hu;subst hu;rfl⟩
end Go.cc
attribute [local irreducible] Go.wpList Go.Code.wp Go.bodyPost Go.Exit.then Go.Exit.inBlock Go.Calls
namespace Go.Proofs.bK
instance:jw prog 267 l7 NI:=⟨trivial⟩
structure gm where
 ae:Value
 lv:Value
 aU:Value
 aw:Value
 mv:Value
 vs:List Value
 ey:List Nat
 rs:List (Value×Value)
def ao0(t:aM)(q:gm):List Value:=[.int .i64 t.az,q.ae,q.lv,q.aU,q.mv,q.aw]
def lY(w:qn):b5:=⟨w.loc,w.val⟩
def ao1(q:gm)(m:cu)(k:Nat):List Value:=[(q.rs.getD k default).1,.int .i64 (m.av.getD k default).at',(q.rs.getD k default).2]
def wG(q:gm)(m:cu)(k:Nat):List aA:=[.box (q.ey.getD k default) (ao1 q m k) 271,.own (q.rs.getD k default).1 70 2 dm (m.av.getD k default).ah,.own (q.rs.getD k default).2 178 2 bz ((m.cT.getD k default).map lY)]
def h8(t:aM)(q:gm)(m:cu)(k:Nat):List aA:=.own (q.vs.getD k default) 169 8 cC (cj t k)::wG q m k
def iw(b:Nat)(t:aM)(q:gm)(m:cu):List aA:=[.box b (ao0 t q) 266,.own q.ae 167 1 cD q.vs,.own q.aw 267 1 l7 q.ey,.own q.mv 3 1 bd m.mem,df (dJ (h8 t q m) t.code.length)]
structure qk(t:aM)(q:gm):Prop where
 ae:aD q.ae
 lv:aD q.lv
 aU:aD q.aU
 aw:aD q.aw
 mv:aD q.mv
 Uq:q.vs.length=t.code.length
 Qh:q.ey.length=t.code.length
 afk:q.rs.length=t.code.length
 vs:∀k,k<t.code.length->aD (q.vs.getD k default)
 rs:∀k,k<t.code.length->aD (q.rs.getD k default).1/\aD (q.rs.getD k default).2
structure pg(S:Nat->Prop)(w:World)(b:Nat)(t:aM)(q:gm)(m:cu):Prop where
 ok:qk t q
 box:gM S w b (ao0 t q)
 code:aV S w cD 1 q.ae q.vs
 ptr:aV S w l7 1 q.aw q.ey
 mem:aV S w bd 1 q.mv m.mem
 row:∀k,k<t.code.length->aV S w cC 8 (q.vs.getD k default) (cj t k)
 gx:∀k,k<t.code.length->gM S w (q.ey.getD k default) (ao1 q m k)
 bq:∀k,k<t.code.length->aV S w dm 2 (q.rs.getD k default).1 (m.av.getD k default).ah
 buf:∀k,k<t.code.length->aV S w bz 2 (q.rs.getD k default).2 ((m.cT.getD k default).map lY)
 bb:aV S w dV 1 q.lv (b2 t)
 cw:aV S w ev 3 q.aU (bk t)
theorem pg.of{b:Nat}{t:aM}{q:gm}{m:cu}{bs:List dr}{H:List aA}{w:World}(ok:qk t q)(hw:Mem bs (iw b t q m++H) w)(aB:aV an w dV 1 q.lv (b2 t))(aE:aV an w ev 3 q.aU (bk t)):pg an w b t q m:=
 have hf:∀k,k<t.code.length->Mem bs (h8 t q m k++(df (jC (h8 t q m) t.code.length k)::H)) w:=λk hk=>(hw.tail.tail.tail.tail).rm k hk
 ⟨ok,hw.eN aL trivial,hw.ed,hw.ed,hw.ed,λk hk=>(hf k hk).ed aL,λk hk=>(hf k hk).eN ds trivial,λk hk=>(hf k hk).ed gC,λk hk=>(hf k hk).ed mh,aB,aE⟩
theorem pg.rk{b:Nat}{t:aM}{q:gm}{m:cu}{bs:List dr}{w:World}(ok:qk t q)(hw:Mem bs (iw b t q m) w)(aB:aV an w dV 1 q.lv (b2 t))(aE:aV an w ev 3 q.aU (bk t)):pg an w b t q m:=pg.of (H:=[]) ok (by rw[amB];exact hw) aB aE
theorem pg.now{S:Nat->Prop}{B I:World}{b:Nat}{t:aM}{q:gm}{m:cu}{bs:List dr}{H:List aA}(h:pg S B b t q m)(hw:Mem bs H I)(hB:(B,S)∈bs:=by repeat (first | exact List.Mem.head _ | refine List.Mem.tail _ ?_)):pg an I b t q m:=⟨h.ok,hw.va h.box hB,hw.now h.code hB,hw.now h.ptr hB,hw.now h.mem hB,λk hk=>hw.now (h.row k hk) hB,λk hk=>hw.va (h.gx k hk) hB,λk hk=>hw.now (h.bq k hk) hB,λk hk=>hw.now (h.buf k hk) hB,hw.now h.bb hB,hw.now h.cw hB⟩
theorem Ta(v:Value)(s:ByteArray)(l:List ByteArray)(w:World)(h:aV an w dV 1 v l)(hm:s∈l):bj prog 257 [v,.string s] w λ_ r _=>r=.int .i64 (dp l s):=by
 have ja:=h.le;have r2:∀i,i<l.length->l.getD i default=s->(∀j,j<i->l.getD j default≠s)->dp l s=i:=λi h1 h2 h3=>by unfold dp;rw[List.findIdx_eq h1];refine⟨by rw[amj,<-h2,aml,amp h1];rfl,λj ad=>?_⟩;have:=h3 j ad;rw[amu];rwa[aml,amp (by omega)]at this
 obtain⟨i1,h1,h2⟩:=aod hm;refine gP func257 ntmps257 ?_;refine b9 (λi:Nat=>i<=l.length/\∀j,j<i->l.getD j default≠s) (λi=>[(8,true,.int .i64 i),(7,true,.int .i64 l.length),(1,true,.string s),(0,true,v)]) (λs=>Mem [(w,an)] []) (λs=>l.length-s) (0) ⟨by omega,λj ad=>by omega⟩ ?_ ⟨rfl,rfl,rfl,rfl,trivial⟩ c7
 rintro i ⟨hi,bS⟩;refine di (λh3=>?_) λh3=>?_
 ·have dw:i<l.length:=by rw[aq]at h3;omega
  refine di (λaC=>?_) λaC=>?_
  ·rw[aq]at aC;refine px λI hw=>?_;rw[r2 i dw aC.symm bS];rfl
  rw[ar]at aC;refine af ?_;refine bt ((i+1)) ⟨by omega,λj ad=>?_⟩ (by omega) (hA:=c7);by_cases e:j=i
  ·subst e;exact λg=>aC g.symm
  exact bS j (by omega)
 have dw:i=l.length:=by rw[ar]at h3;omega
 refine absurd ?_ (bS i1 (by omega));rw[aml,amp h1,h2];rfl
section
variable {b:Nat} {t:aM} {q:gm} {m:cu} (w:World) (h:pg an w b t q m)
include h
theorem DI(bh:0<t.code.length):bj prog 165 [ax b] w λ_ v _=>v=.bool true:=by
 have hb:=h.box;have hp:=h.ptr;obtain⟨s1,s2,cy,dq,dd,jn,eB,eP,jR,ig⟩:=h.ok;refine gP func165 ntmps165 ?_;refine dg (Sl underlying194 (bY rfl) (bY rfl)) (ab:=af ?_);refine bP rfl (.t1 rfl) λI hw=>?_;have h0:bO ((0:Int)<q.ey.length)=true:=by rw[aq];omega
 exact amC Value.bool h0
theorem VO(s:ByteArray)(ag:s∈b2 t):bj prog 169 [ax b,.string s] w λ_ v _=>v=.int .i64 (dp (b2 t) s):=by have hb:=h.box;obtain⟨s1,s2,cy,dq,dd,jn,eB,eP,jR,ig⟩:=h.ok;refine gP func169 ntmps169 ?_;refine ao (bw (λI hw=>Ta _ s _ I (hw.now h.bb) ag) ?_);rintro v bx a6 rfl cA;refine af ?_;exact bP rfl (.t1 rfl) λI hw=>rfl
end
theorem MV{gg:Nat}{aJ bv:Value}{a:Int}{l:List b5}(w:World)(hb:gM an w gg [aJ,.int .i64 a,bv])(aB:aV an w bz 2 bv l):bj prog 250 [.pointer (some ⟨gg,2,none⟩)] w λ_ v _=>v=.bool l.isEmpty:=by
 have gZ:=aB.aG;refine gP func250 ntmps250 ?_;refine bP rfl (.t1 rfl) λI hw=>?_;refine amC Value.bool ?_;cases l with
 | nil=>rw[List.isEmpty_nil,aq];rfl
 | cons x l=>rw[List.isEmpty_cons,ar,amI];omega
section
variable {b:Nat} {t:aM} {q:gm} {m:cu} (w:World) (h:pg an w b t q m)
include h
theorem VU(k:Nat)(hk:k<t.code.length)(dO:(m.av.getD k default).at'<(cj t k).length):bj prog 249 [ax b,.int .i64 k] w λ_ v _=>v=.bool (sy t m k):=by
 have hb:=h.box;have hp:=h.ptr;have ai:=h.code;have mF:=h.row k hk;have vB:=h.gx k hk;unfold ao1 at vB;obtain⟨s1,s2,cy,dq,dd,jn,eB,eP,jR,ig⟩:=h.ok;have E6:=jR k hk;refine gP func249 ntmps249 ?_;refine cV [0,1,2,3,4,5,6,7,8,9,10,11,12,13,14,15] mixed ?_;refine bI ?_;refine bL _ (h:=ft ?_);intro cS;refine aF (aP ?_) iG;refine eG (λ_=>True) (h:=bD 0 (ab:=?_));refine aF (aP ?_) dx;refine af ?_;generalize hi:(cj t k).getD (m.av.getD k default).at' default=i at *;refine wu (λz:Int=>z=pZ i/\(decide (i.op=5)||decide (i.op=13))=true) (λz=>[(7,true,.int .i64 z),(5,true,.pointer (some ⟨q.ey.getD k default,0,none⟩))]) (λ_=>Mem [(w,an)] []) ?_ ?_
 ·refine bA (λh1=>?_) λh1=>?_
  ·rw[aq]at h1;refine af ?_;exact bZ 1 ⟨by unfold pZ;rw[amo h1],by rw[h1];rfl⟩ (hA:=iG)
  rw[ar]at h1;refine di (λh2=>?_) λh2=>?_
  ·rw[aq]at h2;refine af ?_;exact bZ i.dE ⟨by unfold pZ;rw[amn h1],by rw[h2];rfl⟩ (hA:=iG)
  rw[ar]at h2;refine px λI hw=>?_;unfold sy;rw[hi];dsimp only;rw[amy h1,amy h2];simp;rfl
 rintro z ⟨rfl,aY⟩;refine af ?_;refine ao (bw (λI hw=>MV I (hw.va vB aL) (hw.now (h.buf k hk) aL)) ?_);rintro v bx a6 rfl cA;refine af ?_;refine fm (h:=eY (a7:=λ_ I hw=>LD _ _ _ I)) (ab:=af ?_);refine bP rfl (.t1 rfl) λI hw=>?_;refine amC Value.bool ?_;unfold sy;rw[hi];dsimp only;rw[aY,aoG,List.isEmpty_map]
theorem MX(bh:0<t.code.length)(ll:t.code.length<=16):bj prog 166 [ax b] w λn v I=>aV (Fr n) I eW 2 v (cf t m):=by
 have hb:=h.box;have hp:=h.ptr;have ai:=h.code;obtain⟨s1,s2,cy,dq,dd,jn,eB,eP,jR,ig⟩:=h.ok;refine gP func166 ntmps166 ?_;refine ao (bw (λI hw=>DI I (h.now hw) bh) ?_);rintro v bx a6 rfl cA;refine af ?_;refine cK rfl (λh=>by cases h) λ_=>?_;refine af ?_;refine dZ 97 2 eW ?_;refine b9 (λz:Nat×Value=>z.1<=t.code.length/\aD z.2) (λz=>[(14,true,.int .i64 z.1),(13,true,.int .i64 q.ey.length),(12,true,q.aw),(3,true,z.2),(0,true,ax b)]) (λz=>Mem [(w,an)] [.own z.2 97 2 eW (o8 t m z.1)]) (λz=>t.code.length-z.1) (0,U) ⟨amz _,cZ⟩ ?_ ⟨rfl,rfl,rfl,rfl,rfl,trivial⟩ eS
 rintro⟨k,v⟩ ⟨hk,aw⟩;dsimp only at hk aw⊢;have hZ:=yG t m k;refine di (λh2=>?_) λh2=>?_
 ·have bF:k<t.code.length:=by rw[aq]at h2;omega
  have I3:=h.row k bF;have E6:=jR k bF;have eP:=I3.le;have vB:=h.gx k bF;unfold ao1 at vB;have eg:=CG t m k;unfold ux at eg;refine af ?_;refine cV [0,1,2,3,4,5,6,7,8,9,10,11,12,13,14,15,16,17,18,19] mixed ?_;refine bI ?_;refine w9 ?_ (h:=eY (a7:=λay I hw=>VU I (h.now hw) k bF (by rw[aq]at ay;omega)));refine aP ?_;refine af ?_;have nL:(bO (((m.av.getD k default).at':Int)<(cj t k).length)&&!sy t m k)=kR t m k:=by
   unfold kR;have e:bO (((m.av.getD k default).at':Int)<(cj t k).length)=decide ((m.av.getD k default).at'<(cj t k).length):=by rw[ch];simp
   rw[e]
  refine h7 (λz:Value=>aD z) (λz=>[(5,true,.pointer (some ⟨q.ey.getD k default,0,none⟩)),(4,true,.int .i64 k),(14,true,.int .i64 k),(13,true,.int .i64 q.ey.length),(12,true,q.aw),(3,true,z),(0,true,ax b)]) (λz=>Mem [(w,an)] [.own z 97 2 eW (o8 t m k++if kR t m k=true then [⟨1,(k:Int)⟩]else [])]) ?_ ?_
  ·refine bA (λh3=>?_) λh3=>?_
   ·rw[nL]at h3;rw[amo h3];refine af ?_;refine ao (eA eW wM (ab:=λsx zX=>af ?_));refine ao (e6 1 (hm:=aL) (hk:=rfl) (bG:=by simp;omega) (ab:=λv35 vD=>af ?_));exact bZ v35 vD (hA:=iG)
   rw[nL]at h3;rw[amn (by rw[h3];exact ant),amB];refine af ?_;exact bZ v aw
  rintro v1 j6;refine af ?_;refine ao (bw (λI hw=>MV I (hw.va vB aL) (hw.now (h.buf k bF) aL)) ?_);rintro v46 bx a6 rfl cA;have Zc:(o8 t m k++if kR t m k=true then [(⟨1,(k:Int)⟩:lf)]else []).length<=2* k+1:=by rw[ams];split<;>simp<;>omega
  rw[List.isEmpty_map];rw[<-amJ]at eg;refine di (λh3=>?_) λh3=>?_
  ·rw[amk]at h3;rw[amn (c:=(m.cT.getD k default).isEmpty=true) (by rw[h3];exact ant)]at eg;refine af ?_;refine ao (eA eW wM (ab:=λsx zX=>af ?_));refine ao (e6 1 (hm:=aL) (hk:=rfl) (bG:=by simp only[amD,amI,amW];omega) (ab:=λv35 vD=>af ?_));exact bt (k+1,v35) ⟨by omega,vD⟩ (show t.code.length-(k+1)<t.code.length-k by omega) (hA:=λ_ h=>by dsimp only;rw[eg];exact h.tail.cI)
  rw[amm]at h3;rw[amo (c:=(m.cT.getD k default).isEmpty=true) h3,amB]at eg;refine af ?_;exact bt (k+1,v1) ⟨by omega,j6⟩ (show t.code.length-(k+1)<t.code.length-k by omega) (hA:=λ_ h=>by dsimp only;rw[eg];exact h.cI)
 have bF:k=t.code.length:=by rw[ar]at h2;omega
 subst bF;refine px λI hw=>?_;exact hw.hK aL aL
end
end Go.Proofs.bK
