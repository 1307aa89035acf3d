/- Lemmas for the law WholeComplete. -/
import Derived.Test.YtiknadellddjhaaGreatDoorC33
import Derived.Test.YtiknadellddjhaaGreatDoorC36
import Derived.Test.YtiknadellddjhaaGreatDoorC37
set_option linter.all false
open Go.Proofs.Tryz
set_option maxHeartbeats 25600000
open Go Go.b9 Go.bM Go.gG Go.fo
attribute [local irreducible] Go.wpList Go.Code.wp Go.bodyPost Go.Exit.then Go.Exit.inBlock Go.Calls
namespace Go.Proofs.bA
structure gd where
 ad:Value
 ak:Value
 aT:Value
 ax:Value
 bR:Value
 vs:List Value
 aj:List (Value×Nat)
def nK(t:aV)(q:gd):List Value:=[.bool true,.int .i64 t.aC,q.ad,q.ak,q.aT,q.ax,q.bR]
def hT(t:aV)(q:gd)(m:cD)(k:Nat):List aB:=[.own (q.vs.getD k default) 169 8 cL (cr t k),.own (q.aj.getD k default).1 70 2 dy (m.aw.getD k default).ag]
def kG(b:Nat)(t:aV)(q:gd)(m:cD):List aB:=[.box b (nK t q) 262,.own q.ad 167 1 ct q.vs,.own q.ax 183 2 gM q.aj,.own q.bR 3 1 a7 m.mem,dj (dQ (hT t q m) t.code.length)]
structure s4(t:aV)(q:gd)(m:cD):Prop where
 ad:aD q.ad
 ak:aD q.ak
 aT:aD q.aT
 ax:aD q.ax
 bR:aD q.bR
 Vo:q.vs.length=t.code.length
 aL:q.aj.length=t.code.length
 vs:∀k,k<t.code.length->aD (q.vs.getD k default)
 aj:∀k,k<t.code.length->aD (q.aj.getD k default).1/\(q.aj.getD k default).2=(m.aw.getD k default).at'
structure oY(S:Nat->Prop)(w:World)(b:Nat)(t:aV)(q:gd)(m:cD):Prop where
 ok:s4 t q m
 box:gQ S w b (nK t q)
 code:aZ S w ct 1 q.ad q.vs
 hold:aZ S w gM 2 q.ax q.aj
 mem:aZ S w a7 1 q.bR m.mem
 row:∀k,k<t.code.length->aZ S w cL 8 (q.vs.getD k default) (cr t k)
 bo:∀k,k<t.code.length->aZ S w dy 2 (q.aj.getD k default).1 (m.aw.getD k default).ag
 aO:aZ S w dU 1 q.ak (cc t)
 cf:aZ S w eH 3 q.aT (br t)
theorem oY.of{b:Nat}{t:aV}{q:gd}{m:cD}{bs:List dm}{H:List aB}{w:World}(ok:s4 t q m)(hw:Mem bs (kG b t q m++H) w)(aL:aZ al w dU 1 q.ak (cc t))(aJ:aZ al w eH 3 q.aT (br t)):oY al w b t q m:=
 have hf:∀k,k<t.code.length->Mem bs (hT t q m k++(dj (jQ (hT t q m) t.code.length k)::H)) w:=λk hk=>(hw.tail.tail.tail.tail).sE k hk
 ⟨ok,hw.eQ aP trivial,hw.dX,hw.dX,hw.dX,λk hk=>(hf k hk).dX aP,λk hk=>(hf k hk).dX dg,aL,aJ⟩
theorem oY.now{S:Nat->Prop}{B I:World}{b:Nat}{t:aV}{q:gd}{m:cD}{bs:List dm}{H:List aB}(h:oY S B b t q m)(hw:Mem bs H I)(hB:(B,S)∈bs:=by repeat (first | exact List.Mem.head _ | refine List.Mem.tail _ ?_)):oY al I b t q m:=⟨h.ok,hw.vE h.box hB,hw.now h.code hB,hw.now h.hold hB,hw.now h.mem hB,λk hk=>hw.now (h.row k hk) hB,λk hk=>hw.now (h.bo k hk) hB,hw.now h.aO hB,hw.now h.cf hB⟩
theorem KI{b:Nat}{t:aV}{q:gd}{m:cD}(w:World)(h:oY al w b t q m):bl prog 162 [av b] w λ_ v _=>v=.bool true:=by have hb:=h.box;obtain⟨s1,s2,cJ,dw,dk,_,_,_,_⟩:=h.ok;refine ha func162 ntmps162 ?_;refine dh (Tj underlying188 (b3 rfl) (b3 rfl)) (ab:=af ?_);exact bT rfl (.t1 rfl) λI hw=>rfl
theorem RU{b:Nat}{t:aV}{q:gd}{m:cD}(w:World)(h:oY al w b t q m)(bd:t.code.length<=16)(hc:∀k,k<t.code.length->m.cW.getD k default=[]):bl prog 84 [av b] w λn v I=>aZ (Fr n) I e7 2 v (c8 t m):=by
 have hb:=h.box;have ai:=h.code;have eC:=h.hold;obtain⟨s1,s2,cJ,dw,dk,gO,lx,iA,j6⟩:=h.ok;refine ha func84 ntmps84 ?_;refine aq (bp (λI hw=>KI I (h.now hw)) ?_);rintro v bx bc rfl cu;refine af ?_;refine cM rfl (λh=>by cases h) λ_=>?_;refine af ?_;refine ea 97 2 e7 ?_;refine bX (λz:Nat×Value=>z.1<=t.code.length/\aD z.2) (λz=>[(15,true,.int .i64 z.1),(14,true,.int .i64 q.aj.length),(13,true,q.ax),(3,true,z.2),(0,true,av b)]) (λz=>Mem [(w,al)] [.own z.2 97 2 e7 (pn t m z.1)]) (λz=>t.code.length-z.1) (0,aa) ⟨aoD _,cU⟩ ?_ ⟨rfl,rfl,rfl,rfl,rfl,trivial⟩ ek
 rintro⟨k,v⟩ ⟨hk,ax⟩;dsimp only at hk ax⊢;have jg:=AZ t m k;refine dp (λh2=>?_) λh2=>?_
 ·have bq:k<t.code.length:=by rw[an]at h2;omega
  have iK:=j6 k bq;have JJ:=h.row k bq;have FH:=iA k bq;have ep:=JJ.le;refine af ?_;refine ei λec=>?_;refine aq (bK 0 (h1:=.cons iK.1.one (.cons rfl .nil)) (ab:=af ?_));refine cz [0,1,2,3,4,5,6,7,8,9,10] mixed ?_;refine bQ ?_;refine af ?_;rw[iK.2];refine bC (λh3=>?_) λh3=>?_
  ·have dE:(m.aw.getD k default).at'<(cr t k).length:=by rw[an]at h3;omega
   have er:pn t m (k+1)=pn t m k++[⟨1,(k:Int)⟩]:=by rw[Dk,Sc (hc k bq),aou dE]
   refine af ?_;refine aq (eI (enc:=e7) (dec:=xh) (ab:=λsT AK=>af ?_));refine aq (e6 2 (hm:=aP) (hk:=rfl) (bH:=by simp;omega) (ab:=λv35 tI=>af ?_));exact bm (k+1,v35) ⟨by omega,tI⟩ (show t.code.length-(k+1)<t.code.length-k by omega) (hA:=λ_ h=>by dsimp only;rw[er];exact h.tail.tail)
  have dE:¬(m.aw.getD k default).at'<(cr t k).length:=by rw[au]at h3;omega
  have er:pn t m (k+1)=pn t m k:=by rw[Dk,Sc (hc k bq),aot dE,aoH]
  refine af ?_;exact bm (k+1,v) ⟨by omega,ax⟩ (show t.code.length-(k+1)<t.code.length-k by omega) (hA:=λ_ h=>by dsimp only;rw[er];exact h.tail)
 have bq:k=t.code.length:=by rw[au]at h2;omega
 subst bq;refine pG λI hw=>?_;exact hw.im aP aP
def mo(t:aV)(m:cD)(x:cK):Int:=if x.aH= -1 then m.mem.getD (dr (cc t) x.loc) default else((m.aw.getD x.aH.toNat default).ag.getD x.bo.toNat default).n
theorem UF{t:aV}(h:dI t=0)(m:cD):wT (ar t) m=(br t).map (mo t m):=by rw[vf h];rfl
theorem US{t:aV}(G:iS t){x:cK}(hx:x∈br t)(h:x.aH= -1):x.loc∈cc t:=by have jz:=G.vc hx;unfold lG at jz;rw[aou h,aoo]at jz;refine uY.2 ⟨?_,sB jz.2⟩;unfold ni;exact aoG.2 (.inr (ao9.2 ⟨_,hx,rfl⟩))
theorem UT{t:aV}(G:iS t){x:cK}(hx:x∈br t)(h:¬x.aH= -1):0<=x.aH/\x.aH<t.code.length/\0<=x.bo/\x.bo<cn t.aC:=by
 have jz:=G.vc hx;have dq:=G.Mq x hx;unfold lG at jz;rw[aot h]at jz;simp only[aoo,aop]at jz;obtain⟨⟨⟨⟨q0,_⟩,cB⟩,bz⟩,_⟩:=jz;refine⟨q0,dq,cB,?_⟩;rcases G.aC with g | g
 ·rw[aou g]at bz;unfold cn;rw[aot (by omega)];omega
 rw[aot (by omega)]at bz;unfold cn;rw[aou g];omega
theorem adp{b:Nat}{t:aV}{q:gd}{m:cD}(w:World)(h:oY al w b t q m)(G:iS t)(jg:m.mem.length=(cc t).length)(kD:∀k,k<t.code.length->(m.aw.getD k default).ag.length=cn t.aC):bl prog 86 [av b] w λn v I=>aZ (Fr n) I a7 1 v ((br t).map (mo t m)):=by
 have hb:=h.box;have eC:=h.hold;have bL:=h.cf;have c0:=h.aO;have Zj:=h.mem;have qR:=G.Ms;have hs:=DV (xS t);have ly:=G.wE;obtain⟨s1,s2,cJ,dw,dk,gO,lx,iA,j6⟩:=h.ok;refine ha func86 ntmps86 ?_;refine aq (bp (λI hw=>KI I (h.now hw)) ?_);rintro v bx bc rfl cu;refine af ?_;refine cM rfl (λh=>by cases h) λ_=>?_;refine af ?_;refine ea 3 1 a7 ?_;refine bX (λz:Nat×Value=>z.1<=(br t).length/\aD z.2) (λz=>[(16,true,.int .i64 z.1),(15,true,.int .i64 (br t).length),(14,true,q.aT),(3,true,z.2),(0,true,av b)]) (λz=>Mem [(w,al)] [.own z.2 3 1 a7 (((br t).take z.1).map (mo t m))]) (λz=>(br t).length-z.1) (0,aa) ⟨aoD _,cU⟩ ?_ ⟨rfl,rfl,rfl,rfl,rfl,trivial⟩ ek
 rintro⟨k,v⟩ ⟨hk,ax⟩;dsimp only at hk ax⊢;have bH:(((br t).take k).map (mo t m)).length=k:=by rw[aoJ,ao3];omega
 refine dp (λh2=>?_) λh2=>?_
 ·have bq:k<(br t).length:=by rw[an]at h2;omega
  have lB:(br t).getD k default∈br t:=eN bq;have er:((br t).take (k+1)).map (mo t m)=((br t).take k).map (mo t m)++[mo t m ((br t).getD k default)]:=by rw[apn,getD_some bq,apm];rfl
  refine af ?_;refine ei λec=>?_;refine c7 0 ?_;refine bC (λh3=>?_) λh3=>?_
  ·rw[an]at h3;have eS:=US G lB h3;have dq:=qi eS;refine af ?_;have cS:mo t m ((br t).getD k default)=m.mem.getD (dr (cc t) ((br t).getD k default).loc) default:=by unfold mo;rw[aou h3]
   refine cz [0,1,2,3,4,5,6,7,8,9,10,11] mixed ?_;refine bQ ?_;refine bO _ (h:=hq (bb:=λI hw=>yd q.ak ((br t).getD k default).loc (cc t) I (hw.now c0) hs (by omega)) (ab:=?_));rintro v30 ck bY ⟨j,df,rfl,yX⟩ eZ;obtain rfl:=xP hs eS yX;refine aF (aN ?_) ek;refine af ?_;refine aq (eI (enc:=a7) (dec:=b9.oE) (ab:=λv41 wm=>af ?_));refine aq (e6 2 (hm:=aP) (hk:=rfl) (bH:=by simp;omega) (ab:=λzC JW=>af ?_));exact bm (k+1,zC) ⟨by omega,JW⟩ (show(br t).length-(k+1)<(br t).length-k by omega) (hA:=λ_ h=>by dsimp only;rw[er,cS];exact h.cX.tail.tail)
  rw[au]at h3;have tF:=UT G lB h3;refine af ?_;have cS:mo t m ((br t).getD k default)=((m.aw.getD ((br t).getD k default).aH.toNat default).ag.getD ((br t).getD k default).bo.toNat default).n:=by unfold mo;rw[aot h3]
  have hg:((br t).getD k default).aH.toNat<t.code.length:=by omega
  have oK:=h.bo _ hg;have iK:=(j6 _ hg).1;have ep:=kD _ hg;refine cz [0,1,2,3,4,5,6,7,8,9,10,11,12,13,14,15,16,17] mixed ?_;refine bQ ?_;refine bO _ (h:=eI (enc:=a7) (dec:=b9.oE) (e:=3) (sz:=1) (len:=1) (dM:=[(0,[.int .i64 ((m.aw.getD ((br t).getD k default).aH.toNat default).ag.getD ((br t).getD k default).bo.toNat default).n])]) (ab:=?_));intro v58 abo;refine aF (aN ?_) iR;refine eP (λ_=>True) (h:=e6 2 (hm:=aP) (hk:=rfl) (bH:=by simp;omega) (ab:=?_));intro v59 CY;refine aF (aN ?_) dz;refine af ?_;exact bm (k+1,v59) ⟨by omega,CY⟩ (show(br t).length-(k+1)<(br t).length-k by omega) (hA:=λ_ h=>by dsimp only;rw[er,cS];exact h.tail.tail)
 have bq:k=(br t).length:=by rw[au]at h2;omega
 subst bq;refine pG λI hw=>?_;rw[aoZ]at hw;exact hw.im aP aP
def mh(cZ:Nat)(aE:Value)(a:Int)(ag:List eh):List aB:=[.box cZ [aE,.int .i64 a] 183,.own aE 70 2 dy ag]
theorem RV{b:Nat}{t:aV}{q:gd}(cZ:Nat)(aE:Value)(a:Int)(ag:List eh)(d n:Int)(w:World)(eo:aD aE)(hd:0<=d/\d<ag.length)(hb:gQ (bJ (mh cZ aE a ag)) w b (nK t q))(hw:Mem [] (mh cZ aE a ag) w): eY prog 248 [av b,av cZ,.int .i64 d,.int .i64 n] (mh cZ aE a ag) w λ_ _ es _=>es=mh cZ aE a (fM t.aC ag d ⟨bg,n⟩):=by
 refine j3 func248 ntmps248 hw ?_;refine bC (λh1=>?_) λh1=>?_
 ·rw[aox,aoq,aoq,au,au]at h1;refine af ?_;refine aq (fq 1 rfl (⟨bg,n⟩:eh) (ab:=af ?_));refine qV rfl .nil aP (mh cZ aE a (ag.set d.toNat ⟨bg,n⟩)) [0,1] rfl (by decide) λI hw=>?_;unfold fM;rw[aot λq=>h1.elim (λg=>g q.1) λg=>g q.2]
 rw[aoz,aos,aos,an,an]at h1;refine af ?_;refine qV rfl .nil aP (mh cZ aE a ag) [0,1] rfl (by decide) λI hw=>?_;unfold fM;rw[aou h1]
theorem y8{i:Instr}{fi:Int}{dV:ByteArray}{aG fa gm:Int}(aE:Value)(l:hJ)(w:World)(hi:kn i=true)(ok:rl 15 l.ag)(aM:aZ al w dy 2 aE l.ag)(ay:l.at'<256)(h2:i.op=2->(l.ag.getD i.a.toNat default).loc=bg)(dW:rm (jm i l).2=hM fi dV aG fa gm): en prog 172 [.agg (cL i).toArray,.agg #[aE,.int .i64 l.at']] w λ_ v es _=>∃cQ,aD cQ/\v=.tuple #[.agg #[cQ,.int .i64 (jm i l).1.at'],.agg (hM fi dV aG fa gm).toArray,.int .i64 0]/\es=[.own cQ 70 2 dy (jm i l).1.ag]:=by refine(abN i aE l w hi ok aM ay h2).mono λn v es I h=>?_;unfold Na at h;rwa[dW]at h
theorem zx{fi:Int}{dV:ByteArray}{aG fa gm:Int}(ad aE:Value)(code:List Instr)(l:hJ)(w:World)(ai:aZ al w cL 8 ad code)(aM:aZ al w dy 2 aE l.ag)(cF:lQ code=0)(ay:l.at'<code.length)(ok:rl 32 l.ag)(h0:l.ag.getD 0 default=gL)(dW:GF (lX code l)=hM fi dV aG fa gm): en prog 173 [ad,.agg #[aE,.int .i64 l.at']] w λ_ v es _=>∃cQ,aD cQ/\v=.tuple #[.agg #[cQ,.int .i64 (Lx (lX code l))],.agg (hM fi dV aG fa gm).toArray,.int .i64 (Lz (lX code l))]/\es=[.own cQ 70 2 dy (LA (lX code l))]:=by refine(ag4 ad aE code l w ai aM cF ay ok h0).mono λn v es I h=>?_;unfold Nk at h;rwa[dW]at h
theorem Ly(o:Option (hJ×k4)):∃k l v r f,GF o=hM k l v r f:=by
 cases o with
 | none=>exact⟨_,_,_,_,_,rfl⟩
 | some x=>exact w7 x.2
def V2(x:hJ×k4):Nat->Value->List aB->World->Prop:=λ_ v es _=>∃cQ,aD cQ/\v=.tuple #[.agg #[cQ,.int .i64 x.1.at'],.agg (rm x.2).toArray]/\es=[.own cQ 70 2 dy x.1.ag]
theorem adm{b:Nat}{t:aV}{q:gd}{m:cD}(w:World)(h:oY al w b t q m)(aJ:dI t=0){log:List Nat}{df:Nat->List Nat}(M:kL t m log df)(k:Nat)(hk:k<t.code.length)(dR:(m.aw.getD k default).at'<(cr t k).length): en prog 247 [av b,.int .i64 k] w (V2 (stepT t k (m.aw.getD k default))):=by
 have hb:=h.box;have eC:=h.hold;have ai:=h.code;have oK:=h.bo k hk;have lO:=h.row k hk;obtain⟨s1,s2,cJ,dw,dk,gO,lx,iA,j6⟩:=h.ok;have G:=kS aJ;obtain⟨hok,a1⟩:=M.zu aJ hk;obtain⟨hx,cF,eA⟩:=M.HV aJ hk;have tD:=M.Lm aJ hk;have iK:=j6 k hk;have FH:=iA k hk;have QD:=hok.len;refine Ag func247 ntmps247 ?_;refine ei λcO=>?_;refine ei λec=>?_;refine ei λaQ=>?_;refine aq (bK 0 (h1:=.cons iK.1.one (.cons rfl .nil)) (ab:=af ?_));refine cA (Mem [(w,al)] [.box aQ [(q.aj.getD k default).1,.int .i64 (m.aw.getD k default).at'] 183,.box ec [.int .i64 0,.string ByteArray.empty,.int .i64 0,.int .i64 0,.int .i64 0] 256,.box cO [aa,.int .i64 0] 183]) (λ_ h=>by rw[<-iK.2];exact h) ?_;refine bC (λh1=>?_) λh1=>?_
 ·rw[an]at h1;have hok:rl 15 (m.aw.getD k default).ag:=by unfold cn at hok;rwa[aot (by omega)]at hok
  have hi:=hx h1 _ dR;have h2:=tD h1 dR;have cS:stepT t k (m.aw.getD k default)=jm ((cr t k).getD (m.aw.getD k default).at' default) (m.aw.getD k default):=by unfold stepT;rw[aou h1]
  rw[cS];obtain⟨fi,dV,aG,fa,gm,dW⟩:=w7 (jm ((cr t k).getD (m.aw.getD k default).at' default) (m.aw.getD k default)).2;refine af ?_;refine ih (λz:Nat×Nat×Value=>aD z.2.2) (λz=>[(8,true,.pointer (some ⟨z.2.1,0,none⟩)),(7,true,.pointer (some ⟨z.1,0,none⟩)),(5,true,av ec),(4,true,av cO)]) (λz=>Mem [(w,al)] [.box z.1 [z.2.2,.int .i64 (jm ((cr t k).getD (m.aw.getD k default).at' default) (m.aw.getD k default)).1.at'] 183,.box z.2.1 (hM fi dV aG fa gm) 256,.own z.2.2 70 2 dy (jm ((cr t k).getD (m.aw.getD k default).at' default) (m.aw.getD k default)).1.ag,.box ec [.int .i64 0,.string ByteArray.empty,.int .i64 0,.int .i64 0,.int .i64 0] 256,.box cO [aa,.int .i64 0] 183,.box aQ [(q.aj.getD k default).1,.int .i64 (m.aw.getD k default).at'] 183]) ?_ ?_
  ·skip
   refine fw (Mem [(w,al)] [.box aQ [(q.aj.getD k default).1,.int .i64 (m.aw.getD k default).at'] 183,.box ec [.int .i64 0,.string ByteArray.empty,.int .i64 0,.int .i64 0,.int .i64 0] 256,.box cO [aa,.int .i64 0] 183]) [0,1,2,3,4,5,6,7,8,9,10,11,999] mixed cv ?_;refine bQ ?_;refine De 12 17 18 (h1:=?_) (h2:=?_) (h3:=?_)
   ·refine cp [13,14,15,16,999] _ (h:=gI (bb:=λI hw=>y8 _ _ I hi hok (hw.now oK) (by omega) h2 dW) (ab:=?_));rintro wX adT es ajK ⟨cQ,fu,rfl,rfl⟩;refine aF (bQ ?_) (bD [1,2,3]);refine mf 17 18 ?_ ?_
    ·refine cp [999] _ (h:=fb ?_);intro ey;refine aF ?_ (bD [2,3,4]);refine ed 18 ?_;refine cp [999] _ (h:=fb ?_);intro dx;refine aF ?_ (bD [3,4,5]);refine ed 19 ?_;refine cp [999] _ (h:=bK 1 (ab:=?_));refine aF ?_ (bD [3,4,5]);refine ed 20 ?_;refine cp [21] _ (h:=bK 0 (ab:=?_));refine aF (bQ ?_) (bD [3,4,5]);exact b6 (ey,dx,cQ) fu (hA:=bD [1,0,2,4,5,3])
    refine cp [999] _ (h:=fb ?_);intro dx;refine aF ?_ (bD [2,3,4]);refine ed 17 ?_;refine cp [999] _ (h:=fb ?_);intro ey;refine aF ?_ (bD [3,4,5]);refine ed 19 ?_;refine cp [999] _ (h:=bK 0 (ab:=?_));refine aF ?_ (bD [3,4,5]);refine ed 20 ?_;refine cp [21] _ (h:=bK 1 (ab:=?_));refine aF (bQ ?_) (bD [3,4,5]);exact b6 (ey,dx,cQ) fu (hA:=bD [0,1,2,4,5,3])
   ·refine cp [999] _ (h:=fb ?_);intro ey;refine aF ?_ (bD [1,2,3]);refine mf 12 18 ?_ ?_
    ·refine cp [13,14,15,16,999] _ (h:=gI (bb:=λI hw=>y8 _ _ I hi hok (hw.now oK) (by omega) h2 dW) (ab:=?_));rintro wX adU es ajL ⟨cQ,fu,rfl,rfl⟩;refine aF (bQ ?_) (bD [2,3,4]);refine ed 18 ?_;refine cp [999] _ (h:=fb ?_);intro dx;refine aF ?_ (bD [3,4,5]);refine ed 19 ?_;refine cp [999] _ (h:=bK 2 (ab:=?_));refine aF ?_ (bD [3,4,5]);refine ed 20 ?_;refine cp [21] _ (h:=bK 0 (ab:=?_));refine aF (bQ ?_) (bD [3,4,5]);exact b6 (ey,dx,cQ) fu (hA:=bD [2,0,1,4,5,3])
    refine cp [999] _ (h:=fb ?_);intro dx;refine aF ?_ (bD [2,3,4]);refine ed 12 ?_;refine cp [13,14,15,16,999] _ (h:=gI (bb:=λI hw=>y8 _ _ I hi hok (hw.now oK) (by omega) h2 dW) (ab:=?_));rintro wX adV es ajM ⟨cQ,fu,rfl,rfl⟩;refine aF (bQ ?_) (bD [3,4,5]);refine ed 19 ?_;refine cp [999] _ (h:=bK 2 (ab:=?_));refine aF ?_ (bD [3,4,5]);refine ed 20 ?_;refine cp [21] _ (h:=bK 1 (ab:=?_));refine aF (bQ ?_) (bD [3,4,5]);exact b6 (ey,dx,cQ) fu (hA:=bD [2,1,0,4,5,3])
   refine cp [999] _ (h:=fb ?_);intro dx;refine aF ?_ (bD [1,2,3]);refine mf 12 17 ?_ ?_
   ·refine cp [13,14,15,16,999] _ (h:=gI (bb:=λI hw=>y8 _ _ I hi hok (hw.now oK) (by omega) h2 dW) (ab:=?_));rintro wX adW es ajN ⟨cQ,fu,rfl,rfl⟩;refine aF (bQ ?_) (bD [2,3,4]);refine ed 17 ?_;refine cp [999] _ (h:=fb ?_);intro ey;refine aF ?_ (bD [3,4,5]);refine ed 19 ?_;refine cp [999] _ (h:=bK 0 (ab:=?_));refine aF ?_ (bD [3,4,5]);refine ed 20 ?_;refine cp [21] _ (h:=bK 2 (ab:=?_));refine aF (bQ ?_) (bD [3,4,5]);exact b6 (ey,dx,cQ) fu (hA:=bD [0,2,1,4,5,3])
   refine cp [999] _ (h:=fb ?_);intro ey;refine aF ?_ (bD [2,3,4]);refine ed 12 ?_;refine cp [13,14,15,16,999] _ (h:=gI (bb:=λI hw=>y8 _ _ I hi hok (hw.now oK) (by omega) h2 dW) (ab:=?_));rintro wX adX es ajO ⟨cQ,fu,rfl,rfl⟩;refine aF (bQ ?_) (bD [3,4,5]);refine ed 19 ?_;refine cp [999] _ (h:=bK 1 (ab:=?_));refine aF ?_ (bD [3,4,5]);refine ed 20 ?_;refine cp [21] _ (h:=bK 2 (ab:=?_));refine aF (bQ ?_) (bD [3,4,5]);exact b6 (ey,dx,cQ) fu (hA:=bD [1,2,0,4,5,3])
  rintro⟨ey,dx,cQ⟩ fu;dsimp only at fu⊢;refine af ?_;refine fw (Mem [(w,al)] [.box ey [cQ,.int .i64 (jm ((cr t k).getD (m.aw.getD k default).at' default) (m.aw.getD k default)).1.at'] 183,.box dx (hM fi dV aG fa gm) 256]) [0,1,2,3] mixed (b4 [0,1]) ?_;refine bQ ?_;refine bO _ (h:=bK 4 (ab:=?_));refine aF (bQ ?_) (b4 [0,1]);refine bO _ (h:=bK 3 (ab:=?_));refine aF (aN ?_) (b4 [0,1]);refine af ?_;refine et rfl (.dv rfl qU rfl (.c1 rfl jC rfl)) [_] [2] λI hw=>⟨cQ,fu,?_,rfl⟩;rw[dW];rfl
 rw[au]at h1;have ay:t.aC=2:=G.aC.resolve_left h1;have hok:rl 32 (m.aw.getD k default).ag:=by unfold cn at hok;rwa[aou ay]at hok
 have cF:=cF ay;have a1:=a1 ay;have fs:=(y6 (F4 cF dR)).1;have E3:=fs.d;have Qd:=hok.len;have Qy:(cn 2:Int)=32:=rfl;have cS:stepT t k (m.aw.getD k default)=(lX (cr t k) (m.aw.getD k default)).getD (⟨fM t.aC (m.aw.getD k default).ag ((cr t k).getD (m.aw.getD k default).at' default).d gL,(m.aw.getD k default).at'+1⟩,.no):=by unfold stepT;rw[aot h1]
 rw[cS];obtain⟨fi,dV,aG,fa,gm,dW⟩:=Ly (lX (cr t k) (m.aw.getD k default));refine af ?_;refine ih (λz:Nat×Nat×Value=>aD z.2.2) (λz=>[(12,true,.int .i64 (Lz (lX (cr t k) (m.aw.getD k default)))),(11,true,.pointer (some ⟨z.2.1,0,none⟩)),(10,true,.pointer (some ⟨z.1,0,none⟩)),(6,true,av aQ),(5,true,av ec),(4,true,av cO),(1,true,.int .i64 k),(0,true,av b)]) (λz=>Mem [(w,al)] [.box z.1 [z.2.2,.int .i64 (Lx (lX (cr t k) (m.aw.getD k default)))] 183,.box z.2.1 (hM fi dV aG fa gm) 256,.own z.2.2 70 2 dy (LA (lX (cr t k) (m.aw.getD k default))),.box ec [.int .i64 0,.string ByteArray.empty,.int .i64 0,.int .i64 0,.int .i64 0] 256,.box cO [aa,.int .i64 0] 183,.box aQ [(q.aj.getD k default).1,.int .i64 (m.aw.getD k default).at'] 183]) ?_ ?_
 ·skip
  refine fw (Mem [(w,al)] [.box aQ [(q.aj.getD k default).1,.int .i64 (m.aw.getD k default).at'] 183,.box ec [.int .i64 0,.string ByteArray.empty,.int .i64 0,.int .i64 0,.int .i64 0] 256,.box cO [aa,.int .i64 0] 183]) [0,1,2,3,4,5,6,7,999] mixed cv ?_;refine bQ ?_;refine De 8 13 14 (h1:=?_) (h2:=?_) (h3:=?_)
  ·refine cp [9,10,11,12,999] _ (h:=gI (bb:=λI hw=>zx _ _ _ _ I (hw.now lO) (hw.now oK) cF (by omega) hok a1 dW) (ab:=?_));rintro wX adT es ajK ⟨cQ,fu,rfl,rfl⟩;refine aF (bQ ?_) (bD [1,2,3]);refine mf 13 14 ?_ ?_
   ·refine cp [999] _ (h:=fb ?_);intro ey;refine aF ?_ (bD [2,3,4]);refine ed 14 ?_;refine cp [999] _ (h:=fb ?_);intro dx;refine aF ?_ (bD [3,4,5]);refine ed 15 ?_;refine cp [999] _ (h:=bK 1 (ab:=?_));refine aF ?_ (bD [3,4,5]);refine ed 16 ?_;refine cp [17] _ (h:=bK 0 (ab:=?_));refine aF (bQ ?_) (bD [3,4,5]);exact b6 (ey,dx,cQ) fu (hA:=bD [1,0,2,4,5,3])
   refine cp [999] _ (h:=fb ?_);intro dx;refine aF ?_ (bD [2,3,4]);refine ed 13 ?_;refine cp [999] _ (h:=fb ?_);intro ey;refine aF ?_ (bD [3,4,5]);refine ed 15 ?_;refine cp [999] _ (h:=bK 0 (ab:=?_));refine aF ?_ (bD [3,4,5]);refine ed 16 ?_;refine cp [17] _ (h:=bK 1 (ab:=?_));refine aF (bQ ?_) (bD [3,4,5]);exact b6 (ey,dx,cQ) fu (hA:=bD [0,1,2,4,5,3])
  ·refine cp [999] _ (h:=fb ?_);intro ey;refine aF ?_ (bD [1,2,3]);refine mf 8 14 ?_ ?_
   ·refine cp [9,10,11,12,999] _ (h:=gI (bb:=λI hw=>zx _ _ _ _ I (hw.now lO) (hw.now oK) cF (by omega) hok a1 dW) (ab:=?_));rintro wX adU es ajL ⟨cQ,fu,rfl,rfl⟩;refine aF (bQ ?_) (bD [2,3,4]);refine ed 14 ?_;refine cp [999] _ (h:=fb ?_);intro dx;refine aF ?_ (bD [3,4,5]);refine ed 15 ?_;refine cp [999] _ (h:=bK 2 (ab:=?_));refine aF ?_ (bD [3,4,5]);refine ed 16 ?_;refine cp [17] _ (h:=bK 0 (ab:=?_));refine aF (bQ ?_) (bD [3,4,5]);exact b6 (ey,dx,cQ) fu (hA:=bD [2,0,1,4,5,3])
   refine cp [999] _ (h:=fb ?_);intro dx;refine aF ?_ (bD [2,3,4]);refine ed 8 ?_;refine cp [9,10,11,12,999] _ (h:=gI (bb:=λI hw=>zx _ _ _ _ I (hw.now lO) (hw.now oK) cF (by omega) hok a1 dW) (ab:=?_));rintro wX adV es ajM ⟨cQ,fu,rfl,rfl⟩;refine aF (bQ ?_) (bD [3,4,5]);refine ed 15 ?_;refine cp [999] _ (h:=bK 2 (ab:=?_));refine aF ?_ (bD [3,4,5]);refine ed 16 ?_;refine cp [17] _ (h:=bK 1 (ab:=?_));refine aF (bQ ?_) (bD [3,4,5]);exact b6 (ey,dx,cQ) fu (hA:=bD [2,1,0,4,5,3])
  refine cp [999] _ (h:=fb ?_);intro dx;refine aF ?_ (bD [1,2,3]);refine mf 8 13 ?_ ?_
  ·refine cp [9,10,11,12,999] _ (h:=gI (bb:=λI hw=>zx _ _ _ _ I (hw.now lO) (hw.now oK) cF (by omega) hok a1 dW) (ab:=?_));rintro wX adW es ajN ⟨cQ,fu,rfl,rfl⟩;refine aF (bQ ?_) (bD [2,3,4]);refine ed 13 ?_;refine cp [999] _ (h:=fb ?_);intro ey;refine aF ?_ (bD [3,4,5]);refine ed 15 ?_;refine cp [999] _ (h:=bK 0 (ab:=?_));refine aF ?_ (bD [3,4,5]);refine ed 16 ?_;refine cp [17] _ (h:=bK 2 (ab:=?_));refine aF (bQ ?_) (bD [3,4,5]);exact b6 (ey,dx,cQ) fu (hA:=bD [0,2,1,4,5,3])
  refine cp [999] _ (h:=fb ?_);intro ey;refine aF ?_ (bD [2,3,4]);refine ed 8 ?_;refine cp [9,10,11,12,999] _ (h:=gI (bb:=λI hw=>zx _ _ _ _ I (hw.now lO) (hw.now oK) cF (by omega) hok a1 dW) (ab:=?_));rintro wX adX es ajO ⟨cQ,fu,rfl,rfl⟩;refine aF (bQ ?_) (bD [3,4,5]);refine ed 15 ?_;refine cp [999] _ (h:=bK 1 (ab:=?_));refine aF ?_ (bD [3,4,5]);refine ed 16 ?_;refine cp [17] _ (h:=bK 2 (ab:=?_));refine aF (bQ ?_) (bD [3,4,5]);exact b6 (ey,dx,cQ) fu (hA:=bD [1,2,0,4,5,3])
 rintro⟨o1,vC,cQ⟩ fu;dsimp only at fu⊢;generalize lX (cr t k) (m.aw.getD k default)=o at *;refine af ?_;cases o with
 | none=>refine cM rfl (λ_=>?_) (λh=>by rw[aos,an]at h;cases h);refine af ?_;refine fw (Mem [(w,al)] [.box aQ [(q.aj.getD k default).1,.int .i64 (m.aw.getD k default).at'] 183]) [0,1,3,4,5,2,6,7] mixed (b4 [5]) ?_;refine bQ ?_;refine bO _ (h:=gI (bb:=λI hw=>DM _ (m.aw.getD k default).ag I (hw.now oK) (by omega)) (ab:=?_));rintro BI n61 es aoi ⟨QW,rfl⟩;refine aF (bQ ?_) λ_ h=>h.cX.cC [6];refine bO _ (h:=bK 1 (ab:=?_));refine aF (aN ?_) λ_ h=>h.cX.cC [6];refine af ?_;refine cA (Mem [(w,al)] (mh o1 BI (((m.aw.getD k default).at':Int)+1) (m.aw.getD k default).ag++[.box vC (hM fi dV aG fa gm) 256,.box ec [.int .i64 0,.string ByteArray.empty,.int .i64 0,.int .i64 0,.int .i64 0] 256,.box cO [aa,.int .i64 0] 183,.box aQ [(q.aj.getD k default).1,.int .i64 (m.aw.getD k default).at'] 183])) (λ_ h=>h.cX.cC [1,0,2,4,5,6]) ?_;refine cz [0,1,2,3,4,5,6,7,8,9,10,11,12,13] mixed ?_;refine bQ ?_;refine eP (λ_=>True) (h:=eB (es:=mh o1 BI (((m.aw.getD k default).at':Int)+1) (m.aw.getD k default).ag) (bb:=λI hw=>RV o1 BI _ (m.aw.getD k default).ag ((cr t k).getD (m.aw.getD k default).at' default).d 0 I QW (by omega) (hw.HN h.box aP λe he=>aoK _ he) hw.dt.ew) (ab:=?_));rintro To n62 es Vs rfl;refine aF (aN ?_) dz;refine af ?_;refine c7 2 ?_;refine fw (Mem [(w,al)] [.box o1 [BI,.int .i64 (((m.aw.getD k default).at':Int)+1)] 183,.box vC (hM 1 bg 0 0 0) 256]) [0,1,2,3] mixed (b4 [0,2]) ?_;refine bQ ?_;refine bO _ (h:=bK 4 (ab:=?_));refine aF (bQ ?_) (b4 [0,2]);refine bO _ (h:=bK 3 (ab:=?_));refine aF (aN ?_) (b4 [0,2]);refine af ?_;refine et rfl (.dv rfl qU rfl (.c1 rfl jC rfl)) [.own BI 70 2 dy (fM t.aC (m.aw.getD k default).ag ((cr t k).getD (m.aw.getD k default).at' default).d gL)] [1] λI hw=>⟨BI,QW,rfl,rfl⟩
 | some x=>refine cM rfl (λh=>by rw[aoq,au]at h;exact absurd rfl h) λ_=>?_;refine af ?_;refine fw (Mem [(w,al)] [.box o1 [cQ,.int .i64 (x.1.at':Int)] 183,.box vC (hM fi dV aG fa gm) 256]) [0,1,2,3] mixed (b4 [0,1]) ?_;refine bQ ?_;refine bO _ (h:=bK 4 (ab:=?_));refine aF (bQ ?_) (b4 [0,1]);refine bO _ (h:=bK 3 (ab:=?_));refine aF (aN ?_) (b4 [0,1]);refine af ?_;refine et rfl (.dv rfl qU rfl (.c1 rfl jC rfl)) [_] [2] λI hw=>⟨cQ,fu,?_,rfl⟩;have IJ:rm x.2=hM fi dV aG fa gm:=dW;rw[apM,IJ];rfl
end Go.Proofs.bA
