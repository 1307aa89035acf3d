/- Lemmas for the law WholeSound. -/
import Derived.Test.YtiknadellddjhaaGreatDoorS36
import Derived.Test.YtiknadellddjhaaGreatDoorS37
set_option linter.all false
open Go.Proofs.Tryz
set_option maxHeartbeats 25600000
open Go Go.cc Go.bU Go.gH Go.eV
attribute [local irreducible] Go.wpList Go.Code.wp Go.bodyPost Go.Exit.then Go.Exit.inBlock Go.Calls
namespace Go.Proofs.bK
structure fW where
 ae:Value
 lv:Value
 aU:Value
 aw:Value
 mv:Value
 vs:List Value
 ag:List (Value×Nat)
def nr(t:aM)(q:fW):List Value:=[.bool true,.int .i64 t.az,q.ae,q.lv,q.aU,q.aw,q.mv]
def hQ(t:aM)(q:fW)(m:cu)(k:Nat):List aA:=[.own (q.vs.getD k default) 169 8 cC (cj t k),.own (q.ag.getD k default).1 70 2 dm (m.av.getD k default).ah]
def ko(b:Nat)(t:aM)(q:fW)(m:cu):List aA:=[.box b (nr t q) 262,.own q.ae 167 1 cD q.vs,.own q.aw 183 2 fQ q.ag,.own q.mv 3 1 bd m.mem,df (dJ (hQ t q m) t.code.length)]
structure sH(t:aM)(q:fW)(m:cu):Prop where
 ae:aD q.ae
 lv:aD q.lv
 aU:aD q.aU
 aw:aD q.aw
 mv:aD q.mv
 Uq:q.vs.length=t.code.length
 aB:q.ag.length=t.code.length
 vs:∀k,k<t.code.length->aD (q.vs.getD k default)
 ag:∀k,k<t.code.length->aD (q.ag.getD k default).1/\(q.ag.getD k default).2=(m.av.getD k default).at'
structure oF(S:Nat->Prop)(w:World)(b:Nat)(t:aM)(q:fW)(m:cu):Prop where
 ok:sH t q m
 box:gM S w b (nr t q)
 code:aV S w cD 1 q.ae q.vs
 hold:aV S w fQ 2 q.aw q.ag
 mem:aV S w bd 1 q.mv m.mem
 row:∀k,k<t.code.length->aV S w cC 8 (q.vs.getD k default) (cj t k)
 bq:∀k,k<t.code.length->aV S w dm 2 (q.ag.getD k default).1 (m.av.getD k default).ah
 bb:aV S w dV 1 q.lv (b2 t)
 cw:aV S w ev 3 q.aU (bk t)
theorem oF.of{b:Nat}{t:aM}{q:fW}{m:cu}{bs:List dr}{H:List aA}{w:World}(ok:sH t q m)(hw:Mem bs (ko b t q m++H) w)(aB:aV an w dV 1 q.lv (b2 t))(aE:aV an w ev 3 q.aU (bk t)):oF an w b t q m:=
 have hf:∀k,k<t.code.length->Mem bs (hQ t q m k++(df (jC (hQ t q m) t.code.length k)::H)) w:=λk hk=>(hw.tail.tail.tail.tail).rm k hk
 ⟨ok,hw.eN aL trivial,hw.ed,hw.ed,hw.ed,λk hk=>(hf k hk).ed aL,λk hk=>(hf k hk).ed ds,aB,aE⟩
theorem oF.now{S:Nat->Prop}{B I:World}{b:Nat}{t:aM}{q:fW}{m:cu}{bs:List dr}{H:List aA}(h:oF S B b t q m)(hw:Mem bs H I)(hB:(B,S)∈bs:=by repeat (first | exact List.Mem.head _ | refine List.Mem.tail _ ?_)):oF an I b t q m:=⟨h.ok,hw.va h.box hB,hw.now h.code hB,hw.now h.hold hB,hw.now h.mem hB,λk hk=>hw.now (h.row k hk) hB,λk hk=>hw.now (h.bq k hk) hB,hw.now h.bb hB,hw.now h.cw hB⟩
theorem J0{b:Nat}{t:aM}{q:fW}{m:cu}(w:World)(h:oF an w b t q m):bj prog 162 [ax b] w λ_ v _=>v=.bool true:=by have hb:=h.box;obtain⟨s1,s2,cy,dq,dd,_,_,_,_⟩:=h.ok;refine gP func162 ntmps162 ?_;refine dg (Sl underlying188 (bY rfl) (bY rfl)) (ab:=af ?_);exact bP rfl (.t1 rfl) λI hw=>rfl
theorem QX{b:Nat}{t:aM}{q:fW}{m:cu}(w:World)(h:oF an w b t q m)(bh:t.code.length<=16)(gl:∀k,k<t.code.length->m.cT.getD k default=[]):bj prog 84 [ax b] w λn v I=>aV (Fr n) I eW 2 v (cf t m):=by
 have hb:=h.box;have ai:=h.code;have eO:=h.hold;obtain⟨s1,s2,cy,dq,dd,jn,kU,jR,jG⟩:=h.ok;refine gP func84 ntmps84 ?_;refine ao (bw (λI hw=>J0 I (h.now hw)) ?_);rintro v bx a6 rfl cA;refine af ?_;refine cK rfl (λh=>by cases h) λ_=>?_;refine af ?_;refine dZ 97 2 eW ?_;refine b9 (λz:Nat×Value=>z.1<=t.code.length/\aD z.2) (λz=>[(15,true,.int .i64 z.1),(14,true,.int .i64 q.ag.length),(13,true,q.aw),(3,true,z.2),(0,true,ax b)]) (λz=>Mem [(w,an)] [.own z.2 97 2 eW (o8 t m z.1)]) (λz=>t.code.length-z.1) (0,U) ⟨amz _,cZ⟩ ?_ ⟨rfl,rfl,rfl,rfl,rfl,trivial⟩ eS
 rintro⟨k,v⟩ ⟨hk,aw⟩;dsimp only at hk aw⊢;have hZ:=yG t m k;refine di (λh2=>?_) λh2=>?_
 ·have bF:k<t.code.length:=by rw[aq]at h2;omega
  have iy:=jG k bF;have I3:=h.row k bF;have E6:=jR k bF;have eP:=I3.le;refine af ?_;refine dH λea=>?_;refine ao (bD 0 (h1:=.cons iy.1.one (.cons rfl .nil)) (ab:=af ?_));refine cV [0,1,2,3,4,5,6,7,8,9,10] mixed ?_;refine bI ?_;refine af ?_;rw[iy.2];refine bA (λh3=>?_) λh3=>?_
  ·have dw:(m.av.getD k default).at'<(cj t k).length:=by rw[aq]at h3;omega
   have eg:o8 t m (k+1)=o8 t m k++[⟨1,(k:Int)⟩]:=by rw[CG,Rg (gl k bF),amo dw]
   refine af ?_;refine ao (eA eW wM (ab:=λsx zX=>af ?_));refine ao (e6 2 (hm:=aL) (hk:=rfl) (bG:=by simp;omega) (ab:=λv35 vD=>af ?_));exact bt (k+1,v35) ⟨by omega,vD⟩ (show t.code.length-(k+1)<t.code.length-k by omega) (hA:=λ_ h=>by dsimp only;rw[eg];exact h.tail.tail)
  have dw:¬(m.av.getD k default).at'<(cj t k).length:=by rw[ar]at h3;omega
  have eg:o8 t m (k+1)=o8 t m k:=by rw[CG,Rg (gl k bF),amn dw,amB]
  refine af ?_;exact bt (k+1,v) ⟨by omega,aw⟩ (show t.code.length-(k+1)<t.code.length-k by omega) (hA:=λ_ h=>by dsimp only;rw[eg];exact h.tail)
 have bF:k=t.code.length:=by rw[ar]at h2;omega
 subst bF;refine px λI hw=>?_;exact hw.hK aL aL
def lW(t:aM)(m:cu)(x:cE):Int:=if x.aI= -1 then m.mem.getD (dp (b2 t) x.loc) default else((m.av.getD x.aI.toNat default).ah.getD x.bq.toNat default).n
theorem TK{t:aM}(h:du t=0)(m:cu):ss (al t) m=(bk t).map (lW t m):=by rw[uM h];rfl
theorem TV{t:aM}(G:ir t){x:cE}(hx:x∈bk t)(h:x.aI= -1):x.loc∈b2 t:=by have jo:=G.uL hx;unfold k9 at jo;rw[amo h,ami]at jo;refine uw.2 ⟨?_,sf jo.2⟩;unfold mM;exact amA.2 (.inr (am1.2 ⟨_,hx,rfl⟩))
theorem TW{t:aM}(G:ir t){x:cE}(hx:x∈bk t)(h:¬x.aI= -1):0<=x.aI/\x.aI<t.code.length/\0<=x.bq/\x.bq<b3 t.az:=by
 have jo:=G.uL hx;have dn:=G.Ly x hx;unfold k9 at jo;rw[amn h]at jo;simp only[ami,amj]at jo;obtain⟨⟨⟨⟨q0,_⟩,cq⟩,bn⟩,_⟩:=jo;refine⟨q0,dn,cq,?_⟩;rcases G.az with g | g
 ·rw[amo g]at bn;unfold b3;rw[amn (by omega)];omega
 rw[amn (by omega)]at bn;unfold b3;rw[amo g];omega
theorem ab5{b:Nat}{t:aM}{q:fW}{m:cu}(w:World)(h:oF an w b t q m)(G:ir t)(hZ:m.mem.length=(b2 t).length)(kk:∀k,k<t.code.length->(m.av.getD k default).ah.length=b3 t.az):bj prog 86 [ax b] w λn v I=>aV (Fr n) I bd 1 v ((bk t).map (lW t m)):=by
 have hb:=h.box;have eO:=h.hold;have bp:=h.cw;have c6:=h.bb;have zy:=h.mem;have ri:=G.LA;have hh:=Dg (xg t);have ln:=G.vS;obtain⟨s1,s2,cy,dq,dd,jn,kU,jR,jG⟩:=h.ok;refine gP func86 ntmps86 ?_;refine ao (bw (λI hw=>J0 I (h.now hw)) ?_);rintro v bx a6 rfl cA;refine af ?_;refine cK rfl (λh=>by cases h) λ_=>?_;refine af ?_;refine dZ 3 1 bd ?_;refine b9 (λz:Nat×Value=>z.1<=(bk t).length/\aD z.2) (λz=>[(16,true,.int .i64 z.1),(15,true,.int .i64 (bk t).length),(14,true,q.aU),(3,true,z.2),(0,true,ax b)]) (λz=>Mem [(w,an)] [.own z.2 3 1 bd (((bk t).take z.1).map (lW t m))]) (λz=>(bk t).length-z.1) (0,U) ⟨amz _,cZ⟩ ?_ ⟨rfl,rfl,rfl,rfl,rfl,trivial⟩ eS
 rintro⟨k,v⟩ ⟨hk,aw⟩;dsimp only at hk aw⊢;have bG:(((bk t).take k).map (lW t m)).length=k:=by rw[amD,amX];omega
 refine di (λh2=>?_) λh2=>?_
 ·have bF:k<(bk t).length:=by rw[aq]at h2;omega
  have k5:(bk t).getD k default∈bk t:=er bF;have eg:((bk t).take (k+1)).map (lW t m)=((bk t).take k).map (lW t m)++[lW t m ((bk t).getD k default)]:=by rw[ang,getD_some bF,ane];rfl
  refine af ?_;refine dH λea=>?_;refine c0 0 ?_;refine bA (λh3=>?_) λh3=>?_
  ·rw[aq]at h3;have eZ:=TV G k5 h3;have dn:=qb eZ;refine af ?_;have c4:lW t m ((bk t).getD k default)=m.mem.getD (dp (b2 t) ((bk t).getD k default).loc) default:=by unfold lW;rw[amo h3]
   refine cV [0,1,2,3,4,5,6,7,8,9,10,11] mixed ?_;refine bI ?_;refine bL _ (h:=iJ (a7:=λI hw=>xE q.lv ((bk t).getD k default).loc (b2 t) I (hw.now c6) hh (by omega)) (ab:=?_));rintro v30 cp bX ⟨j,dc,rfl,yk⟩ fq;obtain rfl:=xc hh eZ yk;refine aF (aP ?_) eS;refine af ?_;refine ao (eA bd cc.q4 (ab:=λv41 vF=>af ?_));refine ao (e6 2 (hm:=aL) (hk:=rfl) (bG:=by simp;omega) (ab:=λwo zY=>af ?_));exact bt (k+1,wo) ⟨by omega,zY⟩ (show(bk t).length-(k+1)<(bk t).length-k by omega) (hA:=λ_ h=>by dsimp only;rw[eg,c4];exact h.cI.tail.tail)
  rw[ar]at h3;have vy:=TW G k5 h3;refine af ?_;have c4:lW t m ((bk t).getD k default)=((m.av.getD ((bk t).getD k default).aI.toNat default).ah.getD ((bk t).getD k default).bq.toNat default).n:=by unfold lW;rw[amn h3]
  have gY:((bk t).getD k default).aI.toNat<t.code.length:=by omega
  have oj:=h.bq _ gY;have iy:=(jG _ gY).1;have eP:=kk _ gY;refine cV [0,1,2,3,4,5,6,7,8,9,10,11,12,13,14,15,16,17] mixed ?_;refine bI ?_;refine bL _ (h:=eA bd cc.q4 (e:=3) (sz:=1) (len:=1) (dF:=[(0,[.int .i64 ((m.av.getD ((bk t).getD k default).aI.toNat default).ah.getD ((bk t).getD k default).bq.toNat default).n])]) (ab:=?_));intro v58 Z8;refine aF (aP ?_) iG;refine eG (λ_=>True) (h:=e6 2 (hm:=aL) (hk:=rfl) (bG:=by simp;omega) (ab:=?_));intro v59 Cj;refine aF (aP ?_) dx;refine af ?_;exact bt (k+1,v59) ⟨by omega,Cj⟩ (show(bk t).length-(k+1)<(bk t).length-k by omega) (hA:=λ_ h=>by dsimp only;rw[eg,c4];exact h.tail.tail)
 have bF:k=(bk t).length:=by rw[ar]at h2;omega
 subst bF;refine px λI hw=>?_;rw[amU]at hw;exact hw.hK aL aL
def lP(cW:Nat)(aJ:Value)(a:Int)(ah:List dY):List aA:=[.box cW [aJ,.int .i64 a] 183,.own aJ 70 2 dm ah]
theorem QY{b:Nat}{t:aM}{q:fW}(cW:Nat)(aJ:Value)(a:Int)(ah:List dY)(d n:Int)(w:World)(fv:aD aJ)(hd:0<=d/\d<ah.length)(hb:gM (bB (lP cW aJ a ah)) w b (nr t q))(hw:Mem [] (lP cW aJ a ah) w): eM prog 248 [ax b,ax cW,.int .i64 d,.int .i64 n] (lP cW aJ a ah) w λ_ _ es _=>es=lP cW aJ a (fD t.az ah d ⟨a8,n⟩):=by
 refine jO func248 ntmps248 hw ?_;refine bA (λh1=>?_) λh1=>?_
 ·rw[amr,amk,amk,ar,ar]at h1;refine af ?_;refine ao (fB 1 rfl (⟨a8,n⟩:dY) (ab:=af ?_));refine qF rfl .nil aL (lP cW aJ a (ah.set d.toNat ⟨a8,n⟩)) [0,1] rfl (by decide) λI hw=>?_;unfold fD;rw[amn λq=>h1.elim (λg=>g q.1) λg=>g q.2]
 rw[amt,amm,amm,aq,aq]at h1;refine af ?_;refine qF rfl .nil aL (lP cW aJ a ah) [0,1] rfl (by decide) λI hw=>?_;unfold fD;rw[amo h1]
theorem yw{i:Instr}{fb:Int}{dQ:ByteArray}{aK e5 gd:Int}(aJ:Value)(l:ht)(w:World)(hi:j7 i=true)(ok:qW 15 l.ah)(aH:aV an w dm 2 aJ l.ah)(au:l.at'<256)(h2:i.op=2->(l.ah.getD i.a.toNat default).loc=a8)(dT:qY (je i l).2=hv fb dQ aK e5 gd): eH prog 172 [.agg (cC i).toArray,.agg #[aJ,.int .i64 l.at']] w λ_ v es _=>∃cH,aD cH/\v=.tuple #[.agg #[cH,.int .i64 (je i l).1.at'],.agg (hv fb dQ aK e5 gd).toArray,.int .i64 0]/\es=[.own cH 70 2 dm (je i l).1.ah]:=by refine(aaA i aJ l w hi ok aH au h2).mono λn v es I h=>?_;unfold Mg at h;rwa[dT]at h
theorem yU{fb:Int}{dQ:ByteArray}{aK e5 gd:Int}(ae aJ:Value)(code:List Instr)(l:ht)(w:World)(ai:aV an w cC 8 ae code)(aH:aV an w dm 2 aJ l.ah)(cP:lp code=0)(au:l.at'<code.length)(ok:qW 32 l.ah)(h0:l.ah.getD 0 default=gF)(dT:Gb (lC code l)=hv fb dQ aK e5 gd): eH prog 173 [ae,.agg #[aJ,.int .i64 l.at']] w λ_ v es _=>∃cH,aD cH/\v=.tuple #[.agg #[cH,.int .i64 (KO (lC code l))],.agg (hv fb dQ aK e5 gd).toArray,.int .i64 (KQ (lC code l))]/\es=[.own cH 70 2 dm (KR (lC code l))]:=by refine(afu ae aJ code l w ai aH cP au ok h0).mono λn v es I h=>?_;unfold Mq at h;rwa[dT]at h
theorem KP(o:Option (ht×kN)):∃k l v r f,Gb o=hv k l v r f:=by
 cases o with
 | none=>exact⟨_,_,_,_,_,rfl⟩
 | some x=>exact wC x.2
def U7(x:ht×kN):Nat->Value->List aA->World->Prop:=λ_ v es _=>∃cH,aD cH/\v=.tuple #[.agg #[cH,.int .i64 x.1.at'],.agg (qY x.2).toArray]/\es=[.own cH 70 2 dm x.1.ah]
theorem ab2{b:Nat}{t:aM}{q:fW}{m:cu}(w:World)(h:oF an w b t q m)(aE:du t=0){log:List Nat}{dc:Nat->List Nat}(M:kt t m log dc)(k:Nat)(hk:k<t.code.length)(dO:(m.av.getD k default).at'<(cj t k).length): eH prog 247 [ax b,.int .i64 k] w (U7 (stepT t k (m.av.getD k default))):=by
 have hb:=h.box;have eO:=h.hold;have ai:=h.code;have oj:=h.bq k hk;have mF:=h.row k hk;obtain⟨s1,s2,cy,dq,dd,jn,kU,jR,jG⟩:=h.ok;have G:=kf aE;obtain⟨hok,aY⟩:=M.yS aE hk;obtain⟨hx,cP,eE⟩:=M.Hq aE hk;have ti:=M.KF aE hk;have iy:=jG k hk;have E6:=jR k hk;have PJ:=hok.len;refine zq func247 ntmps247 ?_;refine dH λcO=>?_;refine dH λea=>?_;refine dH λaT=>?_;refine ao (bD 0 (h1:=.cons iy.1.one (.cons rfl .nil)) (ab:=af ?_));refine cJ (Mem [(w,an)] [.box aT [(q.ag.getD k default).1,.int .i64 (m.av.getD k default).at'] 183,.box ea [.int .i64 0,.string ByteArray.empty,.int .i64 0,.int .i64 0,.int .i64 0] 256,.box cO [U,.int .i64 0] 183]) (λ_ h=>by rw[<-iy.2];exact h) ?_;refine bA (λh1=>?_) λh1=>?_
 ·rw[aq]at h1;have hok:qW 15 (m.av.getD k default).ah:=by unfold b3 at hok;rwa[amn (by omega)]at hok
  have hi:=hx h1 _ dO;have h2:=ti h1 dO;have c4:stepT t k (m.av.getD k default)=je ((cj t k).getD (m.av.getD k default).at' default) (m.av.getD k default):=by unfold stepT;rw[amo h1]
  rw[c4];obtain⟨fb,dQ,aK,e5,gd,dT⟩:=wC (je ((cj t k).getD (m.av.getD k default).at' default) (m.av.getD k default)).2;refine af ?_;refine h7 (λz:Nat×Nat×Value=>aD z.2.2) (λz=>[(8,true,.pointer (some ⟨z.2.1,0,none⟩)),(7,true,.pointer (some ⟨z.1,0,none⟩)),(5,true,ax ea),(4,true,ax cO)]) (λz=>Mem [(w,an)] [.box z.1 [z.2.2,.int .i64 (je ((cj t k).getD (m.av.getD k default).at' default) (m.av.getD k default)).1.at'] 183,.box z.2.1 (hv fb dQ aK e5 gd) 256,.own z.2.2 70 2 dm (je ((cj t k).getD (m.av.getD k default).at' default) (m.av.getD k default)).1.ah,.box ea [.int .i64 0,.string ByteArray.empty,.int .i64 0,.int .i64 0,.int .i64 0] 256,.box cO [U,.int .i64 0] 183,.box aT [(q.ag.getD k default).1,.int .i64 (m.av.getD k default).at'] 183]) ?_ ?_
  ·skip
   refine fs (Mem [(w,an)] [.box aT [(q.ag.getD k default).1,.int .i64 (m.av.getD k default).at'] 183,.box ea [.int .i64 0,.string ByteArray.empty,.int .i64 0,.int .i64 0,.int .i64 0] 256,.box cO [U,.int .i64 0] 183]) [0,1,2,3,4,5,6,7,8,9,10,11,999] mixed c7 ?_;refine bI ?_;refine Fl 12 17 18 (h1:=?_) (h2:=?_) (h3:=?_)
   ·refine cB [13,14,15,16,999] _ (h:=gS (a7:=λI hw=>yw _ _ I hi hok (hw.now oj) (by omega) h2 dT) (ab:=?_));rintro wm acB es ahZ ⟨cH,fj,rfl,rfl⟩;refine aF (bI ?_) (bM [1,2,3]);refine nn 17 18 ?_ ?_
    ·refine cB [999] _ (h:=ft ?_);intro eb;refine aF ?_ (bM [2,3,4]);refine eo 18 ?_;refine cB [999] _ (h:=ft ?_);intro dv;refine aF ?_ (bM [3,4,5]);refine eo 19 ?_;refine cB [999] _ (h:=bD 1 (ab:=?_));refine aF ?_ (bM [3,4,5]);refine eo 20 ?_;refine cB [21] _ (h:=bD 0 (ab:=?_));refine aF (bI ?_) (bM [3,4,5]);exact bZ (eb,dv,cH) fj (hA:=bM [1,0,2,4,5,3])
    refine cB [999] _ (h:=ft ?_);intro dv;refine aF ?_ (bM [2,3,4]);refine eo 17 ?_;refine cB [999] _ (h:=ft ?_);intro eb;refine aF ?_ (bM [3,4,5]);refine eo 19 ?_;refine cB [999] _ (h:=bD 0 (ab:=?_));refine aF ?_ (bM [3,4,5]);refine eo 20 ?_;refine cB [21] _ (h:=bD 1 (ab:=?_));refine aF (bI ?_) (bM [3,4,5]);exact bZ (eb,dv,cH) fj (hA:=bM [0,1,2,4,5,3])
   ·refine cB [999] _ (h:=ft ?_);intro eb;refine aF ?_ (bM [1,2,3]);refine nn 12 18 ?_ ?_
    ·refine cB [13,14,15,16,999] _ (h:=gS (a7:=λI hw=>yw _ _ I hi hok (hw.now oj) (by omega) h2 dT) (ab:=?_));rintro wm acC es ah0 ⟨cH,fj,rfl,rfl⟩;refine aF (bI ?_) (bM [2,3,4]);refine eo 18 ?_;refine cB [999] _ (h:=ft ?_);intro dv;refine aF ?_ (bM [3,4,5]);refine eo 19 ?_;refine cB [999] _ (h:=bD 2 (ab:=?_));refine aF ?_ (bM [3,4,5]);refine eo 20 ?_;refine cB [21] _ (h:=bD 0 (ab:=?_));refine aF (bI ?_) (bM [3,4,5]);exact bZ (eb,dv,cH) fj (hA:=bM [2,0,1,4,5,3])
    refine cB [999] _ (h:=ft ?_);intro dv;refine aF ?_ (bM [2,3,4]);refine eo 12 ?_;refine cB [13,14,15,16,999] _ (h:=gS (a7:=λI hw=>yw _ _ I hi hok (hw.now oj) (by omega) h2 dT) (ab:=?_));rintro wm acD es ah1 ⟨cH,fj,rfl,rfl⟩;refine aF (bI ?_) (bM [3,4,5]);refine eo 19 ?_;refine cB [999] _ (h:=bD 2 (ab:=?_));refine aF ?_ (bM [3,4,5]);refine eo 20 ?_;refine cB [21] _ (h:=bD 1 (ab:=?_));refine aF (bI ?_) (bM [3,4,5]);exact bZ (eb,dv,cH) fj (hA:=bM [2,1,0,4,5,3])
   refine cB [999] _ (h:=ft ?_);intro dv;refine aF ?_ (bM [1,2,3]);refine nn 12 17 ?_ ?_
   ·refine cB [13,14,15,16,999] _ (h:=gS (a7:=λI hw=>yw _ _ I hi hok (hw.now oj) (by omega) h2 dT) (ab:=?_));rintro wm acE es ah2 ⟨cH,fj,rfl,rfl⟩;refine aF (bI ?_) (bM [2,3,4]);refine eo 17 ?_;refine cB [999] _ (h:=ft ?_);intro eb;refine aF ?_ (bM [3,4,5]);refine eo 19 ?_;refine cB [999] _ (h:=bD 0 (ab:=?_));refine aF ?_ (bM [3,4,5]);refine eo 20 ?_;refine cB [21] _ (h:=bD 2 (ab:=?_));refine aF (bI ?_) (bM [3,4,5]);exact bZ (eb,dv,cH) fj (hA:=bM [0,2,1,4,5,3])
   refine cB [999] _ (h:=ft ?_);intro eb;refine aF ?_ (bM [2,3,4]);refine eo 12 ?_;refine cB [13,14,15,16,999] _ (h:=gS (a7:=λI hw=>yw _ _ I hi hok (hw.now oj) (by omega) h2 dT) (ab:=?_));rintro wm acF es ah3 ⟨cH,fj,rfl,rfl⟩;refine aF (bI ?_) (bM [3,4,5]);refine eo 19 ?_;refine cB [999] _ (h:=bD 1 (ab:=?_));refine aF ?_ (bM [3,4,5]);refine eo 20 ?_;refine cB [21] _ (h:=bD 2 (ab:=?_));refine aF (bI ?_) (bM [3,4,5]);exact bZ (eb,dv,cH) fj (hA:=bM [1,2,0,4,5,3])
  rintro⟨eb,dv,cH⟩ fj;dsimp only at fj⊢;refine af ?_;refine fs (Mem [(w,an)] [.box eb [cH,.int .i64 (je ((cj t k).getD (m.av.getD k default).at' default) (m.av.getD k default)).1.at'] 183,.box dv (hv fb dQ aK e5 gd) 256]) [0,1,2,3] mixed (bV [0,1]) ?_;refine bI ?_;refine bL _ (h:=bD 4 (ab:=?_));refine aF (bI ?_) (bV [0,1]);refine bL _ (h:=bD 3 (ab:=?_));refine aF (aP ?_) (bV [0,1]);refine af ?_;refine eR rfl (.dz rfl qE rfl (.c1 rfl mh rfl)) [_] [2] λI hw=>⟨cH,fj,?_,rfl⟩;rw[dT];rfl
 rw[ar]at h1;have au:t.az=2:=G.az.resolve_left h1;have hok:qW 32 (m.av.getD k default).ah:=by unfold b3 at hok;rwa[amo au]at hok
 have cP:=cP au;have aY:=aY au;have fi:=(yu (Fv cP dO)).1;have En:=fi.d;have Pk:=hok.len;have PE:(b3 2:Int)=32:=rfl;have c4:stepT t k (m.av.getD k default)=(lC (cj t k) (m.av.getD k default)).getD (⟨fD t.az (m.av.getD k default).ah ((cj t k).getD (m.av.getD k default).at' default).d gF,(m.av.getD k default).at'+1⟩,.no):=by unfold stepT;rw[amn h1]
 rw[c4];obtain⟨fb,dQ,aK,e5,gd,dT⟩:=KP (lC (cj t k) (m.av.getD k default));refine af ?_;refine h7 (λz:Nat×Nat×Value=>aD z.2.2) (λz=>[(12,true,.int .i64 (KQ (lC (cj t k) (m.av.getD k default)))),(11,true,.pointer (some ⟨z.2.1,0,none⟩)),(10,true,.pointer (some ⟨z.1,0,none⟩)),(6,true,ax aT),(5,true,ax ea),(4,true,ax cO),(1,true,.int .i64 k),(0,true,ax b)]) (λz=>Mem [(w,an)] [.box z.1 [z.2.2,.int .i64 (KO (lC (cj t k) (m.av.getD k default)))] 183,.box z.2.1 (hv fb dQ aK e5 gd) 256,.own z.2.2 70 2 dm (KR (lC (cj t k) (m.av.getD k default))),.box ea [.int .i64 0,.string ByteArray.empty,.int .i64 0,.int .i64 0,.int .i64 0] 256,.box cO [U,.int .i64 0] 183,.box aT [(q.ag.getD k default).1,.int .i64 (m.av.getD k default).at'] 183]) ?_ ?_
 ·skip
  refine fs (Mem [(w,an)] [.box aT [(q.ag.getD k default).1,.int .i64 (m.av.getD k default).at'] 183,.box ea [.int .i64 0,.string ByteArray.empty,.int .i64 0,.int .i64 0,.int .i64 0] 256,.box cO [U,.int .i64 0] 183]) [0,1,2,3,4,5,6,7,999] mixed c7 ?_;refine bI ?_;refine Fl 8 13 14 (h1:=?_) (h2:=?_) (h3:=?_)
  ·refine cB [9,10,11,12,999] _ (h:=gS (a7:=λI hw=>yU _ _ _ _ I (hw.now mF) (hw.now oj) cP (by omega) hok aY dT) (ab:=?_));rintro wm acB es ahZ ⟨cH,fj,rfl,rfl⟩;refine aF (bI ?_) (bM [1,2,3]);refine nn 13 14 ?_ ?_
   ·refine cB [999] _ (h:=ft ?_);intro eb;refine aF ?_ (bM [2,3,4]);refine eo 14 ?_;refine cB [999] _ (h:=ft ?_);intro dv;refine aF ?_ (bM [3,4,5]);refine eo 15 ?_;refine cB [999] _ (h:=bD 1 (ab:=?_));refine aF ?_ (bM [3,4,5]);refine eo 16 ?_;refine cB [17] _ (h:=bD 0 (ab:=?_));refine aF (bI ?_) (bM [3,4,5]);exact bZ (eb,dv,cH) fj (hA:=bM [1,0,2,4,5,3])
   refine cB [999] _ (h:=ft ?_);intro dv;refine aF ?_ (bM [2,3,4]);refine eo 13 ?_;refine cB [999] _ (h:=ft ?_);intro eb;refine aF ?_ (bM [3,4,5]);refine eo 15 ?_;refine cB [999] _ (h:=bD 0 (ab:=?_));refine aF ?_ (bM [3,4,5]);refine eo 16 ?_;refine cB [17] _ (h:=bD 1 (ab:=?_));refine aF (bI ?_) (bM [3,4,5]);exact bZ (eb,dv,cH) fj (hA:=bM [0,1,2,4,5,3])
  ·refine cB [999] _ (h:=ft ?_);intro eb;refine aF ?_ (bM [1,2,3]);refine nn 8 14 ?_ ?_
   ·refine cB [9,10,11,12,999] _ (h:=gS (a7:=λI hw=>yU _ _ _ _ I (hw.now mF) (hw.now oj) cP (by omega) hok aY dT) (ab:=?_));rintro wm acC es ah0 ⟨cH,fj,rfl,rfl⟩;refine aF (bI ?_) (bM [2,3,4]);refine eo 14 ?_;refine cB [999] _ (h:=ft ?_);intro dv;refine aF ?_ (bM [3,4,5]);refine eo 15 ?_;refine cB [999] _ (h:=bD 2 (ab:=?_));refine aF ?_ (bM [3,4,5]);refine eo 16 ?_;refine cB [17] _ (h:=bD 0 (ab:=?_));refine aF (bI ?_) (bM [3,4,5]);exact bZ (eb,dv,cH) fj (hA:=bM [2,0,1,4,5,3])
   refine cB [999] _ (h:=ft ?_);intro dv;refine aF ?_ (bM [2,3,4]);refine eo 8 ?_;refine cB [9,10,11,12,999] _ (h:=gS (a7:=λI hw=>yU _ _ _ _ I (hw.now mF) (hw.now oj) cP (by omega) hok aY dT) (ab:=?_));rintro wm acD es ah1 ⟨cH,fj,rfl,rfl⟩;refine aF (bI ?_) (bM [3,4,5]);refine eo 15 ?_;refine cB [999] _ (h:=bD 2 (ab:=?_));refine aF ?_ (bM [3,4,5]);refine eo 16 ?_;refine cB [17] _ (h:=bD 1 (ab:=?_));refine aF (bI ?_) (bM [3,4,5]);exact bZ (eb,dv,cH) fj (hA:=bM [2,1,0,4,5,3])
  refine cB [999] _ (h:=ft ?_);intro dv;refine aF ?_ (bM [1,2,3]);refine nn 8 13 ?_ ?_
  ·refine cB [9,10,11,12,999] _ (h:=gS (a7:=λI hw=>yU _ _ _ _ I (hw.now mF) (hw.now oj) cP (by omega) hok aY dT) (ab:=?_));rintro wm acE es ah2 ⟨cH,fj,rfl,rfl⟩;refine aF (bI ?_) (bM [2,3,4]);refine eo 13 ?_;refine cB [999] _ (h:=ft ?_);intro eb;refine aF ?_ (bM [3,4,5]);refine eo 15 ?_;refine cB [999] _ (h:=bD 0 (ab:=?_));refine aF ?_ (bM [3,4,5]);refine eo 16 ?_;refine cB [17] _ (h:=bD 2 (ab:=?_));refine aF (bI ?_) (bM [3,4,5]);exact bZ (eb,dv,cH) fj (hA:=bM [0,2,1,4,5,3])
  refine cB [999] _ (h:=ft ?_);intro eb;refine aF ?_ (bM [2,3,4]);refine eo 8 ?_;refine cB [9,10,11,12,999] _ (h:=gS (a7:=λI hw=>yU _ _ _ _ I (hw.now mF) (hw.now oj) cP (by omega) hok aY dT) (ab:=?_));rintro wm acF es ah3 ⟨cH,fj,rfl,rfl⟩;refine aF (bI ?_) (bM [3,4,5]);refine eo 15 ?_;refine cB [999] _ (h:=bD 1 (ab:=?_));refine aF ?_ (bM [3,4,5]);refine eo 16 ?_;refine cB [17] _ (h:=bD 2 (ab:=?_));refine aF (bI ?_) (bM [3,4,5]);exact bZ (eb,dv,cH) fj (hA:=bM [1,2,0,4,5,3])
 rintro⟨mr,xC,cH⟩ fj;dsimp only at fj⊢;generalize lC (cj t k) (m.av.getD k default)=o at *;refine af ?_;cases o with
 | none=>refine cK rfl (λ_=>?_) (λh=>by rw[amm,aq]at h;cases h);refine af ?_;refine fs (Mem [(w,an)] [.box aT [(q.ag.getD k default).1,.int .i64 (m.av.getD k default).at'] 183]) [0,1,3,4,5,2,6,7] mixed (bV [5]) ?_;refine bI ?_;refine bL _ (h:=gS (a7:=λI hw=>C7 _ (m.av.getD k default).ah I (hw.now oj) (by omega)) (ab:=?_));rintro A5 n61 es ama ⟨P2,rfl⟩;refine aF (bI ?_) λ_ h=>h.cI.cm [6];refine bL _ (h:=bD 1 (ab:=?_));refine aF (aP ?_) λ_ h=>h.cI.cm [6];refine af ?_;refine cJ (Mem [(w,an)] (lP mr A5 (((m.av.getD k default).at':Int)+1) (m.av.getD k default).ah++[.box xC (hv fb dQ aK e5 gd) 256,.box ea [.int .i64 0,.string ByteArray.empty,.int .i64 0,.int .i64 0,.int .i64 0] 256,.box cO [U,.int .i64 0] 183,.box aT [(q.ag.getD k default).1,.int .i64 (m.av.getD k default).at'] 183])) (λ_ h=>h.cI.cm [1,0,2,4,5,6]) ?_;refine cV [0,1,2,3,4,5,6,7,8,9,10,11,12,13] mixed ?_;refine bI ?_;refine eG (λ_=>True) (h:=en (es:=lP mr A5 (((m.av.getD k default).at':Int)+1) (m.av.getD k default).ah) (a7:=λI hw=>QY mr A5 _ (m.av.getD k default).ah ((cj t k).getD (m.av.getD k default).at' default).d 0 I P2 (by omega) (hw.Hj h.box aL λe he=>amE _ he) hw.dk.ei) (ab:=?_));rintro Sr n62 es Ut rfl;refine aF (aP ?_) dx;refine af ?_;refine c0 2 ?_;refine fs (Mem [(w,an)] [.box mr [A5,.int .i64 (((m.av.getD k default).at':Int)+1)] 183,.box xC (hv 1 a8 0 0 0) 256]) [0,1,2,3] mixed (bV [0,2]) ?_;refine bI ?_;refine bL _ (h:=bD 4 (ab:=?_));refine aF (bI ?_) (bV [0,2]);refine bL _ (h:=bD 3 (ab:=?_));refine aF (aP ?_) (bV [0,2]);refine af ?_;refine eR rfl (.dz rfl qE rfl (.c1 rfl mh rfl)) [.own A5 70 2 dm (fD t.az (m.av.getD k default).ah ((cj t k).getD (m.av.getD k default).at' default).d gF)] [1] λI hw=>⟨A5,P2,rfl,rfl⟩
 | some x=>refine cK rfl (λh=>by rw[amk,ar]at h;exact absurd rfl h) λ_=>?_;refine af ?_;refine fs (Mem [(w,an)] [.box mr [cH,.int .i64 (x.1.at':Int)] 183,.box xC (hv fb dQ aK e5 gd) 256]) [0,1,2,3] mixed (bV [0,1]) ?_;refine bI ?_;refine bL _ (h:=bD 4 (ab:=?_));refine aF (bI ?_) (bV [0,1]);refine bL _ (h:=bD 3 (ab:=?_));refine aF (aP ?_) (bV [0,1]);refine af ?_;refine eR rfl (.dz rfl qE rfl (.c1 rfl mh rfl)) [_] [2] λI hw=>⟨cH,fj,?_,rfl⟩;have H7:qY x.2=hv fb dQ aK e5 gd:=dT;rw[anE,H7];rfl
end Go.Proofs.bK
