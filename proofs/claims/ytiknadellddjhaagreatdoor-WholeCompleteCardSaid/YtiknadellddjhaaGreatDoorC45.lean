/- Lemmas for the law WholeComplete. -/
import Derived.Shelf.Lays2
import Derived.Shelf.Slices.Clone
import Derived.Shelf.Slices.Delete
import Derived.Test.YtiknadellddjhaaGreatDoorC41
set_option linter.all false
open Go.Proofs.Tryz
set_option maxHeartbeats 6400000
open Go Go.b9 Go.bM Go.gG Go.fo
attribute [local irreducible] Go.wpList Go.Code.wp Go.bodyPost Go.Exit.then Go.Exit.inBlock Go.Calls
namespace Go.Proofs.bA
instance:jo prog 79 ct kv:=⟨trivial⟩
def Eg(t:aW)(c:cw):Nat->Nat->Nat->Bool
 | 0=>nN t
 | 1=>λi j=>nN t i j||lq t (jG t c) i j
 | 2=>λi j=>(nN t i j||lq t (jG t c) i j)||jf t c i j
 | _=>ou t c
def Mr(t:aW)(c:cw):Nat->Nat->Nat->Bool
 | 0=>lq t (jG t c)
 | 1=>jf t c
 | _=>kx t c
theorem Wi(t:aW)(c:cw){i:Nat}(h:i<3):Eg t c (i+1)=λa b=>Eg t c i a b||Mr t c i a b:=by
 rcases i with _ | _ | _ | i
 ·rfl
 ·rfl
 ·rfl
 omega
theorem aru{t:aW}(h1:e0 t=true):sQ t=(t.J.length:Int)/\(∀p,q8 t p=b1 t.J.length p)/\nt t=0:=by
 refine⟨?_,λp=>?_,?_⟩
 ·unfold sQ;rw[aou h1]
 ·unfold q8;rw[aou h1]
 unfold nt;rw[aou h1]
theorem UN{ak ah aI bv aG aR ad aT bj:Value}{t:aW}(cI b8:Value)(c:cw)(s1 s2 cJ dw dk eM eb fl fH:Value)(w:World)(h:fB al w ak ah aI bv aG aR ad aT bj t)(ai:ke al w cI b8 c)(rM:aZ al w fJ 1 dw (b1 t.J.length (lq t (jG t c))))(Bj:aZ al w fJ 1 dk (b1 t.J.length (jf t c)))(Bk:aZ al w fJ 1 eb (b1 t.J.length (kx t c)))(fA:aD s1)(j7:aD s2)(kl:aD cJ)(km:aD dw)(lA:aD dk)(mI:aD eM)(me:aD eb)(mJ:aD fl)(nc:aD fH)(a1:fj t c=0): en prog 107 [.agg #[ak,ah,aI,bv,aG,aR,ad,aT,bj,cI,b8,.int .i64 t.J.length,s1,.int .i64 t.J.length,s2,.int .i64 t.J.length,cJ,.int .i64 t.J.length,dw,.int .i64 t.J.length,dk,.int .i64 t.J.length,eM,.int .i64 t.J.length,eb,.int .i64 t.J.length,fl,.int .i64 t.J.length,fH]] w (Hv t.J.length (b1 t.J.length (ou t c))):=by
 have lv:=ai.bE.aK;have nb:=ai.pD;have h1:=(nU a1).1;obtain⟨hb,ma⟩:=kI h1;obtain⟨ir,cj,akV⟩:=aru h1;refine hL func107 ntmps107 ?_;refine b7 λEp=>?_;refine cH λdC=>?_;refine aq (gi (λI hw=>ai1 (t:=t) I (h.now hw)) ?_);rintro v bx es bc ⟨dd,yV,rfl,rfl⟩;rw[ir,cj (nN t)];refine U ?_;refine cH λdK=>?_;refine bN 0 ?_;refine aq (eI (ab:=?_));intro aE eo;generalize hxs:(List.map _ _:List Ef)=xs;have hxs:xs=[⟨t.J.length,dw⟩,⟨t.J.length,dk⟩,⟨t.J.length,eb⟩]:=hxs.symm;have jV:xs.length=3:=by rw[hxs];rfl
 have aby:∀i,i<3->(xs.getD i default).n=t.J.length/\aD (xs.getD i default).s/\aZ al w fJ 1 (xs.getD i default).s (b1 t.J.length (Mr t c i)):=λi hi=>by
  rw[hxs];rcases i with _ | _ | _ | i
  ·exact⟨rfl,km,rM⟩
  ·exact⟨rfl,lA,Bj⟩
  ·exact⟨rfl,me,Bk⟩
  omega
 refine U ?_;rw[jV];refine bX (λs:Nat×Value=>s.1<=3/\aD s.2) (λs=>[(24,true,.int .i64 s.1),(23,true,.int .i64 (3:Nat)),(22,true,aE),(3,true,av dK),(2,true,av dC)]) (λs=>Mem [(w,al)] [.own aE 113 2 H9 xs,.box dK [.int .i64 t.J.length,s.2] 113,eG s.2 (b1 t.J.length (Eg t c s.1)),.box dC [.int .i64 0,aa] 113,.box Ep [ak,ah,aI,bv,aG,aR,ad,aT,bj,cI,b8,.int .i64 t.J.length,s1,.int .i64 t.J.length,s2,.int .i64 t.J.length,cJ,.int .i64 t.J.length,dw,.int .i64 t.J.length,dk,.int .i64 t.J.length,eM,.int .i64 t.J.length,eb,.int .i64 t.J.length,fl,.int .i64 t.J.length,fH] 123]) (λs=>3-s.1) (0,dd) ⟨aoD _,yV⟩ ?_ ⟨rfl,rfl,rfl,rfl,rfl,trivial⟩ cv
 rintro⟨i,fe⟩ ⟨hi,QH⟩;dsimp only at hi QH⊢;refine a8 (λh2=>?_) λh2=>?_
 ·have bq:i<3:=by rw[an]at h2;omega
  obtain⟨J5,Q1,J6⟩:=aby i bq;have abz:i<xs.length:=by omega
  refine U ?_;refine aq (fb ?_);intro cY;generalize xs.getD i default=x at J5 Q1 J6⊢;obtain⟨aki,D4⟩:=x;dsimp only at J5 Q1 J6;subst J5;refine U ?_;refine bN 0 ?_;refine aq (gi (λI hw=>BG (lV _ (Eg t c i) hb) (lV _ (Mr t c i) hb) (hw.dX) (hw.now J6)) ?_);rintro v ck es bY ⟨eX,JK,rfl,rfl⟩;rw[Bn hb,<-Wi t c bq];refine U ?_;refine bN 3 ?_;exact bm (i+1,eX) ⟨by dsimp only;omega,JK⟩ (by dsimp only;omega) (hA:=bD [2,3,0,5,6])
 obtain rfl:i=3:=by rw[au]at h2;omega
 refine U ?_;refine bN 3 ?_;exact et rfl (.c1 rfl jC rfl) [_] [2] λI hw=>⟨fe,QH,rfl,rfl⟩
theorem aiJ{ak ah aI bv aG aR ad aT bj:Value}{t:aW}(cI b8:Value)(c:cw)(s1 s2 cJ dw dk eM eb fl fH:Value)(w:World)(h:fB al w ak ah aI bv aG aR ad aT bj t)(ai:ke al w cI b8 c)(fA:aD s1)(j7:aD s2)(kl:aD cJ)(km:aD dw)(lA:aD dk)(mI:aD eM)(me:aD eb)(mJ:aD fl)(nc:aD fH)(bL:lK w): bl prog 105 [.agg #[ak,ah,aI,bv,aG,aR,ad,aT,bj,cI,b8,.int .i64 t.J.length,s1,.int .i64 t.J.length,s2,.int .i64 t.J.length,cJ,.int .i64 t.J.length,dw,.int .i64 t.J.length,dk,.int .i64 t.J.length,eM,.int .i64 t.J.length,eb,.int .i64 t.J.length,fl,.int .i64 t.J.length,fH]] w λ_ v _=>v=.bool (nY t c):=by have lv:=ai.bE.aK;have nb:=ai.pD;refine bZ func105 ntmps105 ?_;refine b7 λEp=>?_;refine aq (bp (λI hw=>ajD cI b8 c I (h.now hw) (ai.now hw) (bL.now hw)) ?_);rintro v bx bc rfl cu;refine bf λI hw=>?_;rfl
theorem aiO{ak ah aI bv aG aR ad aT bj:Value}{t:aW}(cI b8:Value)(c:cw)(s1 s2 cJ dw dk eM eb fl fH:Value)(w:World)(h:fB al w ak ah aI bv aG aR ad aT bj t)(ai:ke al w cI b8 c)(rM:aZ al w fJ 1 dw (b1 t.J.length (lq t (jG t c))))(Bj:aZ al w fJ 1 dk (b1 t.J.length (jf t c)))(Bk:aZ al w fJ 1 eb (b1 t.J.length (kx t c)))(fA:aD s1)(j7:aD s2)(kl:aD cJ)(km:aD dw)(lA:aD dk)(mI:aD eM)(me:aD eb)(mJ:aD fl)(nc:aD fH)(a1:fj t c=0): bl prog 106 [.agg #[ak,ah,aI,bv,aG,aR,ad,aT,bj,cI,b8,.int .i64 t.J.length,s1,.int .i64 t.J.length,s2,.int .i64 t.J.length,cJ,.int .i64 t.J.length,dw,.int .i64 t.J.length,dk,.int .i64 t.J.length,eM,.int .i64 t.J.length,eb,.int .i64 t.J.length,fl,.int .i64 t.J.length,fH]] w λ_ v _=>v=.bool (nT t (ou t c)):=by have lv:=ai.bE.aK;have nb:=ai.pD;refine bZ func106 ntmps106 ?_;refine b7 λEp=>?_;refine aq (gi (λI hw=>UN cI b8 c s1 s2 cJ dw dk eM eb fl fH I (h.now hw) (ai.now hw) (hw.now rM) (hw.now Bj) (hw.now Bk) fA j7 kl km lA mI me mJ nc a1) ?_);rintro v bx es bc ⟨s,aj,rfl,rfl⟩;refine U ?_;refine aq (bp (λI hw=>HA t.J.length s (b1 t.J.length (ou t c)) I (hw.dX)) ?_);rintro v ck bY rfl eZ;refine bf λI hw=>?_;rfl
theorem UX{ak ah aI bv aG aR ad aT bj:Value}{t:aW}(cI b8:Value)(c:cw)(s1 s2 cJ dw dk eM eb fl fH:Value)(w:World)(h:fB al w ak ah aI bv aG aR ad aT bj t)(ai:ke al w cI b8 c)(rM:aZ al w fJ 1 dw (b1 t.J.length (lq t (jG t c))))(Bj:aZ al w fJ 1 dk (b1 t.J.length (jf t c)))(Bk:aZ al w fJ 1 eb (b1 t.J.length (kx t c)))(fA:aD s1)(j7:aD s2)(kl:aD cJ)(km:aD dw)(lA:aD dk)(mI:aD eM)(me:aD eb)(mJ:aD fl)(nc:aD fH)(a1:fj t c=0)(bL:lK w): bl prog 43 [.agg #[ak,ah,aI,bv,aG,aR,ad,aT,bj,cI,b8,.int .i64 t.J.length,s1,.int .i64 t.J.length,s2,.int .i64 t.J.length,cJ,.int .i64 t.J.length,dw,.int .i64 t.J.length,dk,.int .i64 t.J.length,eM,.int .i64 t.J.length,eb,.int .i64 t.J.length,fl,.int .i64 t.J.length,fH]] w λ_ v _=>v=.bool (nu t c):=by
 have lv:=ai.bE.aK;have nb:=ai.pD;refine bZ func43 ntmps43 ?_;refine b7 λEp=>?_;refine aq (eI (ab:=?_));intro aE eo;generalize hxs:(List.map _ _:List Value)=xs;have hxs:xs=[.func (.func 105) #[.agg #[ak,ah,aI,bv,aG,aR,ad,aT,bj,cI,b8,.int .i64 t.J.length,s1,.int .i64 t.J.length,s2,.int .i64 t.J.length,cJ,.int .i64 t.J.length,dw,.int .i64 t.J.length,dk,.int .i64 t.J.length,eM,.int .i64 t.J.length,eb,.int .i64 t.J.length,fl,.int .i64 t.J.length,fH]] #[],.func (.func 106) #[.agg #[ak,ah,aI,bv,aG,aR,ad,aT,bj,cI,b8,.int .i64 t.J.length,s1,.int .i64 t.J.length,s2,.int .i64 t.J.length,cJ,.int .i64 t.J.length,dw,.int .i64 t.J.length,dk,.int .i64 t.J.length,eM,.int .i64 t.J.length,eb,.int .i64 t.J.length,fl,.int .i64 t.J.length,fH]] #[]]:=hxs.symm;have jV:xs.length=2:=by rw[hxs];rfl
 refine U ?_;rw[jV];refine bX (λi:Nat=>i<=2/\(0<i->nY t c=true)/\(1<i->nT t (ou t c)=true)) (λi=>[(11,true,.int .i64 i),(10,true,.int .i64 (2:Nat)),(9,true,aE)]) (λ_=>Mem [(w,al)] [.own aE 79 1 ct xs]) (λi=>2-i) 0 ⟨aoD _,λq=>absurd q (aqN _),λq=>absurd q (by omega)⟩ ?_ ⟨rfl,rfl,rfl,trivial⟩ (bD [0])
 rintro i ⟨hi,sk,Fh⟩;refine a8 (λh2=>?_) λh2=>?_
 ·have bq:i<2:=by rw[an]at h2;omega
  have abz:i<xs.length:=by omega
  obtain rfl | rfl:i=0\/i=1:=by omega
  ·refine U ?_;rw[show xs.getD 0 default=.func (.func 105) #[.agg #[ak,ah,aI,bv,aG,aR,ad,aT,bj,cI,b8,.int .i64 t.J.length,s1,.int .i64 t.J.length,s2,.int .i64 t.J.length,cJ,.int .i64 t.J.length,dw,.int .i64 t.J.length,dk,.int .i64 t.J.length,eM,.int .i64 t.J.length,eb,.int .i64 t.J.length,fl,.int .i64 t.J.length,fH]] #[] by rw[hxs];rfl];refine aq (hq (k:=105) (first:=[.agg #[ak,ah,aI,bv,aG,aR,ad,aT,bj,cI,b8,.int .i64 t.J.length,s1,.int .i64 t.J.length,s2,.int .i64 t.J.length,cJ,.int .i64 t.J.length,dw,.int .i64 t.J.length,dk,.int .i64 t.J.length,eM,.int .i64 t.J.length,eb,.int .i64 t.J.length,fl,.int .i64 t.J.length,fH]]) (cap:=[]) (bb:=λI hw=>aiJ cI b8 c s1 s2 cJ dw dk eM eb fl fH I (h.now hw) (ai.now hw) fA j7 kl km lA mI me mJ nc (bL.now hw)) (ab:=?_));rintro v bx bc rfl cu;refine a8 (λh3=>?_) λh3=>?_
   ·rw[aoq]at h3;refine bf λI hw=>?_;unfold nu;rw[h3];rfl
   rw[aos]at h3;refine U ?_;exact bm 1 ⟨by omega,λ_=>h3,λq=>absurd q (by omega)⟩ (by omega) (hA:=cv)
  refine U ?_;rw[show xs.getD 1 default=.func (.func 106) #[.agg #[ak,ah,aI,bv,aG,aR,ad,aT,bj,cI,b8,.int .i64 t.J.length,s1,.int .i64 t.J.length,s2,.int .i64 t.J.length,cJ,.int .i64 t.J.length,dw,.int .i64 t.J.length,dk,.int .i64 t.J.length,eM,.int .i64 t.J.length,eb,.int .i64 t.J.length,fl,.int .i64 t.J.length,fH]] #[] by rw[hxs];rfl];refine aq (hq (k:=106) (first:=[.agg #[ak,ah,aI,bv,aG,aR,ad,aT,bj,cI,b8,.int .i64 t.J.length,s1,.int .i64 t.J.length,s2,.int .i64 t.J.length,cJ,.int .i64 t.J.length,dw,.int .i64 t.J.length,dk,.int .i64 t.J.length,eM,.int .i64 t.J.length,eb,.int .i64 t.J.length,fl,.int .i64 t.J.length,fH]]) (cap:=[]) (bb:=λI hw=>aiO cI b8 c s1 s2 cJ dw dk eM eb fl fH I (h.now hw) (ai.now hw) (hw.now rM) (hw.now Bj) (hw.now Bk) fA j7 kl km lA mI me mJ nc a1) (ab:=?_));rintro v bx bc rfl cu;refine a8 (λh3=>?_) λh3=>?_
  ·rw[aoq]at h3;refine bf λI hw=>?_;unfold nu;rw[h3,apu];rfl
  rw[aos]at h3;refine U ?_;exact bm 2 ⟨by omega,λ_=>sk (by omega),λ_=>h3⟩ (by omega) (hA:=cv)
 obtain rfl:i=2:=by rw[au]at h2;omega
 refine bf λI hw=>?_;unfold nu;rw[sk (by omega),Fh (by omega)];rfl
theorem RL{ak ah aI bv aG aR ad aT bj:Value}{t:aW}(cI b8:Value)(c:cw)(w:World)(h:fB al w ak ah aI bv aG aR ad aT bj t)(ai:ke al w cI b8 c)(bL:lK w)(a1:¬fj t c=0): bl prog 42 [.agg #[ak,ah,aI,bv,aG,aR,ad,aT,bj],.agg #[cI,b8]] w λ_ v _=>v=.tuple #[.agg #[aa,aa,aa,aa,aa,aa,aa,aa,aa,aa,aa,.int .i64 0,aa,.int .i64 0,aa,.int .i64 0,aa,.int .i64 0,aa,.int .i64 0,aa,.int .i64 0,aa,.int .i64 0,aa,.int .i64 0,aa,.int .i64 0,aa],.int .i64 (fj t c)]:=by
 have lv:=ai.bE.aK;have nb:=ai.pD;refine bZ func42 ntmps42 ?_;refine b7 λjN=>?_;refine b7 λll=>?_;refine cH λcO=>?_;refine aq (bp (λI hw=>yf cI b8 c I (h.now hw) (ai.now hw)) ?_);rintro v bx bc rfl cu;refine a8 (λh1=>?_) λh1=>?_
 ·refine U ?_;refine bN 0 ?_;refine bT rfl (.dv rfl aP rfl (.t1 rfl)) λI hw=>?_;rfl
 rw[aos,an]at h1;exact absurd h1 a1
theorem RM{ak ah aI bv aG aR ad aT bj:Value}{t:aW}(cI b8:Value)(c:cw)(w:World)(h:fB al w ak ah aI bv aG aR ad aT bj t)(ai:ke al w cI b8 c)(bL:lK w)(a1:fj t c=0): en prog 42 [.agg #[ak,ah,aI,bv,aG,aR,ad,aT,bj],.agg #[cI,b8]] w λ_ v es _=>∃s1 s2 cJ dw dk eM eb fl fH,(aD s1/\aD s2/\aD cJ/\aD dw/\aD dk/\aD eM/\aD eb/\aD fl/\aD fH)/\v=.tuple #[.agg #[ak,ah,aI,bv,aG,aR,ad,aT,bj,cI,b8,.int .i64 t.J.length,s1,.int .i64 t.J.length,s2,.int .i64 t.J.length,cJ,.int .i64 t.J.length,dw,.int .i64 t.J.length,dk,.int .i64 t.J.length,eM,.int .i64 t.J.length,eb,.int .i64 t.J.length,fl,.int .i64 t.J.length,fH],.int .i64 0]/\es=[eG s1 (b1 t.J.length (eT t)),eG s2 (b1 t.J.length (sG t)),eG cJ (b1 t.J.length (jG t c)),eG dw (b1 t.J.length (lq t (jG t c))),eG dk (b1 t.J.length (jf t c)),eG eM (b1 t.J.length (lq t (jf t c))),eG eb (b1 t.J.length (kx t c)),eG fl (b1 t.J.length (lq t (kx t c))),eG fH (b1 t.J.length (rp t c))]:=by
 have lv:=ai.bE.aK;have nb:=ai.pD;have g1:=h.aO.aK;have g2:=h.init.aK;have g3:=h.J.aK;have g4:=h.bars.aK;have g5:=h.addr.aK;have g6:=h.data.aK;have g7:=h.bh.aK;have g8:=h.cf.aK;have g9:=h.ends.aK;refine hL func42 ntmps42 ?_;refine b7 λjN=>?_;refine b7 λll=>?_;refine cH λcO=>?_;refine aq (bp (λI hw=>yf cI b8 c I (h.now hw) (ai.now hw)) ?_);rintro v bx bc rfl cu;refine a8 (λh1=>?_) λh1=>?_
 ·rw[aoq,au]at h1;exact absurd a1 h1
 refine U ?_;refine aq (gi (λI hw=>MQ cI b8 c I (h.now hw) (ai.now hw) (bL.now hw)) ?_);rintro v ck es bY ⟨s1,s2,cJ,dw,dk,eM,eb,fl,fH,⟨fA,j7,kl,km,lA,mI,me,mJ,nc⟩,rfl,rfl⟩;rw[MR a1,a1];refine U ?_;refine cH λey=>?_;refine bN 0 ?_;refine bN 10 ?_;refine et rfl (.dv rfl F9 rfl (.t1 rfl)) [_,_,_,_,_,_,_,_,_] [1,2,3,4,5,6,7,8,9] λI hw=>?_;exact⟨s1,s2,cJ,dw,dk,eM,eb,fl,fH,⟨fA,j7,kl,km,lA,mI,me,mJ,nc⟩,rfl,rfl⟩
theorem aiK{ak ah aI bv aG aR ad aT bj:Value}{t:aW}(cI b8:Value)(c:cw)(w:World)(h:fB al w ak ah aI bv aG aR ad aT bj t)(ai:ke al w cI b8 c)(bL:lK w): bl prog 13 [.agg #[ak,ah,aI,bv,aG,aR,ad,aT,bj],.agg #[cI,b8]] w λ_ v _=>v=.tuple #[.bool (nu t c),.int .i64 (fj t c)]:=by
 have lv:=ai.bE.aK;have nb:=ai.pD;have g1:=h.aO.aK;have g2:=h.init.aK;have g3:=h.J.aK;have g4:=h.bars.aK;have g5:=h.addr.aK;have g6:=h.data.aK;have g7:=h.bh.aK;have g8:=h.cf.aK;have g9:=h.ends.aK;refine bZ func13 ntmps13 ?_;refine b7 λjN=>?_;refine b7 λll=>?_;by_cases a1:fj t c=0
 ·refine aq (gi (λI hw=>RM cI b8 c I (h.now hw) (ai.now hw) (bL.now hw) a1) ?_);rintro v bx es bc ⟨s1,s2,cJ,dw,dk,eM,eb,fl,fH,⟨fA,j7,kl,km,lA,mI,me,mJ,nc⟩,rfl,rfl⟩;refine U ?_;refine cH λcY=>?_;refine bN 0 ?_;refine bC (λh1=>?_) λh1=>?_
  ·rw[aoq,au]at h1;exact absurd rfl h1
  clear h1;refine U ?_;refine aq (bp (λI hw=>UX cI b8 c s1 s2 cJ dw dk eM eb fl fH I (h.now hw) (ai.now hw) (hw.dX) (hw.dX) (hw.dX) fA j7 kl km lA mI me mJ nc a1 (bL.now hw)) ?_);rintro v ck bY rfl eZ;refine U ?_;refine bT rfl (.tmp rfl (.t1 rfl)) λI hw=>?_;rw[a1];rfl
 refine aq (bp (λI hw=>RL cI b8 c I (h.now hw) (ai.now hw) (bL.now hw) a1) ?_);rintro v bx bc rfl cu;refine U ?_;refine cH λcY=>?_;refine bN 0 ?_;refine bC (λh1=>?_) λh1=>?_
 ·refine U ?_;refine bT rfl (.tmp rfl (.t1 rfl)) λI hw=>?_;unfold nu;rw[Ou a1];rfl
 rw[aos,an]at h1;exact absurd h1 a1
def BE(t:aW)(c:cw):Int:=if fj t c=0 then if nu t c=true then 0 else 181 else fj t c
def BF(t:aW)(c:cw):List Int:=if nu t c=true then wz t.J.length (b1 t.J.length (ou t c))else []
theorem ai0{ak ah aI bv aG aR ad aT bj:Value}{t:aW}(cI b8:Value)(c:cw)(w:World)(h:fB al w ak ah aI bv aG aR ad aT bj t)(ai:ke al w cI b8 c)(bL:lK w): en prog 44 [.agg #[ak,ah,aI,bv,aG,aR,ad,aT,bj],.agg #[cI,b8]] w (Eb (BF t c) (BE t c)):=by
 have lv:=ai.bE.aK;have nb:=ai.pD;have g1:=h.aO.aK;have g2:=h.init.aK;have g3:=h.J.aK;have g4:=h.bars.aK;have g5:=h.addr.aK;have g6:=h.data.aK;have g7:=h.bh.aK;have g8:=h.cf.aK;have g9:=h.ends.aK;refine hL func44 ntmps44 ?_;refine b7 λjN=>?_;refine b7 λll=>?_;by_cases a1:fj t c=0
 ·refine aq (gi (λI hw=>RM cI b8 c I (h.now hw) (ai.now hw) (bL.now hw) a1) ?_);rintro v bx es bc ⟨s1,s2,cJ,dw,dk,eM,eb,fl,fH,⟨fA,j7,kl,km,lA,mI,me,mJ,nc⟩,rfl,rfl⟩;refine U ?_;refine cH λcY=>?_;refine bN 0 ?_;refine bC (λh1=>?_) λh1=>?_
  ·rw[aoq,au]at h1;exact absurd rfl h1
  clear h1;refine U ?_;refine aq (bp (λI hw=>UX cI b8 c s1 s2 cJ dw dk eM eb fl fH I (h.now hw) (ai.now hw) (hw.dX) (hw.dX) (hw.dX) fA j7 kl km lA mI me mJ nc a1 (bL.now hw)) ?_);rintro v ck bY rfl eZ;refine a8 (λh2=>?_) λh2=>?_
  ·rw[aoq]at h2;refine U ?_;refine ea 3 1 a7 ?_;refine et rfl (.tmp rfl (.t1 rfl)) [_] [0] λI hw=>?_;unfold BE BF;rw[aou a1,aot (by rw[h2];simp),aot (by rw[h2];simp)];exact⟨_,k2,rfl,rfl⟩
  rw[aos]at h2;have dW:nT t (ou t c)=true:=by unfold nu at h2;rw[aoo]at h2;exact h2.2
  have hb:=(kI (nU a1).1).1;have aL:=(Kv hb dW).1;refine U ?_;refine aq (gi (λI hw=>UN cI b8 c s1 s2 cJ dw dk eM eb fl fH I (h.now hw) (ai.now hw) (hw.dX) (hw.dX) (hw.dX) fA j7 kl km lA mI me mJ nc a1) ?_);rintro v hj es fW ⟨rO,xI,rfl,rfl⟩;refine U ?_;refine aq (gi (λI hw=>Rv t.J.length rO (b1 t.J.length (ou t c)) I (hw.dX)) ?_);rintro v ia es ig ⟨hW,yT,rfl,rfl⟩;rw[aL];refine U ?_;refine et rfl (.tmp rfl (.t1 rfl)) [_] [0] λI hw=>?_;unfold BE BF;rw[aou a1,aou h2,aou h2];exact⟨hW,yT,rfl,rfl⟩
 refine aq (bp (λI hw=>RL cI b8 c I (h.now hw) (ai.now hw) (bL.now hw) a1) ?_);rintro v bx bc rfl cu;refine U ?_;refine cH λcY=>?_;refine bN 0 ?_;refine bC (λh1=>?_) λh1=>?_
 ·refine U ?_;refine ea 3 1 a7 ?_;refine et rfl (.tmp rfl (.t1 rfl)) [_] [0] λI hw=>?_;unfold BE BF;rw[aot a1,aot (by unfold nu;rw[Ou a1];simp)];exact⟨_,k2,rfl,rfl⟩
 rw[aos,an]at h1;exact absurd h1 a1
def Bx(t:aW)(c:cw):Int:=if fj t c=0 then if oW t c=true then 0 else 181 else fj t c
def By(t:aW)(c:cw):List Int:=if oW t c=true then wz t.J.length (b1 t.J.length (qq t c))else []
theorem GX{t:aW}{c:cw}(h:fj t c=0):oW t c=nT t (qq t c):=by unfold oW;rw[aou h]
theorem Ub{t:aW}{c:cw}(h:¬fj t c=0):oW t c=false:=by unfold oW;rw[aot h]
theorem Uk{ak ah aI bv aG aR ad aT bj:Value}{t:aW}(cI b8:Value)(c:cw)(w:World)(h:fB al w ak ah aI bv aG aR ad aT bj t)(ai:ke al w cI b8 c)(bL:lK w)(a1:¬fj t c=0): bl prog 37 [.agg #[ak,ah,aI,bv,aG,aR,ad,aT,bj],.agg #[cI,b8]] w λ_ v _=>v=.tuple #[.agg #[.int .i64 0,aa,.int .i64 0,aa,.int .i64 0,aa,.int .i64 0,aa,.int .i64 0,aa,.int .i64 0,aa,.int .i64 0,aa,.int .i64 0,aa,.int .i64 0,aa],.agg #[.int .i64 0,aa],.int .i64 (fj t c)]:=by
 have lv:=ai.bE.aK;have nb:=ai.pD;have g1:=h.aO.aK;have g2:=h.init.aK;have g3:=h.J.aK;have g4:=h.bars.aK;have g5:=h.addr.aK;have g6:=h.data.aK;have g7:=h.bh.aK;have g8:=h.cf.aK;have g9:=h.ends.aK;refine bZ func37 ntmps37 ?_;refine b7 λjN=>?_;refine b7 λll=>?_;refine cH λcO=>?_;refine cH λec=>?_;refine aq (bp (λI hw=>yf cI b8 c I (h.now hw) (ai.now hw)) ?_);rintro v bx bc rfl cu;refine a8 (λh1=>?_) λh1=>?_
 ·refine U ?_;refine bN 1 ?_;refine bN 0 ?_;refine bT rfl (.dv rfl dg rfl (.dv rfl aP rfl (.t1 rfl))) λI hw=>?_;rfl
 rw[aos,an]at h1;exact absurd h1 a1
theorem Ul{ak ah aI bv aG aR ad aT bj:Value}{t:aW}(cI b8:Value)(c:cw)(w:World)(h:fB al w ak ah aI bv aG aR ad aT bj t)(ai:ke al w cI b8 c)(bL:lK w)(a1:fj t c=0): en prog 37 [.agg #[ak,ah,aI,bv,aG,aR,ad,aT,bj],.agg #[cI,b8]] w λ_ v es _=>∃s1 s2 cJ dw dk eM eb fl fH rO,(aD s1/\aD s2/\aD cJ/\aD dw/\aD dk/\aD eM/\aD eb/\aD fl/\aD fH)/\aD rO/\v=.tuple #[.agg #[.int .i64 t.J.length,s1,.int .i64 t.J.length,s2,.int .i64 t.J.length,cJ,.int .i64 t.J.length,dw,.int .i64 t.J.length,dk,.int .i64 t.J.length,eM,.int .i64 t.J.length,eb,.int .i64 t.J.length,fl,.int .i64 t.J.length,fH],.agg #[.int .i64 t.J.length,rO],.int .i64 0]/\es=[eG s1 (b1 t.J.length (eT t)),eG s2 (b1 t.J.length (sG t)),eG cJ (b1 t.J.length (jG t c)),eG dw (b1 t.J.length (lq t (jG t c))),eG dk (b1 t.J.length (jf t c)),eG eM (b1 t.J.length (lq t (jf t c))),eG eb (b1 t.J.length (kx t c)),eG fl (b1 t.J.length (lq t (kx t c))),eG fH (b1 t.J.length (rp t c)),eG rO (b1 t.J.length (qq t c))]:=by
 have lv:=ai.bE.aK;have nb:=ai.pD;have g1:=h.aO.aK;have g2:=h.init.aK;have g3:=h.J.aK;have g4:=h.bars.aK;have g5:=h.addr.aK;have g6:=h.data.aK;have g7:=h.bh.aK;have g8:=h.cf.aK;have g9:=h.ends.aK;refine hL func37 ntmps37 ?_;refine b7 λjN=>?_;refine b7 λll=>?_;refine cH λcO=>?_;refine cH λec=>?_;have hb:=(kI (nU a1).1).1;refine aq (bp (λI hw=>yf cI b8 c I (h.now hw) (ai.now hw)) ?_);rintro v bx bc rfl cu;refine a8 (λh1=>?_) λh1=>?_
 ·rw[aoq,au]at h1;exact absurd a1 h1
 refine U ?_;refine aq (gi (λI hw=>MQ cI b8 c I (h.now hw) (ai.now hw) (bL.now hw)) ?_);rintro v ck es bY ⟨s1,s2,cJ,dw,dk,eM,eb,fl,fH,⟨fA,j7,kl,km,lA,mI,me,mJ,nc⟩,rfl,rfl⟩;rw[MR a1,a1];refine U ?_;refine cH λdx=>?_;refine bN 0 ?_;refine bC (λh2=>?_) λh2=>?_
 ·rw[aoq,au]at h2;exact absurd rfl h2
 clear h2;refine U ?_;refine aq (gi (λI hw=>BG (lV _ (eT t) hb) (lV _ (rp t c) hb) (hw.dX) (hw.dX)) ?_);rintro v hj es fW ⟨rO,xI,rfl,rfl⟩;rw[Bn hb];refine U ?_;refine cH λo1=>?_;refine bN 0 ?_;refine fw (Mem [(w,al)] [.box o1 [.int .i64 t.J.length,rO] 113,.box dx [.int .i64 t.J.length,s1,.int .i64 t.J.length,s2,.int .i64 t.J.length,cJ,.int .i64 t.J.length,dw,.int .i64 t.J.length,dk,.int .i64 t.J.length,eM,.int .i64 t.J.length,eb,.int .i64 t.J.length,fl,.int .i64 t.J.length,fH] 115]) [0,1,2,3,4,5] mixed (bD [0,2]) ?_;refine aN ?_;refine bO _ (h:=bK 13 (ab:=?_));refine aF (aN ?_) (bD [0,2]);refine bO _ (h:=bK 12 (ab:=?_));refine aF (aN ?_) (bD [0,2]);refine U ?_;refine et rfl (.dv rfl adi rfl (.dv rfl adh rfl (.t1 rfl))) [_,_,_,_,_,_,_,_,_,_] [3,4,5,6,7,8,9,10,11,1] λI hw=>?_;exact⟨s1,s2,cJ,dw,dk,eM,eb,fl,fH,rO,⟨fA,j7,kl,km,lA,mI,me,mJ,nc⟩,xI,rfl,rfl⟩
theorem ahz{ak ah aI bv aG aR ad aT bj:Value}{t:aW}(cI b8:Value)(c:cw)(w:World)(h:fB al w ak ah aI bv aG aR ad aT bj t)(ai:ke al w cI b8 c)(bL:lK w): bl prog 11 [.agg #[ak,ah,aI,bv,aG,aR,ad,aT,bj],.agg #[cI,b8]] w λ_ v _=>v=.tuple #[.bool (oW t c),.int .i64 (fj t c)]:=by
 have lv:=ai.bE.aK;have nb:=ai.pD;have g1:=h.aO.aK;have g2:=h.init.aK;have g3:=h.J.aK;have g4:=h.bars.aK;have g5:=h.addr.aK;have g6:=h.data.aK;have g7:=h.bh.aK;have g8:=h.cf.aK;have g9:=h.ends.aK;refine bZ func11 ntmps11 ?_;refine b7 λjN=>?_;refine b7 λll=>?_;by_cases a1:fj t c=0
 ·have hb:=(kI (nU a1).1).1;refine aq (gi (λI hw=>Ul cI b8 c I (h.now hw) (ai.now hw) (bL.now hw) a1) ?_);rintro v bx es bc ⟨s1,s2,cJ,dw,dk,eM,eb,fl,fH,rO,⟨fA,j7,kl,km,lA,mI,me,mJ,nc⟩,xI,rfl,rfl⟩;refine U ?_;refine cH λcY=>?_;refine cH λey=>?_;refine bN 1 ?_;refine bN 0 ?_;refine bC (λh1=>?_) λh1=>?_
  ·rw[aoq,au]at h1;exact absurd rfl h1
  clear h1;refine U ?_;refine aq (bp (λI hw=>HA t.J.length rO (b1 t.J.length (qq t c)) I (hw.dX)) ?_);rintro v ck bY rfl eZ;refine U ?_;refine bT rfl (.tmp rfl (.t1 rfl)) λI hw=>?_;rw[GX a1,a1,lV _ _ hb];rfl
 refine aq (bp (λI hw=>Uk cI b8 c I (h.now hw) (ai.now hw) (bL.now hw) a1) ?_);rintro v bx bc rfl cu;refine U ?_;refine cH λcY=>?_;refine cH λey=>?_;refine bN 1 ?_;refine bN 0 ?_;refine bC (λh1=>?_) λh1=>?_
 ·refine U ?_;refine bT rfl (.tmp rfl (.t1 rfl)) λI hw=>?_;rw[Ub a1];rfl
 rw[aos,an]at h1;exact absurd h1 a1
theorem ah4{ak ah aI bv aG aR ad aT bj:Value}{t:aW}(cI b8:Value)(c:cw)(w:World)(h:fB al w ak ah aI bv aG aR ad aT bj t)(ai:ke al w cI b8 c)(bL:lK w): en prog 40 [.agg #[ak,ah,aI,bv,aG,aR,ad,aT,bj],.agg #[cI,b8]] w (Eb (By t c) (Bx t c)):=by
 have lv:=ai.bE.aK;have nb:=ai.pD;have g1:=h.aO.aK;have g2:=h.init.aK;have g3:=h.J.aK;have g4:=h.bars.aK;have g5:=h.addr.aK;have g6:=h.data.aK;have g7:=h.bh.aK;have g8:=h.cf.aK;have g9:=h.ends.aK;refine hL func40 ntmps40 ?_;refine b7 λjN=>?_;refine b7 λll=>?_;by_cases a1:fj t c=0
 ·have hb:=(kI (nU a1).1).1;refine aq (gi (λI hw=>Ul cI b8 c I (h.now hw) (ai.now hw) (bL.now hw) a1) ?_);rintro v bx es bc ⟨s1,s2,cJ,dw,dk,eM,eb,fl,fH,rO,⟨fA,j7,kl,km,lA,mI,me,mJ,nc⟩,xI,rfl,rfl⟩;refine U ?_;refine cH λcY=>?_;refine cH λey=>?_;refine bN 1 ?_;refine bN 0 ?_;refine bC (λh1=>?_) λh1=>?_
  ·rw[aoq,au]at h1;exact absurd rfl h1
  clear h1;refine U ?_;refine aq (gi (λI hw=>Rv t.J.length rO (b1 t.J.length (qq t c)) I (hw.dX)) ?_);rintro v ck es bY ⟨hW,yT,rfl,rfl⟩;by_cases aj:oW t c=true
  ·have aL:=(Kv hb (by rw[<-GX a1];exact aj)).1;rw[aL];refine a8 (λh2=>?_) λh2=>?_
   ·rw[aoq,au]at h2;exact absurd rfl h2
   refine U ?_;refine et rfl (.tmp rfl (.t1 rfl)) [_] [0] λI hw=>?_;unfold Bx By;rw[aou a1,aou aj,aou aj];exact⟨hW,yT,rfl,rfl⟩
  have aL:=(ac5 (p:=qq t c) hb (by rw[<-GX a1];simpa using aj)).1;rw[aL];refine a8 (λh2=>?_) λh2=>?_
  ·refine U ?_;refine ea 3 1 a7 ?_;refine et rfl (.tmp rfl (.t1 rfl)) [_] [0] λI hw=>?_;unfold Bx By;rw[aou a1,aot aj,aot aj];exact⟨_,k2,rfl,rfl⟩
  rw[aos,an]at h2;omega
 refine aq (bp (λI hw=>Uk cI b8 c I (h.now hw) (ai.now hw) (bL.now hw) a1) ?_);rintro v bx bc rfl cu;refine U ?_;refine cH λcY=>?_;refine cH λey=>?_;refine bN 1 ?_;refine bN 0 ?_;refine bC (λh1=>?_) λh1=>?_
 ·refine U ?_;refine ea 3 1 a7 ?_;refine et rfl (.tmp rfl (.t1 rfl)) [_] [0] λI hw=>?_;unfold Bx By;rw[aot a1,aot (by rw[Ub a1];simp)];exact⟨_,k2,rfl,rfl⟩
 rw[aos,an]at h1;exact absurd h1 a1
end Go.Proofs.bA
namespace Go.Proofs.bA
open Go Go.Proofs Go.Shelf
def acH:Go.Shelf.Ren:=⟨λ| 15=>90 | n=>n,λ| 22=>33 | 3=>3 | 4=>4 | n=>n,λ| n=>n⟩
theorem Kr:Go.Proofs.Lays2.n15 prog acH:={
 mixed:=by kernel_rfl
 f15:=func90.trans (aoI some (by kernel_rfl))
 t3:=underlying3
 a3:=Tryz.isAgg3
 z3:=Tryz.sizeOf3
 v3:=Tryz.zeroValue3
 t4:=underlying4
 a4:=Tryz.isAgg4
 z4:=Tryz.sizeOf4
 v4:=Tryz.zeroValue4
 t22:=underlying33
 a22:=Tryz.isAgg33
 z22:=Tryz.sizeOf33
 v22:=Tryz.zeroValue33
 i3:=by kernel_rfl}
def acL:Go.Shelf.Ren:=⟨λ| 23=>211 | n=>n,λ| 22=>33 | 3=>3 | 4=>4 | 0=>0 | n=>n,λ| n=>n⟩
theorem acK:Go.Proofs.Lays2.n23 prog acL:={
 mixed:=by kernel_rfl
 f23:=func211.trans (aoI some (by kernel_rfl))
 t0:=underlying0
 a0:=Tryz.isAgg0
 z0:=Tryz.sizeOf0
 v0:=Tryz.zeroValue0
 t3:=underlying3
 a3:=Tryz.isAgg3
 z3:=Tryz.sizeOf3
 v3:=Tryz.zeroValue3
 t4:=underlying4
 a4:=Tryz.isAgg4
 z4:=Tryz.sizeOf4
 v4:=Tryz.zeroValue4
 t22:=underlying33
 a22:=Tryz.isAgg33
 z22:=Tryz.sizeOf33
 v22:=Tryz.zeroValue33
 i3:=by kernel_rfl}
end Go.Proofs.bA
namespace Go.Proofs.bA
open Go Go.b9 Go.bM Go.Proofs Go.RowKit Go.Sort
theorem KQ{w I:World}{v:Value}{xs:List Int}(bn:World.ownsRow I w.heap.size 3 1 v xs.length (xs.map (Value.int .i64)))(hb:Below w.heap.size w I):rj w (λ_ r es _=>aD r/\es=[.own r 3 1 a7 xs]) (.returned v) I:=by
 unfold rj;have hr:aD v:=by rcases bn.2 with⟨rfl,_⟩ | ⟨g,cap,cur,rfl,_⟩<;>exact⟨_,_,_,rfl⟩
 refine⟨v,_,rfl,⟨hr,rfl⟩,?_⟩;refine(Dj w).new (e':=.own v 3 1 a7 xs) hb.os hb.tape hb.output hb.size (λk hk=>hb.block k hk) ?_ (λk hk=>?_) λk hk=>?_
 ·show World.ownsRow I 0 3 1 v xs.length (xs.flatMap a7);rw[Am];exact⟨bn.1,bn.2.imp id λ⟨g,cap,cur,a,_,r⟩=>⟨g,cap,cur,a,aoD _,r⟩⟩
 ·rcases bn.2 with⟨rfl,_⟩ | ⟨g,cap,cur,rfl,az,eC,_⟩
  ·simp[aB.cN,Value.ownBlock]at hk
  simp only[aB.cN,Value.ownBlock,Option.mem_toList,Option.mem_some_iff]at hk;obtain rfl:g=k:=aqW hk;exact(aqe.1 eC).1
 rcases bn.2 with⟨rfl,_⟩ | ⟨g,cap,cur,rfl,az,eC,_⟩
 ·simp[aB.cN,Value.ownBlock]at hk
 simp only[aB.cN,Value.ownBlock,Option.mem_toList,Option.mem_some_iff]at hk;obtain rfl:g=k:=aqW hk;exact az
theorem ahx(v:Value)(xs:List Int)(w:World)(aj:aZ al w a7 1 v xs)(hx:xs.length* 8<=140737488351232): en prog 90 [v] w λ_ r es _=>aD r/\es=[.own r 3 1 a7 xs]:=by
 unfold en;rcases Q4 aj with⟨a,cap,rfl,rfl⟩ | ⟨b,off,cap,rfl,hb,ai⟩
 ·cases a with
  | none=>refine(Any.slices_Clone_int_nil Kr 0 cap w).mono ?_;rintro e I ⟨rfl,rfl⟩;exact KQ (World.ownsRow_nil _ _ _ _) (Below.refl _ _)
  | some A=>refine(Any.slices_Clone_int_zero Kr A cap w).mono ?_;rintro e I ⟨dG,rfl,bn,_,hb⟩;exact KQ bn hb
 refine(Any.slices_Clone_int Kr b off xs.length cap xs w (aoL _) (by omega) λj ae=>by rw[ai j ae];simp[aor]).mono ?_;rintro e I ⟨dG,rfl,bn,_,jT⟩;rw[aqH (aoL _)]at bn;exact KQ bn jT
theorem ahM(v:Value)(xs:List Int)(i:Nat)(w:World)(hi:i<xs.length)(hw:Mem [] [.own v 3 1 a7 xs] w): oy prog 211 [v,.int .i64 i,.int .i64 ((i:Int)+1)] (.own v 3 1 a7 xs) w λ_ r e' _=>aD r/\e'=.own r 3 1 a7 (xs.eraseIdx i):=by
 have gY:=hw.fC _ aP;obtain⟨aL,bn⟩:=hw.own _ aP;unfold oy;rcases bn with⟨rfl,h0⟩ | ⟨g,cap,cur,rfl,az,eC,bd,hm,ej,gj⟩
 ·omega
 have CV:cur.toList.take xs.length=xs.map (Value.int .i64):=by rw[ara]at gj;rw[gj,Am]
 refine(Any.slices_Delete_int acK g 0 cap i (i+1) xs w (holds_of_blockI eC CV) bd (by unfold maxLen at hm;omega) (by omega) (by omega)).mono ?_;rintro e I ⟨rfl,q,rfl⟩;unfold r1;have bu:xs.length-(i+1-i)=(xs.eraseIdx i).length:=by rw[List.length_eraseIdx,aou hi];omega
 have b2:xs.take i++xs.drop (i+1)=xs.eraseIdx i:=(aqq xs i).symm;have gg:(i+1-i)=1:=by omega
 rw[b2,gg,show xs.length-1=(xs.eraseIdx i).length by omega];have dq:(xs.eraseIdx i++List.replicate 1 (0:Int)).length=xs.length:=by rw[aoy,<-bu,aoX];omega
 have gN:=grownBy_sortedI (w:=w) (g:=g) (n:=q) (os:=#[]) (xs.eraseIdx i++List.replicate 1 (0:Int)).toArray;have lO:=ownsRow_sortedI (base:=0) (n:=q) (os:=#[]) (ts:=xs.eraseIdx i++List.replicate 1 (0:Int)) dq (aoD _) eC bd hm ej;rw[Go.Sort.grow_empty]at gN lO;have ZW:(aB.own (.slice (some ⟨g,0,none⟩) xs.length cap) 3 1 a7 (xs.eraseIdx i++List.replicate 1 (0:Int))).ok (putRow (Value.int .i64) (Sort.ahead w q) g 0 (xs.eraseIdx i++List.replicate 1 (0:Int)).toArray):=by show World.ownsRow _ 0 3 1 _ (xs.eraseIdx i++List.replicate 1 (0:Int)).length ((xs.eraseIdx i++List.replicate 1 (0:Int)).flatMap a7);rw[Am,dq];exact lO
 have hmem:=(zg hw).q9 (i:=0) (e':=.own (.slice (some ⟨g,0,none⟩) xs.length cap) 3 1 a7 (xs.eraseIdx i++List.replicate 1 (0:Int))) rfl gN.os gN.tape gN.output gN.size (λk hk dS=>gN.block k hk λe=>dS (by simp[aB.cN,Value.ownBlock];cases e;rfl)) ZW (λk hk=>apJ (gY k hk) gN.size) λk hk=>.inl hk;have hcut:=hmem.H2 (aX:=Int) 0 rfl (xs.eraseIdx i).length (by rw[aoy];omega);rw[List.take_left' rfl]at hcut;exact⟨_,_,rfl,⟨⟨_,_,_,rfl⟩,rfl⟩,hcut⟩
end Go.Proofs.bA
