/- Lemmas for the law WholeComplete. -/
import Derived.Test.YtiknadellddjhaaGreatDoorC46
set_option linter.all false
open Go.Proofs.Tryz
set_option maxHeartbeats 6400000
open Go Go.b9 Go.bM
attribute [local irreducible] Go.wpList Go.Code.wp Go.bodyPost Go.Exit.then Go.Exit.inBlock Go.Calls
namespace Go.Proofs.bA
set_option maxRecDepth 8000 in
theorem Xe(zy zG:Value)(t:aW)(n:Nat)(w:World)(aM:o0 al w zy (qp t))(ba:o0 al w zG (lZ t))(hb:t.J.length<=64)(ma:t.aO.length<=64)(ai:iT t<=65536)(bd:n<=65536): en prog 55 [.agg #[zy,zG],.int .i64 n] w λ_ v es _=>∃dN ib vs,aD dN/\aD ib/\v=.agg #[dN,ib]/\vs.length=t.aO.length/\es=[.own dN 3 1 a7 (la t n).bE,tS 3 33 ib vs (la t n).co]:=by
 obtain⟨wP,QF,ep,tG⟩:=aM;obtain⟨w1,QZ,jU,uP⟩:=ba;have alQ:=QF.aK;have amb:=QZ.aK;have QG:=QF.le;have Q0:=QZ.le;rw[LB]at ep tG;rw[MY]at jU uP;refine hL func55 ntmps55 ?_;refine b7 λfy=>?_;refine cH λh7=>?_;refine ih (λs:Nat×Value×Value=>aD s.2.1/\aD s.2.2) (λs=>[(5,true,.pointer (some ⟨s.1,0,none⟩)),(4,true,av h7),(2,true,av fy),(1,true,.int .i64 n)]) (λs=>Mem [(w,al)] [.box s.1 [s.2.1,s.2.2] 53,.own s.2.2 33 1 ct (List.replicate t.aO.length aa),.own s.2.1 3 1 a7 (List.replicate t.J.length 0),.box h7 [aa,aa] 53,.box fy [zy,zG] 142]) ?_ ?_
 ·refine fw (Mem [(w,al)] [.box h7 [aa,aa] 53,.box fy [zy,zG] 142]) [0,1,2,4,5,6,999] mixed cv ?_;refine aN ?_;rw[ep,jU];refine De 3 7 9 (h1:=?_) (h2:=?_) (h3:=?_)
  ·refine cp [999] _ (h:=gC a7 b9.oE 3 1 8 (.int .i64 0) (ab:=?_));intro aE eo;refine aF ?_ (bD [1,2]);refine mf 7 9 ?_ ?_
   ·refine cp [8,999] _ (h:=gC ct kv 33 1 24 aa (ab:=?_));intro kd qc;refine aF (aN ?_) (bD [2,3]);refine ed 9 ?_;refine cp [10] _ (h:=fb ?_);intro du;refine aF ?_ (bD [3,4]);refine gw (h:=bK 0 (ab:=?_));exact b6 (du,aE,kd) ⟨eo,qc⟩ (hA:=bD [0,1,2,3,4])
   refine cp [999] _ (h:=fb ?_);intro du;refine aF ?_ (bD [2,3]);refine ed 7 ?_;refine cp [8,10] _ (h:=gC ct kv 33 1 24 aa (ab:=?_));intro kd qc;refine aF (aN ?_) (bD [3,4]);refine gw (h:=bK 1 (ab:=?_));exact b6 (du,aE,kd) ⟨eo,qc⟩ (hA:=bD [1,0,2,3,4])
  ·refine cp [999] _ (h:=gC ct kv 33 1 24 aa (ab:=?_));intro kd qc;refine aF ?_ (bD [1,2]);refine mf 3 9 ?_ ?_
   ·refine cp [8,999] _ (h:=gC a7 b9.oE 3 1 8 (.int .i64 0) (ab:=?_));intro aE eo;refine aF (aN ?_) (bD [2,3]);refine ed 9 ?_;refine cp [10] _ (h:=fb ?_);intro du;refine aF ?_ (bD [3,4]);refine gw (h:=bK 0 (ab:=?_));exact b6 (du,aE,kd) ⟨eo,qc⟩ (hA:=bD [0,2,1,3,4])
   refine cp [999] _ (h:=fb ?_);intro du;refine aF ?_ (bD [2,3]);refine ed 3 ?_;refine cp [8,10] _ (h:=gC a7 b9.oE 3 1 8 (.int .i64 0) (ab:=?_));intro aE eo;refine aF (aN ?_) (bD [3,4]);refine gw (h:=bK 1 (ab:=?_));exact b6 (du,aE,kd) ⟨eo,qc⟩ (hA:=bD [1,2,0,3,4])
  refine cp [999] _ (h:=fb ?_);intro du;refine aF ?_ (bD [1,2]);refine mf 3 7 ?_ ?_
  ·refine cp [999] _ (h:=gC a7 b9.oE 3 1 8 (.int .i64 0) (ab:=?_));intro aE eo;refine aF ?_ (bD [2,3]);refine ed 7 ?_;refine cp [8,10] _ (h:=gC ct kv 33 1 24 aa (ab:=?_));intro kd qc;refine aF (aN ?_) (bD [3,4]);refine gw (h:=bK 2 (ab:=?_));exact b6 (du,aE,kd) ⟨eo,qc⟩ (hA:=bD [2,0,1,3,4])
  refine cp [999] _ (h:=gC ct kv 33 1 24 aa (ab:=?_));intro kd qc;refine aF ?_ (bD [2,3]);refine ed 3 ?_;refine cp [8,10] _ (h:=gC a7 b9.oE 3 1 8 (.int .i64 0) (ab:=?_));intro aE eo;refine aF (aN ?_) (bD [3,4]);refine gw (h:=bK 2 (ab:=?_));exact b6 (du,aE,kd) ⟨eo,qc⟩ (hA:=bD [2,1,0,3,4])
 rintro⟨du,aE,kd⟩ ⟨eo,qc⟩;dsimp only at eo qc⊢;refine FX 3 t.aO.length ?_;rw[<-Oj t n,<-TI t n];simp only[aqu,apb];refine U ?_;rw[jU];refine bX (λs:Nat×List Value=>s.1<=t.aO.length/\s.2.length=t.aO.length/\∀v,v∈s.2->aD v) (λs=>[(6,true,.int .i64 ((s.1:Int)-1)),(5,true,av du),(4,true,av h7),(2,true,av fy),(1,true,.int .i64 (oU t n (t.aO.length-s.1):Nat))]) (λs=>Mem [(w,al)] (.box du [aE,kd] 53::.own kd 33 1 ct s.2::.own aE 3 1 a7 (oV t n 0)::.box h7 [aa,aa] 53::.box fy [zy,zG] 142::inner 3 s.2 (ari t n (t.aO.length-s.1)))) (λs=>s.1) (t.aO.length,List.replicate t.aO.length aa) ⟨aoL _,by simp,λv ax=>?_⟩ ?_ ⟨rfl,rfl,rfl,rfl,by rw[ap0];rfl,trivial⟩ (λ_ h=>by rw[ap0];exact h.last rfl)
 ·rw[aqs ax];exact⟨_,_,_,rfl⟩
 rintro⟨j,vs⟩ ⟨ae,gO,iA⟩;dsimp only at ae gO iA⊢;refine a8 (λh1=>?_) λh1=>?_
 ·obtain⟨k,rfl⟩:∃k,j=k+1:=⟨j-1,by rw[an]at h1;omega⟩;clear h1;have fI:((k+1:Nat):Int)-1=(k:Int):=by omega
  rw[fI];have eW:k<t.aO.length:=ae;have aah:k<w1.length:=by omega
  have hx:=uP k eW;rw[Hn t eW]at hx;have hxs:=hx.aK;have jV:=BN hb (k:Int);have I7:=O5 ai eW;have mE:=rr (wr t (k:Int)).length;have xw:cap (fact (wr t (k:Int)).length)=fact (wr t (k:Int)).length:=by unfold cap;omega
  have aaJ:=GJ t n (t.aO.length-(k+1));have qL:ari t n (t.aO.length-(k+1))=ari t n (t.aO.length-(k+1)):=rfl;refine U ?_;refine aq (hq (bb:=λI hw=>HZ (wr t (k:Int)).length I (by omega)) (ab:=?_));rintro v bx bc rfl cu;rw[xw];refine U ?_;have xE:oU t n (t.aO.length-k)=oU t n (t.aO.length-(k+1)) / fact (wr t (k:Int)).length:=by
   have bu:t.aO.length-k=(t.aO.length-(k+1))+1:=by omega
   rw[bu,oU,show t.aO.length-1-(t.aO.length-(k+1))=k by omega]
  refine cz [0,1,2,3,4,5,6,7,8,9,10,11,12,13] mixed ?_;refine aN ?_;refine bO _ (h:=gi (λI hw=>aen _ (wr t (k:Int)) (oU t n (t.aO.length-(k+1)) % fact (wr t (k:Int)).length) I (hw.now hx) (are _ mE) I7 jV) ?_);rintro v ck es bY ⟨hS,rfl⟩;refine aF ?_ λ_ h=>h.cX.tail;have CC:k<vs.length:=by omega
  refine aN ?_;refine gw (h:=fq 2 rfl _ (ab:=U ?_));rw[<-xE];refine bm (k,vs.set k v) ⟨by dsimp only;omega,by simpa using gO,λu hu=>?_⟩ (by dsimp only;omega) (hA:=λI h=>?_)
  ·rcases aqr hu with hu | rfl
   ·exact iA u hu
   exact hS
  have cm:=(h.last rfl).put (k+5);have bu:=Da 3 vs (ari t n (t.aO.length-(k+1))) k v (u3 (wr t (k:Int)) (oU t n (t.aO.length-(k+1)) % fact (wr t (k:Int)).length));have b2:=Oh t n (d:=t.aO.length-(k+1)) (by omega) (k:=k) (by omega) (x:=u3 (wr t (k:Int)) (oU t n (t.aO.length-(k+1)) % fact (wr t (k:Int)).length)) (by unfold tg;rw[show t.aO.length-1-k=t.aO.length-(k+1) by omega]);rw[show t.aO.length-(k+1)+1=t.aO.length-k by omega]at b2;rw[b2]at bu;dsimp only;rw[<-bu];exact cm
 obtain rfl:j=0:=by rw[au]at h1;omega
 clear h1;rw[Nat.sub_zero,z8];refine U ?_;rw[ep];refine bX (λj:Nat=>j<=t.J.length) (λj=>[(8,true,.int .i64 ((j:Int)-1)),(5,true,av du),(4,true,av h7),(2,true,av fy),(1,true,.int .i64 (oo t n (t.J.length-j):Nat))]) (λj=>Mem [(w,al)] (.box du [aE,kd] 53::.own kd 33 1 ct vs::.own aE 3 1 a7 (oV t n (t.J.length-j))::.box h7 [aa,aa] 53::.box fy [zy,zG] 142::inner 3 vs (la t n).co)) (λj=>j) t.J.length (aoL _) ?_ ⟨rfl,rfl,rfl,rfl,by rw[ap0];rfl,trivial⟩ (λ_ h=>by rw[ap0];exact h.last rfl)
 intro j ae;refine a8 (λh1=>?_) λh1=>?_
 ·obtain⟨k,rfl⟩:∃k,j=k+1:=⟨j-1,by rw[an]at h1;omega⟩;clear h1;have fI:((k+1:Nat):Int)-1=(k:Int):=by omega
  rw[fI];have eW:k<t.J.length:=ae;have aah:k<wP.length:=by omega
  have hx:=tG k eW;rw[GG t eW]at hx;have hxs:=hx.aK;have jV:=agl hb k;have AN:=Ts t k;have tF:=LJ t n (t.J.length-(k+1));have alw:=are (oo t n (t.J.length-(k+1))) AN;have xE:oo t n (t.J.length-k)=oo t n (t.J.length-(k+1)) / (jj t k).length:=by
   have bu:t.J.length-k=(t.J.length-(k+1))+1:=by omega
   rw[bu,oo,show t.J.length-1-(t.J.length-(k+1))=k by omega]
  have Qc:k<(oV t n (t.J.length-(k+1))).length:=by rw[GL];exact eW
  refine U ?_;refine cz [0,1,2,3,4,5,6,7,8,9,10,11,12,13,14] mixed ?_;refine aN ?_;refine gw (h:=fq 2 rfl _ (ab:=U ?_));rw[<-xE];refine bm k (by omega) (by omega) (hA:=λI h=>?_);have b2:=TH t n (d:=t.J.length-(k+1)) (by omega) (k:=k) (by omega) (x:=(jj t k).getD (oo t n (t.J.length-(k+1)) % (jj t k).length) default) (by unfold sL;rw[show t.J.length-1-k=t.J.length-(k+1) by omega]);rw[show t.J.length-(k+1)+1=t.J.length-k by omega]at b2;rw[<-b2];exact h
 obtain rfl:j=0:=by rw[au]at h1;omega
 clear h1;rw[Nat.sub_zero,GK];refine U ?_;refine bN 3 ?_;refine cA (Mem [(w,al)] [tS 3 33 kd vs (la t n).co,.box du [aE,kd] 53,.own aE 3 1 a7 (la t n).bE,.box h7 [aE,kd] 53,.box fy [zy,zG] 142]) (λ_ h=>(h.perm ((List.Perm.swap _ _ _).trans (List.Perm.cons _ (apx (l₁:=[_,_,_,_]))))).pack) ?_;exact et rfl (.c1 rfl jC rfl) [_,_] [2,0] λI hw=>⟨aE,kd,vs,eo,qc,rfl,gO,rfl⟩
theorem Mem.tR{bs:List dm}{H:List aB}{w:World}(h:Mem bs H w):Mem bs (.own aa 3 1 a7 []::tS 3 33 aa [] []::H) w:=by have h1:Mem bs (.own aa 33 1 ct []::H) w:=h.new rfl rfl rfl (aoL _) (λ_ _=>rfl) ⟨by simp,.inl ⟨rfl,rfl⟩⟩ (λk hk=>by simp[aB.cN,Value.ownBlock]at hk) (λk hk=>by simp[aB.cN,Value.ownBlock]at hk);have h2:Mem bs (tS 3 33 aa [] []::H) w:=Mem.pack (L:=[.own aa 33 1 ct []]) h1;exact h2.new rfl rfl rfl (aoL _) (λ_ _=>rfl) ⟨by simp,.inl ⟨rfl,rfl⟩⟩ (λk hk=>by simp[aB.cN,Value.ownBlock]at hk) (λk hk=>by simp[aB.cN,Value.ownBlock]at hk)
theorem W6{ak ah aI bv aG aR ad aT bj:Value}{t:aW}(n:Int)(w:World)(h:fB al w ak ah aI bv aG aR ad aT bj t): en prog 17 [.agg #[ak,ah,aI,bv,aG,aR,ad,aT,bj],.int .i64 n] w λ_ v es _=>∃dN ib vs,aD dN/\aD ib/\v=.tuple #[.agg #[dN,ib],.int .i64 (mx t n)]/\vs.length=(oB t n).co.length/\es=[.own dN 3 1 a7 (oB t n).bE,tS 3 33 ib vs (oB t n).co]:=by
 refine hL func17 ntmps17 ?_;refine b7 λaQ=>?_;refine cH λh7=>?_;refine aq (bp (λI hw=>XN I (h.now hw)) ?_);rintro v bx bc ⟨aE,gB,iz,FJ,rfl,cG⟩ cu;refine U ?_;refine cH λfy=>?_;refine bN 0 ?_;have eD:∀{e:Int},mx t n=e->¬e=0->oB t n=tR:=λ{e} he h0=>by unfold oB;rw[he,aot h0]
 refine bC (λh1=>?_) λh1=>?_
 ·rw[aoq,au]at h1;have he:mx t n=ln t:=by unfold mx;rw[aot h1]
  have ai:=eD he h1;refine U ?_;refine bN 1 ?_;refine cA _ (λ_ h=>Mem.tR h) ?_;exact et rfl (.dv rfl jC rfl (.t1 rfl)) [_,_] [0,1] (lu:=rfl) λI hw=>⟨_,_,[],cU,cU,by rw[he];rfl,by rw[ai];rfl,by rw[ai];rfl⟩
 have a1:ln t=0:=by rw[aos,an]at h1;exact h1
 obtain⟨aM,ba⟩:=cG a1;have hok:e0 t=true:=by
  unfold ln at a1;by_cases q:e0 t=true
  ·exact q
  rw[aot q]at a1;cases a1
 have Cu:iT t<=65536:=by
  unfold ln at a1;rw[aou hok]at a1;by_cases q:iT t<=65536
  ·exact q
  rw[aot q]at a1;cases a1
 have iV:nW t=iT t:=by unfold nW;rw[aou hok,aou Cu]
 obtain⟨hb,ma⟩:=kI hok;rw[a1];refine a8 (λh2=>?_) λh2=>?_
 ·have he:mx t n=4:=by simp only[aox,an]at h2;unfold mx;rw[aou a1,aot (by omega)]
  have ai:=eD he (by omega);refine U ?_;refine bN 1 ?_;refine cA _ (λ_ h=>Mem.tR h) ?_;exact et rfl (.dv rfl jC rfl (.t1 rfl)) [_,_] [0,1] (lu:=rfl) λI hw=>⟨_,_,[],cU,cU,by rw[he];rfl,by rw[ai];rfl,by rw[ai];rfl⟩
 simp only[aoz,au]at h2;obtain⟨m,rfl⟩:∃m:Nat,n=m:=⟨n.toNat,by omega⟩;have he:mx t m=0:=by unfold mx;rw[aou a1,aou (by omega)]
 have ai:oB t m=la t m:=by unfold oB;rw[aou he,aoF]
 have eA:(la t m).co.length=t.aO.length:=by rw[<-z8,aro]
 refine U ?_;refine aq (gI (bb:=λI hw=>Xe aE gB t m I (hw.zi aM) (hw.zi ba) hb ma Cu (by omega)) (ab:=?_));rintro v ck es bY ⟨dN,ib,vs,Fy,AF,rfl,gO,rfl⟩;refine U ?_;refine bN 3 ?_;exact et rfl (.dv rfl jC rfl (.t1 rfl)) [_,_] [0,1] (lu:=rfl) λI hw=>⟨dN,ib,vs,Fy,AF,by rw[he];rfl,by rw[ai,eA,gO],by rw[ai]⟩
theorem agS(ak:Value)(l:List Int)(n:Nat)(w:World)(aL:aZ al w a7 1 ak l)(bd:n<fact l.length)(ai:fact l.length<=65536)(hb:l.length<=64): en prog 128 [ak,.int .i64 n] w λ_ r es _=>aD r/\es=[.own r 3 1 a7 (u3 l n)]:=by
 have Jo:=aL.aK;refine hL func128 ntmps128 ?_;refine ea 3 1 a7 ?_;refine aq (uA 0 rfl _ (h:=aL) (bH:=by simp only[ao1,aqX];omega) (ab:=λv ax=>U ?_));refine ea 3 1 a7 ?_;refine bX (λs:(List Int×List Int)×Nat×Value×Value=>(aD s.2.2.1/\aD s.2.2.2)/\s.2.1<fact s.1.1.length/\s.1.1.length<=l.length/\s.1.2.length+s.1.1.length=l.length/\s.1.2++rI s.1.1.length s.1.1 s.2.1=u3 l n) (λs=>[(6,true,s.2.2.1),(5,true,s.2.2.2),(1,true,.int .i64 s.2.1)]) (λs=>Mem [(w,al)] [.own s.2.2.2 3 1 a7 s.1.2,.own s.2.2.1 3 1 a7 s.1.1]) (λs=>s.1.1.length) ((l,[]),n,v,aa) ⟨⟨ax,cU⟩,bd,aoL _,by simp,rfl⟩ ?_ ⟨rfl,rfl,rfl,trivial⟩ cv
 rintro⟨⟨iX,K2⟩,q,lw,aer⟩ ⟨⟨Jq,CM⟩,ba,hle,CS,hinv⟩;dsimp only at Jq CM ba hle CS hinv⊢;refine a8 (λh1=>?_) λh1=>?_
 ·obtain⟨m,hm⟩:∃m,iX.length=m+1:=⟨iX.length-1,by rw[an]at h1;omega⟩;have bu:((iX.length:Nat):Int)-1=((m:Nat):Int):=by omega
  have tA:fact m<=65536:=ao5 (Ak l.length (by omega)) ai;have mE:=rr m;have JC:q<(m+1)* fact m:=by rw[<-Ik,<-hm];exact ba
  have aaf:q / fact m<m+1:=by rw[Nat.div_lt_iff_lt_mul mE];exact JC
  have pI:q / fact m<iX.length:=by omega
  have aaH:q<=65536:=by have:=Ak (i:=iX.length) l.length hle;omega
  refine U ?_;rw[bu];refine aq (hq (bb:=λI hw=>TP m I (by omega) (by omega)) (ab:=?_));rintro v ck bY rfl eZ;refine U ?_;have cS:rI (m+1) iX q=iX.getD (q / fact m) default::rI m (iX.eraseIdx (q / fact m)) (q % fact m):=rfl;generalize q / fact m=k at *;refine aq (eI (ab:=λHe JV=>U ?_));refine aq (e6 1 (hk:=rfl) (hm:=.head _) (bH:=by simp only[aoJ,aoN,ao1];omega) (ab:=λv30 wk=>U ?_));refine dh (Lr (n:=k) (tt:=3) (xs:=iX) (enc:=a7) (b3 rfl) (b3 rfl) hy λ_=>by omega) (v:=vJ k lw) (ab:=U ?_);refine ea 3 1 a7 ?_;refine aq (Px (k:=0) (hk:=rfl) (xs:=([]:List Int)) (ys:=iX.take k) (h:=λw hw=>hw.acV jC k (by omega)) (bH:=by simp only[ao1,aqX,ao3];omega) (ab:=λv37 al2=>U ?_));refine dh (zr a7 3 (k+1) iX (b3 rfl) (b3 rfl) jC λ_=>by omega) (v:=gU 1 (k+1) iX.length lw) (ab:=U ?_);have Fe:(iX.take k).length+(iX.drop (k+1)).length=m:=by rw[ao3,apG];omega
  refine aq (Px (k:=0) (hk:=rfl) (ys:=iX.drop (k+1)) (h:=λw hw=>by have:=(hw.dX).sub (k+1) iX.length (by omega) (aoL _);rwa[aoZ]at this) (bH:=by rw[apb,Fe];omega) (ab:=λVi QS=>U ?_));have CE:(iX.eraseIdx k).length=m:=by rw[List.length_eraseIdx,aou pI];omega
  refine bm ((iX.eraseIdx k,K2++[iX.getD k default]),q % fact m,Vi,v30) ⟨⟨QS,wk⟩,?_,?_,?_,?_⟩ ?_ (hA:=λ_ h=>?_)
  ·dsimp only;rw[CE];exact are _ mE
  ·dsimp only;omega
  ·dsimp only;rw[aoy,aps];omega
  ·dsimp only;rw[CE,aoP,List.singleton_append,<-cS,<-hm];exact hinv
  ·dsimp only;omega
  dsimp only;rw[aqq];exact(h.last rfl).cC [2,0]
 have h0:iX.length=0:=by rw[au]at h1;omega
 rw[h0,rI,aoH]at hinv;refine U ?_;exact et rfl (.t1 rfl) [.own aer 3 1 a7 K2] [0] λI hw=>⟨CM,by rw[hinv];rfl⟩
set_option maxRecDepth 8000 in
theorem agf{ak ah aI bv aG aR ad aT bj:Value}{t:aW}(n:Nat)(w:World)(h:fB al w ak ah aI bv aG aR ad aT bj t)(aJ:e0 t=true)(ai:iT t<=65536)(bd:n<=65536): en prog 57 [.agg #[ak,ah,aI,bv,aG,aR,ad,aT,bj],.int .i64 n] w λ_ v es _=>∃dN ib vs,aD dN/\aD ib/\v=.agg #[dN,ib]/\vs.length=t.aO.length/\es=[.own dN 3 1 a7 (la t n).bE,tS 3 33 ib vs (la t n).co]:=by
 obtain⟨hb,ma⟩:=kI aJ;have cF:=h.J;have c0:=h.aO;have Cp:=cF.le;have yw:=c0.le;refine hL func57 ntmps57 ?_;refine b7 λaQ=>?_;refine cH λh7=>?_;refine cH λdu=>?_;refine aq (gC a7 b9.oE _ _ _ _ (ab:=λaE eo=>U ?_));refine bN 1 ?_;refine aq (gC ct kv _ _ _ _ (ab:=λkd qc=>U ?_));refine aq (bK 2 (ab:=?_));refine cA (Mem [(w,al)] [.box du [aE,kd] 53,.own kd 33 1 ct (List.replicate t.aO.length aa),.own aE 3 1 a7 (List.replicate t.J.length 0),.box h7 [aa,aa] 53,.box aQ [ak,ah,aI,bv,aG,aR,ad,aT,bj] 41]) (bD [2,0,1,3,4]) ?_;refine FX 3 t.aO.length ?_;rw[<-Oj t n,<-TI t n];simp only[aqu,apb];refine U ?_;refine bX (λs:Nat×List Value=>s.1<=t.aO.length/\s.2.length=t.aO.length/\∀v,v∈s.2->aD v) (λs=>[(6,true,.int .i64 ((s.1:Int)-1)),(5,true,av du),(4,true,av h7),(2,true,av aQ),(1,true,.int .i64 (oU t n (t.aO.length-s.1):Nat))]) (λs=>Mem [(w,al)] (.box du [aE,kd] 53::.own kd 33 1 ct s.2::.own aE 3 1 a7 (oV t n 0)::.box h7 [aa,aa] 53::.box aQ [ak,ah,aI,bv,aG,aR,ad,aT,bj] 41::inner 3 s.2 (ari t n (t.aO.length-s.1)))) (λs=>s.1) (t.aO.length,List.replicate t.aO.length aa) ⟨aoL _,by simp,λv ax=>?_⟩ ?_ ⟨rfl,rfl,rfl,rfl,by rw[ap0];rfl,trivial⟩ (λ_ h=>by rw[ap0];exact h.last rfl)
 ·rw[aqs ax];exact⟨_,_,_,rfl⟩
 rintro⟨j,vs⟩ ⟨ae,gO,iA⟩;dsimp only at ae gO iA⊢;refine a8 (λh1=>?_) λh1=>?_
 ·obtain⟨k,rfl⟩:∃k,j=k+1:=⟨j-1,by rw[an]at h1;omega⟩;clear h1;have fI:((k+1:Nat):Int)-1=(k:Int):=by omega
  rw[fI];have eW:k<t.aO.length:=ae;have jV:=BN hb (k:Int);have I7:=O5 ai eW;have mE:=rr (wr t (k:Int)).length;have aaJ:=GJ t n (t.aO.length-(k+1));refine U ?_;refine aq (bp (λI hw=>GW (k:Int) I (h.now hw) hb) ?_);rintro u bx bc hx cu;have hxs:=hx.aK;have oc:aZ (Fr bx) bc a7 1 u (wr t (k:Int)):=hx;refine U ?_;refine aq (hq (bb:=λI hw=>TP (wr t (k:Int)).length I (by omega) (by omega)) (ab:=?_));rintro v ck bY rfl eZ;refine U ?_;have xE:oU t n (t.aO.length-k)=oU t n (t.aO.length-(k+1)) / fact (wr t (k:Int)).length:=by
   have bu:t.aO.length-k=(t.aO.length-(k+1))+1:=by omega
   rw[bu,oU,show t.aO.length-1-(t.aO.length-(k+1))=k by omega]
  refine cz [0,1,2,3,4,5,6,7,8,9] mixed ?_;refine aN ?_;refine bO _ (h:=gi (λI hw=>agS u (wr t (k:Int)) (oU t n (t.aO.length-(k+1)) % fact (wr t (k:Int)).length) I (hw.now oc) (are _ mE) I7 jV) ?_);rintro v hj es fW ⟨hS,rfl⟩;refine aF ?_ λ_ h=>h.cX.tail;have CC:k<vs.length:=by omega
  refine aN ?_;refine gw (h:=fq 2 rfl _ (ab:=U ?_));rw[<-xE];refine bm (k,vs.set k v) ⟨by dsimp only;omega,by simpa using gO,λu hu=>?_⟩ (by dsimp only;omega) (hA:=λI h=>?_)
  ·rcases aqr hu with hu | rfl
   ·exact iA u hu
   exact hS
  have cm:=(h.last rfl).put (k+5);have bu:=Da 3 vs (ari t n (t.aO.length-(k+1))) k v (u3 (wr t (k:Int)) (oU t n (t.aO.length-(k+1)) % fact (wr t (k:Int)).length));have b2:=Oh t n (d:=t.aO.length-(k+1)) (by omega) (k:=k) (by omega) (x:=u3 (wr t (k:Int)) (oU t n (t.aO.length-(k+1)) % fact (wr t (k:Int)).length)) (by unfold tg;rw[show t.aO.length-1-k=t.aO.length-(k+1) by omega]);rw[show t.aO.length-(k+1)+1=t.aO.length-k by omega]at b2;rw[b2]at bu;dsimp only;rw[<-bu];exact cm
 obtain rfl:j=0:=by rw[au]at h1;omega
 clear h1;rw[Nat.sub_zero,z8];refine U ?_;refine bX (λj:Nat=>j<=t.J.length) (λj=>[(9,true,.int .i64 ((j:Int)-1)),(5,true,av du),(4,true,av h7),(2,true,av aQ),(1,true,.int .i64 (oo t n (t.J.length-j):Nat))]) (λj=>Mem [(w,al)] (.box du [aE,kd] 53::.own kd 33 1 ct vs::.own aE 3 1 a7 (oV t n (t.J.length-j))::.box h7 [aa,aa] 53::.box aQ [ak,ah,aI,bv,aG,aR,ad,aT,bj] 41::inner 3 vs (la t n).co)) (λj=>j) t.J.length (aoL _) ?_ ⟨rfl,rfl,rfl,rfl,by rw[ap0];rfl,trivial⟩ (λ_ h=>by rw[ap0];exact h.last rfl)
 intro j ae;refine a8 (λh1=>?_) λh1=>?_
 ·obtain⟨k,rfl⟩:∃k,j=k+1:=⟨j-1,by rw[an]at h1;omega⟩;clear h1;have fI:((k+1:Nat):Int)-1=(k:Int):=by omega
  rw[fI];have eW:k<t.J.length:=ae;have tF:=LJ t n (t.J.length-(k+1));have xE:oo t n (t.J.length-k)=oo t n (t.J.length-(k+1)) / (jj t k).length:=by
   have bu:t.J.length-k=(t.J.length-(k+1))+1:=by omega
   rw[bu,oo,show t.J.length-1-(t.J.length-(k+1))=k by omega]
  have mH:∀x,x=(jj t k).getD (oo t n (t.J.length-(k+1)) % (jj t k).length) default->(oV t n (t.J.length-(k+1))).set k x=oV t n (t.J.length-k):=λx hx=>by have b2:=TH t n (d:=t.J.length-(k+1)) (by omega) (k:=k) (by omega) (x:=x) (by rw[hx];unfold sL;rw[show t.J.length-1-k=t.J.length-(k+1) by omega]);rwa[show t.J.length-(k+1)+1=t.J.length-k by omega]at b2
  have Qc:k<(oV t n (t.J.length-(k+1))).length:=by rw[GL];exact eW
  generalize akW:oV t n (t.J.length-(k+1))=BS at *;refine U ?_;refine aq (fq 2 rfl _ (ab:=U ?_));refine bC (λh2=>?_) λh2=>?_
  ·rw[an]at h2;have h8:jj t k=[-1]:=by unfold jj;rw[aot (by intro h3;rw[h2]at h3;cases h3)]
   have Fx:oo t n (t.J.length-(k+1))=oo t n (t.J.length-k):=by rw[xE,h8];simp
   rw[Fx];refine U ?_;refine bm k (by omega) (by omega) (hA:=λI h=>?_);rw[<-mH (-1) (by rw[h8];simp[Nat.mod_one])];exact h
  rw[au]at h2;have ZG:(t.J.getD k default).dir=1:=ai9 aJ eW h2;have h8:jj t k= -1::wr t (t.J.getD k default).loc:=by unfold jj;rw[aou ZG]
  have jV:=BN hb (t.J.getD k default).loc;generalize lN:(t.J.getD k default).loc=loc at *;refine U ?_;refine cz [0,1,2,3,4,5,6,7,8] mixed ?_;refine aN ?_;rw[lN];refine bO _ (h:=bp (λI hw=>GW loc I (h.now hw) hb) ?_);rintro u ia ig hx xD;have oc:aZ (Fr ia) ig a7 1 u (wr t loc):=hx;have hxs:=oc.aK;refine aF (aN ?_) ek;refine U ?_;have OK:(((wr t loc).length:Nat):Int)+1=(((jj t k).length:Nat):Int):=by rw[h8,aoN];rfl
  have Jl:(jj t k).length=(wr t loc).length+1:=by rw[h8,aoN]
  have alJ:oo t n (t.J.length-(k+1)) % (jj t k).length<(jj t k).length:=are _ (by omega);rw[OK];refine U ?_;rw[OK];refine U ?_;rw[<-xE];generalize oo t n (t.J.length-(k+1)) % (jj t k).length=q at *;refine bC (λh3=>?_) λh3=>?_
  ·rw[an]at h3;have alq:k<(BS.set k (-1)).length:=by rw[aoU];exact Qc
   refine U ?_;refine cz [0,1,2,3,4,5,6,7,8,9] mixed ?_;refine aN ?_;refine gw (h:=fq 2 rfl _ (ab:=U ?_));refine bm k (by omega) (by omega) (hA:=λI h=>?_);rw[<-mH ((wr t loc).getD ((q:Int)-1).toNat default) (by obtain⟨r,rfl⟩:∃r,q=r+1:=⟨q-1,by omega⟩;rw[h8,show(((r+1:Nat):Int)-1).toNat=r by omega];rfl)]
   have cm:=h.last rfl;simp only[List.set_cons_succ,List.set_cons_zero,List.set_set]at cm;exact cm
  rw[au]at h3;obtain rfl:q=0:=by omega
  refine U ?_;refine bm k (by omega) (by omega) (hA:=λI h=>?_);rw[<-mH (-1) (by rw[h8];rfl)];exact h.last rfl
 obtain rfl:j=0:=by rw[au]at h1;omega
 clear h1;rw[Nat.sub_zero,GK];refine U ?_;refine bN 3 ?_;refine cA (Mem [(w,al)] [tS 3 33 kd vs (la t n).co,.box du [aE,kd] 53,.own aE 3 1 a7 (la t n).bE,.box h7 [aE,kd] 53,.box aQ [ak,ah,aI,bv,aG,aR,ad,aT,bj] 41]) (λ_ h=>(h.perm ((List.Perm.swap _ _ _).trans (List.Perm.cons _ (apx (l₁:=[_,_,_,_]))))).pack) ?_;exact et rfl (.c1 rfl jC rfl) [_,_] [2,0] λI hw=>⟨aE,kd,vs,eo,qc,rfl,gO,rfl⟩
theorem agd{ak ah aI bv aG aR ad aT bj:Value}{t:aW}(n:Int)(w:World)(h:fB al w ak ah aI bv aG aR ad aT bj t): en prog 18 [.agg #[ak,ah,aI,bv,aG,aR,ad,aT,bj],.int .i64 n] w λ_ v es _=>∃dN ib vs,aD dN/\aD ib/\v=.tuple #[.agg #[dN,ib],.int .i64 (mx t n)]/\vs.length=(oB t n).co.length/\es=[.own dN 3 1 a7 (oB t n).bE,tS 3 33 ib vs (oB t n).co]:=by
 refine hL func18 ntmps18 ?_;refine b7 λaQ=>?_;refine cH λh7=>?_;refine cH λfy=>?_;refine aq (bp (λI hw=>age I (h.now hw)) ?_);rintro v bx bc rfl cu;refine U ?_;have eD:∀{e:Int},mx t n=e->¬e=0->oB t n=tR:=λ{e} he h0=>by unfold oB;rw[he,aot h0]
 refine bC (λh1=>?_) λh1=>?_
 ·rw[aoq,au]at h1;have he:mx t n=ln t:=by unfold mx;rw[aot h1]
  have ai:=eD he h1;refine U ?_;refine bN 1 ?_;refine cA _ (λ_ h=>Mem.tR h) ?_;exact et rfl (.dv rfl jC rfl (.t1 rfl)) [_,_] [0,1] (lu:=rfl) λI hw=>⟨_,_,[],cU,cU,by rw[he];rfl,by rw[ai];rfl,by rw[ai];rfl⟩
 have a1:ln t=0:=by rw[aos,an]at h1;exact h1
 have hok:e0 t=true:=by
  unfold ln at a1;by_cases q:e0 t=true
  ·exact q
  rw[aot q]at a1;cases a1
 have Cu:iT t<=65536:=by
  unfold ln at a1;rw[aou hok]at a1;by_cases q:iT t<=65536
  ·exact q
  rw[aot q]at a1;cases a1
 have iV:nW t=iT t:=by unfold nW;rw[aou hok,aou Cu]
 obtain⟨hb,ma⟩:=kI hok;rw[a1];refine a8 (λh2=>?_) λh2=>?_
 ·have he:mx t n=4:=by simp only[aox,an]at h2;unfold mx;rw[aou a1,aot (by omega)]
  have ai:=eD he (by omega);refine U ?_;refine bN 1 ?_;refine cA _ (λ_ h=>Mem.tR h) ?_;exact et rfl (.dv rfl jC rfl (.t1 rfl)) [_,_] [0,1] (lu:=rfl) λI hw=>⟨_,_,[],cU,cU,by rw[he];rfl,by rw[ai];rfl,by rw[ai];rfl⟩
 simp only[aoz,au]at h2;obtain⟨m,rfl⟩:∃m:Nat,n=m:=⟨n.toNat,by omega⟩;have he:mx t m=0:=by unfold mx;rw[aou a1,aou (by omega)]
 have ai:oB t m=la t m:=by unfold oB;rw[aou he,aoF]
 have eA:(la t m).co.length=t.aO.length:=by rw[<-z8,aro]
 refine U ?_;refine aq (gI (bb:=λI hw=>agf m I (h.now hw) hok Cu (by omega)) (ab:=?_));rintro v ck es bY ⟨dN,ib,vs,Fy,AF,rfl,gO,rfl⟩;refine U ?_;refine bN 3 ?_;exact et rfl (.dv rfl jC rfl (.t1 rfl)) [_,_] [0,1] (lu:=rfl) λI hw=>⟨dN,ib,vs,Fy,AF,by rw[he];rfl,by rw[ai,eA,gO],by rw[ai]⟩
end Go.Proofs.bA
