/- Lemmas for the law WholeComplete. -/
import Derived.Test.YtiknadellddjhaaGreatDoorC06
set_option linter.all false
open Go.Proofs.Tryz
set_option maxHeartbeats 1600000
open Go Go.b9 Go.gG
namespace Go.Proofs.bA
attribute [local irreducible] wpList Code.wp bodyPost Exit.then Exit.inBlock Calls
instance:s3 prog 178 bB:=⟨Tryz.eqGuardType178,λx y w=>by obtain⟨a,b⟩:=x;obtain⟨c,d⟩:=y;simp[bB,run_equalIn_agg w 9999 178 _ _ (by rw[Program.fieldsOf,underlying178]) Tryz.stoodInHeld178,Program.fieldsOf,underlying178,Op.eqFields,part,isAgg,run_underlying underlying3,run_equalIn_int w 9998 3 .i64 .i64 _ _ underlying3];by_cases h1:a=c<;>by_cases h2:b=d<;>simp[h1,h2]⟩
theorem Iy{aX:Type}[Inhabited aX][DecidableEq aX]{xs ys:List aX}(aL:xs.length=ys.length)(h:∀i,i<xs.length->xs.getD i default=ys.getD i default):xs=ys:=by apply apq aL;intro i h1 h2;have:=h i h1;rwa[aor,aor,aov h1,aov h2]at this
theorem ahr(fe eX:Value)(xs ys:List Int)(w:World)(ay:aZ al w a7 1 fe xs)(hb:aZ al w a7 1 eX ys): bl prog 10 [fe,eX] w λ_ v _=>v=.bool (decide (xs=ys)):=by
 have p9:=ay.le;have ma:=hb.le;refine bZ func10 ntmps10 ?_;refine bC (λh1=>?_) λh1=>?_
 ·refine bf λI hw=>?_;simp only[aoq,au]at h1;have:¬(xs=ys):=by rintro h3;subst h3;omega
  rw[aoE this];rfl
 simp only[aos,an]at h1;have xB:xs.length=ys.length:=by omega
 refine U ?_;refine bX (λk:Nat=>k<=xs.length/\∀i,i<k->xs.getD i default=ys.getD i default) (λk=>[(5,true,.int .i64 k),(0,true,fe),(1,true,eX)]) (λ_=>Mem [(w,al)] []) (λk=>xs.length-k) 0 ⟨by omega,λi hi=>by omega⟩ ?_
 rintro k ⟨hk,bG⟩;refine U ?_;refine rY rfl (λh2=>?_) λh2=>?_
 ·have ix:k<xs.length:=by omega
  have l9:k<ys.length:=by omega
  refine U ?_;refine cz [0,1,2,3,4,5,6,7,8] mixed ?_;refine aN ?_;refine a8 (λh3=>?_) λh3=>?_
  ·refine bf λI hw=>?_;simp only[aoq,au]at h3;have:¬(xs=ys):=by rintro aA;subst aA;exact h3 rfl
   rw[aoE this];rfl
  simp only[aos,an]at h3;refine U ?_;refine bm (k+1) ⟨by omega,λi hi=>?_⟩ (by omega);by_cases mX:i<k
  ·exact bG i mX
  obtain rfl:i=k:=by omega
  exact h3
 refine bf λI hw=>?_;rw[aow (Iy xB λi hi=>bG i (by omega))];rfl
theorem ahs(fe eX:Value)(xs ys:List ca)(w:World)(ay:aZ al w bB 2 fe xs)(hb:aZ al w bB 2 eX ys): bl prog 53 [fe,eX] w λ_ v _=>v=.bool (decide (xs=ys)):=by
 have p9:=ay.le;have ma:=hb.le;refine bZ func53 ntmps53 ?_;refine bC (λh1=>?_) λh1=>?_
 ·refine bf λI hw=>?_;simp only[aoq,au]at h1;have:¬(xs=ys):=by rintro h3;subst h3;omega
  rw[aoE this];rfl
 simp only[aos,an]at h1;have xB:xs.length=ys.length:=by omega
 refine U ?_;refine bX (λk:Nat=>k<=xs.length/\∀i,i<k->xs.getD i default=ys.getD i default) (λk=>[(5,true,.int .i64 k),(0,true,fe),(1,true,eX)]) (λ_=>Mem [(w,al)] []) (λk=>xs.length-k) 0 ⟨by omega,λi hi=>by omega⟩ ?_
 rintro k ⟨hk,bG⟩;refine U ?_;refine rY rfl (λh2=>?_) λh2=>?_
 ·have ix:k<xs.length:=by omega
  have l9:k<ys.length:=by omega
  refine U ?_;refine cz [0,1,2,3,4,5,6,7,8] mixed ?_;refine aN ?_;refine a8 (λh3=>?_) λh3=>?_
  ·refine bf λI hw=>?_;simp only[aoq,au]at h3;have:¬(xs=ys):=by rintro aA;subst aA;exact h3 rfl
   rw[aoE this];rfl
  simp only[aos,an]at h3;refine U ?_;refine bm (k+1) ⟨by omega,λi hi=>?_⟩ (by omega);by_cases mX:i<k
  ·exact bG i mX
  obtain rfl:i=k:=by omega
  exact h3
 refine bf λI hw=>?_;rw[aow (Iy xB λi hi=>bG i (by omega))];rfl
theorem KE(m:Nat)(c5:Nat)[aS prog c5](cap:List Value)(f:Nat->W)(w:World)(fK:m<=64) (hk:∀i I,i<m->Mem [(w,al)] [] I->bl prog c5 (.int .i64 (i:Nat)::cap) I λ_ v _=>v=u64 (f i)): en prog 276 [.int .i64 m,.func (.func c5) #[] cap.toArray] w λ_ v es _=>∃aK,aD aK/\v=.agg #[.int .i64 m,aK]/\es=[eG aK ((List.range m).map f)]:=by
 refine hL func276 ntmps276 ?_;refine cH λaU=>?_;refine aq (gC _ _ _ _ _ _ (ab:=?_));intro aK ax;refine U ?_;refine cH λb=>?_;refine bN 0 ?_;refine bX (λs:Nat×List W=>s.1<=m/\s.2.length=m/\∀i,i<s.1->s.2.getD i default=f i) (λs=>[(12,true,.int .i64 s.1),(11,true,.int .i64 m),(5,true,av b),(4,true,av aU),(1,true,.func (.func c5) #[] cap.toArray)]) (λs=>Mem [(w,al)] [.box b [.int .i64 m,aK] 113,eG aK s.2,.box aU [.int .i64 0,aa] 113]) (λs=>m-s.1) (0,List.replicate m 0#64) ⟨by simp,by simp,λi hi=>by simp at hi⟩ ?_
 rintro⟨k,rows⟩ ⟨ix,bH,bG⟩;dsimp only at ix bH bG⊢;refine U ?_;refine rY rfl (λh2=>?_) λh2=>?_
 ·refine U ?_;refine cz [0,1,2,3,4,5,6,7] mixed ?_;refine aN ?_;refine bO _ (h:=hq (bb:=λI qe=>hk k I (by omega) (qe.cC [])) (ab:=?_));rintro v ck bY rfl eZ;refine aF (aN ?_) ek;refine gw (h:=fq 1 rfl _ (ab:=U ?_));refine bm (k+1,rows.set k (f k)) ⟨by dsimp only;omega,by simp[bH],λi hi=>?_⟩ (by dsimp only;omega) (hA:=ek);dsimp only at hi⊢;rw[aor,aqV];by_cases mX:k=i
  ·subst mX;simp[show k<rows.length from by omega]
  rw[aot mX,<-aor];exact bG i (by omega)
 refine U ?_;refine bN 2 ?_;refine et rfl (.c1 rfl hy rfl) [eG aK rows] [1] λI hw=>?_;refine⟨aK,ax,rfl,?_⟩;rw[Iy (xs:=rows) (ys:=(List.range m).map f) (by simp[bH]) λi hi=>by rw[bG i (by omega),aor,ao4,apk (by omega)];rfl]
theorem Xl(i m:Nat)(dT:Nat)(aK:Value)(rows:List W)(w:World)(hi:i<rows.length)(hb:gQ al w dT [.int .i64 m,aK])(h:aZ al w fJ 1 aK rows): bl prog 278 [.int .i64 i,av dT] w λ_ v _=>v=u64 (rows.getD i default):=by refine bZ func278 ntmps278 ?_;exact bT rfl (.t1 rfl) λI hw=>rfl
theorem Xn(m:Nat)(aK:Value)(rows:List W)(w:World)(h:aZ al w fJ 1 aK rows)(fK:m<=64)(bH:rows.length=m): en prog 194 [.agg #[.int .i64 m,aK]] w λ_ v es _=>∃Mm,aD Mm/\v=.agg #[.int .i64 m,Mm]/\es=[eG Mm (uq m rows)]:=by
 refine hL func194 ntmps194 ?_;refine b7 λdT=>?_;refine cH λaU=>?_;refine aq (gI (bb:=λI hw=>KE m 278 [av dT] (λi=>rows.getD i default) I fK λi bY hi ht=>Xl i m dT aK rows bY (by omega) ((hw.eQ dg trivial).mono (ht.base _ aP) λ_=>trivial) (ht.now (hw.now h) aP)) (ab:=?_))
 rintro v n es bc ⟨s1,fA,rfl,rfl⟩;rw[KG m rows bH];refine U ?_;refine cH λdu=>?_;refine bN 0 ?_;refine bX (λs:Nat×List W=>s.1<=m/\s.2.length=m/\s.2=(List.range s.1).foldl (xg m) rows) (λs=>[(12,true,.int .i64 s.1),(11,true,.int .i64 m),(3,true,av du),(2,true,av aU),(1,true,av dT)]) (λs=>Mem [(w,al)] [.box du [.int .i64 m,s1] 113,eG s1 s.2,.box aU [.int .i64 0,aa] 113,.box dT [.int .i64 m,aK] 113]) (λs=>m-s.1) (0,rows) ⟨by simp,bH,rfl⟩ ?_ ⟨rfl,rfl,rfl,rfl,rfl,trivial⟩ ek
 rintro⟨k,cur⟩ ⟨hk,eA,Cv⟩;dsimp only at hk eA Cv⊢;refine U ?_;refine rY rfl (λh2=>?_) λh2=>?_
 ·refine U ?_;refine bX (λs:Nat×List W=>s.1<=m/\s.2.length=m/\s.2=(List.range s.1).foldl (th k) cur) (λs=>[(17,true,.int .i64 s.1),(16,true,.int .i64 m),(4,true,.int .i64 k),(12,true,.int .i64 k),(11,true,.int .i64 m),(3,true,av du),(2,true,av aU),(1,true,av dT)]) (λs=>Mem [(w,al)] [.box du [.int .i64 m,s1] 113,eG s1 s.2,.box aU [.int .i64 0,aa] 113,.box dT [.int .i64 m,aK] 113]) (λs=>m-s.1) (0,cur) ⟨by simp,eA,rfl⟩ ?_
  rintro⟨i,c2⟩ ⟨hi,Fb,IT⟩;dsimp only at hi Fb IT⊢;refine U ?_;refine rY rfl (λh3=>?_) λh3=>?_
  ·have yI:i<c2.length:=by omega
   have l9:k<c2.length:=by omega
   have JN:=foldl_succ (th k) cur i;rw[<-IT]at JN;refine a8 (λaA=>?_) λaA=>?_
   ·rw[cd,Eo _ k (by omega)]at aA;refine U ?_;refine cz [0,1,2,3,4,5,6,7,8,9,10,11,12] mixed ?_;refine aN ?_;refine gw (h:=fq 1 rfl _ (ab:=U ?_));refine bm (i+1,c2.set i (c2.getD i default||| c2.getD k default)) ⟨by dsimp only;omega,by simp[Fb],?_⟩ (by dsimp only;omega);dsimp only;rw[JN];unfold th;rw[aou aA]
   rw[cd,Eo _ k (by omega)]at aA;refine U ?_;refine bm (i+1,c2) ⟨by dsimp only;omega,Fb,?_⟩ (by dsimp only;omega);dsimp only;rw[JN];unfold th;rw[aot (by rw[aA];simp)]
  refine U ?_;refine bm (k+1,c2) ⟨by dsimp only;omega,Fb,?_⟩ (by dsimp only;omega);dsimp only;rw[foldl_succ,<-Cv,IT,show i=m from by omega];rfl
 refine U ?_;refine bN 2 ?_;refine et rfl (.c1 rfl hy rfl) [eG s1 cur] [1] λI hw=>?_;refine⟨s1,fA,rfl,?_⟩;rw[Cv,show k=m from by omega];rfl
theorem U7(m:Nat)(aK:Value)(rows:List W)(w:World)(h:aZ al w fJ 1 aK rows)(fK:m<=64)(bH:rows.length=m): bl prog 100 [.agg #[.int .i64 m,aK]] w λ_ v _=>v=.bool (rT m rows):=by
 refine bZ func100 ntmps100 ?_;refine b7 λdT=>?_;refine aq (gi (λI hw=>Xn m aK rows I (hw.now h) fK bH) ?_);rintro v ck es bY ⟨s1,fA,rfl,rfl⟩;have eA:(uq m rows).length=m:=by rw[Xm,bH]
 refine U ?_;refine cH λfy=>?_;refine bN 0 ?_;refine bX (λk:Nat=>k<=m/\∀i,i<k->((uq m rows).getD i default).getLsbD i=false) (λk=>[(9,true,.int .i64 k),(8,true,.int .i64 m),(3,true,av fy),(1,true,av dT)]) (λ_=>Mem [(w,al)] [.box fy [.int .i64 m,s1] 113,eG s1 (uq m rows),.box dT [.int .i64 m,aK] 113]) (λk=>m-k) 0 ⟨by omega,λi hi=>by omega⟩ ?_ ⟨rfl,rfl,rfl,rfl,trivial⟩ ek
 rintro k ⟨hk,bG⟩;refine U ?_;refine rY rfl (λh2=>?_) λh2=>?_
 ·have l9:k<(uq m rows).length:=by omega
  refine a8 (λaA=>?_) λaA=>?_
  ·rw[cd,Eo _ k (by omega)]at aA;refine bf λI hw=>?_;have:rT m rows=true:=by unfold rT;rw[apH];exact⟨k,by rw[aoQ];omega,aA⟩
   rw[this];rfl
  rw[cd,Eo _ k (by omega)]at aA;refine U ?_;refine bm (k+1) ⟨by omega,λi hi=>?_⟩ (by omega);by_cases mX:i<k
  ·exact bG i mX
  obtain rfl:i=k:=by omega
  exact aA
 refine bf λI hw=>?_;have:rT m rows=false:=by unfold rT;rw[aqp];intro i hi;rw[aoQ]at hi;rw[bG i (by omega)];simp
 rw[this];rfl
abbrev A9(v:Value)(xs:List Int):aB:=.own v 3 1 a7 xs
theorem ac4(n:Int)(aK:Value)(rows:List W)(w:World)(h:aZ al w fJ 1 aK rows): en prog 101 [.agg #[.int .i64 n,aK]] w λ_ v es _=>
  if fG n rows=true then if rT n.toNat rows=true then v=.tuple #[aa,.int .i64 12]/\es=[]else ∃hW,aD hW/\v=.tuple #[hW,.int .i64 0]/\es=[A9 hW (Ku n.toNat rows)]
  else v=.tuple #[aa,.int .i64 10]/\es=[]:=by
 refine hL func101 ntmps101 ?_;refine b7 λdT=>?_;refine aq (bp (λI hw=>z6 n aK rows I (hw.now h)) ?_);rintro v bx bc rfl cu;by_cases hok:fG n rows=true
 ·simp only[aou hok];obtain⟨m,rfl,sq,bH⟩:=u6 hok;refine U ?_;refine cM rfl (λh1=>by simp[cd]at h1) λ_=>?_;refine U ?_;refine aq (bp (λI hw=>U7 m aK rows I (hw.now h) sq bH) ?_);rintro v ck bY rfl eZ;refine a8 (λh1=>?_) λh1=>?_
  ·refine U ?_;refine et rfl (.tmp rfl (.t1 rfl)) [] [] λI hw=>?_;rw[aou (by simpa using h1)];exact⟨rfl,rfl⟩
  refine U ?_;refine ea 3 1 a7 ?_;refine U ?_;refine bX (λs:Nat×W×Value×List Int=>s.1<=m/\aD s.2.2.1/\(s.2.1,s.2.2.2)=rF m rows s.1) (λs=>[(19,true,.int .i64 s.1),(18,true,.int .i64 m),(5,true,u64 s.2.1),(6,true,s.2.2.1),(1,true,av dT)]) (λs=>Mem [(w,al)] [A9 s.2.2.1 s.2.2.2,.box dT [.int .i64 m,aK] 113]) (λs=>m-s.1) (0,0#64,aa,[]) ⟨by simp,⟨_,_,_,rfl⟩,rfl⟩ ?_ ⟨rfl,rfl,rfl,rfl,rfl,trivial⟩ λ_ h=>h.cX.cX
  rintro⟨k,dD,v,xs⟩ ⟨hk,ax,hF⟩;dsimp only at hk ax hF⊢;refine U ?_;refine rY rfl (λh2=>?_) λh2=>?_
  ·have jV:xs.length<=k:=by have:=ac2 m rows k;rw[<-hF]at this;exact this
   have aj:=Kt m rows k;rw[<-hF]at aj;refine U ?_;refine bX (λs:Nat×W=>s.1<=m/\s.2=vD rows dD s.1) (λs=>[(23,true,.int .i64 s.1),(22,true,.int .i64 m),(7,true,u64 s.2),(19,true,.int .i64 k),(18,true,.int .i64 m),(5,true,u64 dD),(6,true,v),(1,true,av dT)]) (λ_=>Mem [(w,al)] [A9 v xs,.box dT [.int .i64 m,aK] 113]) (λs=>m-s.1) (0,0#64) ⟨by simp,rfl⟩ ?_
   rintro⟨i,B6⟩ ⟨hi,vU⟩;dsimp only at hi vU⊢;refine U ?_;refine rY rfl (λh3=>?_) λh3=>?_
   ·have yI:i<rows.length:=by omega
    have hb:=NP rows dD i;rw[<-vU]at hb;refine a8 (λaA=>?_) λaA=>?_
    ·rw[cd,A2 _ i (by omega),aoq]at aA;rw[aot (by rw[aA];simp)]at hb;refine U ?_;exact bm (i+1,B6||| rows.getD i default) ⟨by dsimp only;omega,hb.symm⟩ (by dsimp only;omega)
    rw[cd,A2 _ i (by omega),aos]at aA;rw[aou aA]at hb;refine U ?_;exact bm (i+1,B6) ⟨by dsimp only;omega,hb.symm⟩ (by dsimp only;omega)
   obtain rfl:i=m:=by omega
   refine U ?_;refine bX (λj:Nat=>j<=i/\∀q,q<j->(dD||| B6).getLsbD q=true) (λj=>[(42,true,.int .i64 j),(41,true,.int .i64 i),(7,true,u64 B6),(19,true,.int .i64 k),(18,true,.int .i64 i),(5,true,u64 dD),(6,true,v),(1,true,av dT)]) (λ_=>Mem [(w,al)] [A9 v xs,.box dT [.int .i64 i,aK] 113]) (λj=>i-j) 0 ⟨by omega,λq ba=>by omega⟩ ?_
   rintro j ⟨ae,bG⟩;refine U ?_;refine rY rfl (λa6=>?_) λa6=>?_
   ·refine a8 (λcE=>?_) λcE=>?_
    ·rw[cd,A2 _ j (by omega),aoq]at cE;have hf:=YQ i _ j (by omega) cE bG;unfold ze at aj;simp only[<-vU,hf]at aj;refine U ?_;refine aq (eI (ab:=?_));intro v4 uO;refine U ?_;refine aq (e6 1 (hk:=rfl) (bH:=by simp;omega) (ab:=?_));intro v5 nI;refine U ?_;rw[Gi j (by omega)];exact bm (k+1,dD||| 1#64<<<j,v5,xs++[(j:Int)]) ⟨by dsimp only;omega,nI,aj.symm⟩ (by dsimp only;omega) (hA:=b4 [1,2])
    rw[cd,A2 _ j (by omega),aos]at cE;refine U ?_;refine bm (j+1) ⟨by omega,λq ba=>?_⟩ (by omega);by_cases Qu:q<j
    ·exact bG q Qu
    obtain rfl:q=j:=by omega
    exact cE
   have hf:=YP i (dD||| B6) λq ba=>bG q (by omega);unfold ze at aj;simp only[<-vU,hf]at aj;refine U ?_;exact bm (k+1,dD,v,xs) ⟨by dsimp only;omega,ax,aj.symm⟩ (by dsimp only;omega)
  refine U ?_;refine et rfl (.tmp rfl (.t1 rfl)) [A9 v xs] [0] λI hw=>?_;rw[aot (by simpa using h1)];refine⟨v,ax,rfl,?_⟩;unfold Ku;obtain rfl:k=m:=by omega
  rw[aoF,<-hF]
 simp only[aot hok];refine U ?_;refine cM rfl (λ_=>?_) (λh1=>by simp[cd]at h1);refine U ?_;refine et rfl (.tmp rfl (.t1 rfl)) [] [] λI hw=>?_;exact⟨rfl,rfl⟩
end Go.Proofs.bA
namespace Go.b9
open Go Go.RowKit
theorem Mem.ad1{aX:Type}{bs:List dm}{H:List aB}{w:World}(e sz:Nat)(enc:aX->List Value)(hw:Mem bs H w):Mem bs (.own aa e sz enc []::H) w:=by refine hw.new rfl rfl rfl (aoL _) (λ_ _=>rfl) ⟨by simp,.inl ⟨rfl,rfl⟩⟩ (λk hk=>?_) (λk hk=>?_)<;>simp[aB.cN,Value.ownBlock]at hk
theorem en.KV{aX:Type}{P:Program}{k:FuncId}{args:List Value}{w:World}{Ψ sW:Nat->Value->List aB->World->Prop}(e sz:Nat)(enc:aX->List Value)(h:en P k args w Ψ) (hi:∀n v es I,Ψ n v es I->sW n v es I\/(es=[]/\sW n v [.own aa e sz enc []] I)):en P k args w sW:=
 Calls.mono h λx I cm=>by
  unfold rj at cm⊢;obtain⟨v,es,h1,h2,h3⟩:=cm;rcases hi _ v es I h2 with aA | ⟨rfl,aA⟩
  ·exact⟨v,es,h1,aA,h3⟩
  exact⟨v,_,h1,aA,h3.ad1 e sz enc⟩
end Go.b9
namespace Go.gG
def KX(n:Int)(l:List ca):Int:=if(rH n l).isSome=true then n else 0
def KY(n:Int)(l:List ca):List W:=(rH n l).getD []
def Bb(n:Int)(rows:List W):List ca:=if fG n rows=true then nM n.toNat rows else []
end Go.gG
namespace Go.Proofs.bA
attribute [local irreducible] wpList Code.wp bodyPost Exit.then Exit.inBlock Calls
def Nh(n:Int)(l:List ca):Nat->Value->List aB->World->Prop:=λ_ v es _=>∃aK,aD aK/\v=.tuple #[.agg #[.int .i64 (KX n l),aK],.int .i64 (vP (rH n l).isSome)]/\es=[eG aK (KY n l)]
theorem k2:aD aa:=⟨_,_,_,rfl⟩
theorem ad5(n:Int)(ak:Value)(l:List ca)(w:World)(h:aZ al w bB 2 ak l):en prog 190 [.int .i64 n,ak] w (Nh n l):=
 (ad6 n ak l w h).KV 81 1 fJ λ_ v es _ eJ=>by
  unfold Nh KX KY;cases aj:rH n l with
  | none=>rw[aj]at eJ;obtain⟨rfl,rfl⟩:=eJ;exact .inr ⟨rfl,_,k2,rfl,rfl⟩
  | some rows=>rw[aj]at eJ;obtain⟨aK,hr,rfl,rfl⟩:=eJ;exact .inl ⟨aK,hr,rfl,rfl⟩
def Ni(n:Int)(rows:List W):Nat->Value->List aB->World->Prop:=λ_ v es _=>∃hW,aD hW/\v=.tuple #[hW,.int .i64 (vP (fG n rows))]/\es=[jE hW (Bb n rows)]
theorem SI(n:Int)(aK:Value)(rows:List W)(w:World)(h:aZ al w fJ 1 aK rows)(bL:lK w):en prog 188 [.agg #[.int .i64 n,aK]] w (Ni n rows):=
 (aew n aK rows w h bL).KV 178 2 bB λ_ v es _ eJ=>by
  unfold Ni Bb vP;by_cases hok:fG n rows=true
  ·simp only[aou hok]at eJ⊢;exact .inl eJ
  simp only[aot hok]at eJ⊢;obtain⟨rfl,rfl⟩:=eJ;exact .inr ⟨rfl,_,k2,rfl,rfl⟩
theorem lK.now{w I:World}{bs:List dm}{H:List aB}(h:lK w)(hw:Mem bs H I)(hB:(w,al)∈bs:=by repeat (first | exact List.Mem.head _ | refine List.Mem.tail _ ?_)):lK I:=hw.now h hB
end Go.Proofs.bA
namespace Go.b9
open Go Go.RowKit
def tQ(r:Nat)(es:List MapEntry)(k:Nat):aB:=.gen [r] λw=>w.heap[r]?=some (.map es.toArray k)
theorem RP{r k:Nat}{es:List MapEntry}{w:World}(h:w.heap[r]?=some (.map es.toArray k)):(tQ r es k).ok w:=λI cm=>(cm r (by simp)).trans h
theorem RO{r k:Nat}{es:List MapEntry}{w:World}(h:(tQ r es k).ok w):w.heap[r]?=some (.map es.toArray k):=h w λ_ _=>rfl
theorem agY{P:Program}{w:World}{mg:TypeId}{x:Int}(hd:P.underlying mg=some (.int .i64))(e:Bool)(n:Nat):(Instr.checkKey e (n+1) mg (.int .i64 x)).run P w=.ok () w:=by unfold Instr.checkKey;simp only[Sem.run_bind,run_underlying hd,Result.andThen];rfl
theorem TX{P:Program}{w:World}{mg:TypeId}{x:Int}(hd:P.underlying mg=some (.int .i64))(e:Bool):(Instr.checkKey e 10000 mg (.int .i64 x)).run P w=.ok () w:=agY hd e 9999
theorem TZ{P:Program}{w:World}{mg:TypeId}{k:Value}{l:List MapEntry}{a:Option (Nat×Value)}(hd:P.underlying mg=some (.int .i64))(h:Instr.findNow (.int .i64) k l 0=some a):(Instr.findKey mg k l).run P w=.ok a w:=by simp[Instr.findKey,run_underlying hd,Result.andThen,h]
theorem Bu{P:Program}{w:World}{r:Nat}{es:Array MapEntry}{k:Nat}(hb:w.heap[r]?=some (.map es k)):(getObj r).run P w=.ok (.map es k) w:=by simp[getObj,Sem.run,hb]
theorem L2{P:Program}{w:World}{r:Nat}{es:Array MapEntry}{k:Nat}(o:Obj)(hb:w.heap[r]?=some (.map es k)):(setObj r o).run P w=.ok () {w with heap:=w.heap.setIfInBounds r o}:=by simp[setObj,Sem.run,hb]
theorem T1{P:Program}(t:TypeId)(w:World):(Instr.makeMap t none).run P w=.ok (.map (some w.heap.size)) (w.alloc (.map #[] 0)):=rfl
section
variable {P:Program} {N:Nat} {tm:dY} {bs:List dm} {H:List aB} {K:Act->World->Prop} {Q:Exit->Act->World->Prop} {A:World->Prop} {c:Bool}
theorem YV{d:Nat}{t:TypeId}(hd:Nat.blt d N=true:=by rfl) (ab:∀r,cR N K ((d,true,.map (some r))::tm) (Mem bs (tQ r [] 0::H))):gz P N (.makeMap t none) (some d) Q tm (Mem bs H) K:=by
 unfold gz cR at *;intro a w ty pos cV g aj hw;unfold Oper.wp;have aM:(execOp a.eval ⟨some d,.makeMap t none,ty,pos,cV,g⟩).run P w=.ok (.value (.map (some w.heap.size))) (w.alloc (.map #[] 0)):=by simp only[execOp,Option.map_none,Sem.run_bind,T1,Result.andThen];rfl
 rw[aM];refine ab _ _ _ (by simpa using aj.put (apv.mp hd) true _) (hw.new rfl rfl rfl (by simp) (λk hk=>heap_alloc_old w _ hk) (RP (heap_alloc_new w _)) (λk hk=>?_) λk hk=>?_)
 ·simp only[tQ,aB.cN,aoB]at hk;subst hk;simp
 simp only[tQ,aB.cN,aoB]at hk;omega
theorem xp{t mg xj r k:Nat}{n:Int}{v:Value}{es:List MapEntry}{m x y:Operand}[aJ:jr P t (.map mg xj)][hk:jr P mg (.int .i64)](i:Nat) (hi:H[i]?=some (tQ r es k)) (hm:bt tm true m (.map (some r)):=by exact(b3 rfl)) (hx:bt tm true x (.int .i64 n):=by exact(b3 rfl)) (aY:bt tm true y v:=by exact(b3 rfl)) (hf:Instr.findNow (.int .i64) (.int .i64 n) es 0=some none:=by rfl) (ab:cR N K tm (Mem bs (H.set i (tQ r (es++[⟨.int .i64 n,v,k⟩]) (k+1))))):gz P N (.insert t m x y) none Q tm (Mem bs H) K:=by
 unfold gz cR at *;intro a w ty pos cV g aj hw;unfold Oper.wp;have hb:=RO (hw.own _ (aoM hi));have ep:r<w.heap.size:=by
  rcases ao6 r w.heap.size with q | q
  ·exact q
  rw[apD q]at hb;cases hb
 have aM:(execOp a.eval ⟨none,.insert t m x y,ty,pos,cV,g⟩).run P w=.ok .skip {w with heap:=w.heap.setIfInBounds r (.map (es.toArray.push ⟨.int .i64 n,v,k⟩) (k+1))}:=by simp[execOp,hm.get aj rfl,hx.get aj rfl,aY.get aj rfl,Instr.mapUpdate,run_underlying aJ.h,Bu hb,TX hk.h,TZ hk.h hf,L2 _ hb,Result.andThen]
 rw[aM];refine ab a _ aj (hw.q9 hi rfl rfl rfl (by simp) (λj _ ae=>?_) (RP ?_) (λj ae=>?_) λj ae=>.inl ae)
 ·simp only[tQ,aB.cN,aoB]at ae;simp[Array.getElem?_setIfInBounds,show ¬r=j from λe=>ae e.symm]
 ·simp[ep]
 simp only[tQ,aB.cN,aoB]at ae;subst ae;simpa using ep
theorem afL{t mg xj r k j:Nat}{n:Int}{v:Value}{es:List MapEntry}{m x:Operand}[aJ:jr P t (.map mg xj)][hk:jr P mg (.int .i64)] (hm:bt tm c m (.map (some r))) (hx:bt tm c x (.int .i64 n)) (hmem:tQ r es k∈H) (hf:Instr.findNow (.int .i64) (.int .i64 n) es 0=some (some (j,v))):bW P N (.lookup t m x false) tm (Mem bs H) c v:=by unfold bW;intro ai a w d ty pos cV g cy hw;have hb:=RO (hw.own _ hmem);simp only[execOp,hm.get cy ai,hx.get cy ai];refine hX ?_;simp[Instr.lookup,run_underlying aJ.h,Bu hb,TX hk.h,TZ hk.h hf,Result.andThen]
theorem tT{x:Operand}{dJ:Addr}(hx:bt tm c x (.pointer (some dJ)):=by exact cb):bW P N (.nilCheck x) tm A c (.pointer (some dJ)):=by unfold bW;intro ai a w d ty pos cV g cy hw;simp only[execOp,hx.get cy ai];simp
end
end Go.b9
attribute [local irreducible] Go.wpList Go.Code.wp Go.bodyPost Go.Exit.then Go.Exit.inBlock Go.Calls
namespace Go.Proofs.bA
def uh(n:Int)(rows:List W)(e:Int):Nat->Value->List aB->World->Prop:=λ_ v es _=>∃aK,aD aK/\v=.tuple #[.agg #[.int .i64 n,aK],.int .i64 e]/\es=[eG aK rows]
theorem aex(i m:Nat)(di dT B9:Nat)(f t:W)(aK:Value)(rows:List W)(w:World)(hi:i<rows.length)(fK:i<64) (hf:gQ al w di [u64 f]) (ay:gQ al w dT [.int .i64 m,aK]) (aJ:gQ al w B9 [u64 t]) (h:aZ al w fJ 1 aK rows): bl prog 346 [.int .i64 i,av di,av dT,av B9] w λ_ v _=>v=u64 (if f.getLsbD i=true then rows.getD i default&&& t else 0#64):=by
 refine bZ func346 ntmps346 ?_;refine bC (λh1=>?_) λh1=>?_
 ·rw[cd,A2 _ i fK]at h1;refine bf λI hw=>?_;rw[aot (by simpa using h1)];rfl
 rw[cd,A2 _ i fK]at h1;refine U ?_;refine cz [0,1,2,3,4,5,6,7] mixed ?_;refine aN ?_;refine bf λI hw=>?_;rw[aou (by simpa using h1)];rfl
theorem aey(n:Int)(aK:Value)(f t:W)(rows:List W)(w:World)(h:aZ al w fJ 1 aK rows): en prog 281 [.agg #[.int .i64 n,aK],u64 f,u64 t] w (uh (KU (fG n rows) n) (K9 n rows f t) (vP (fG n rows))):=by
 unfold KU vP K9;refine hL func281 ntmps281 ?_;refine b7 λdT=>?_;refine b7 λdi=>?_;refine b7 λB9=>?_;refine cH λaU=>?_;refine aq (bp (λI hw=>z6 n aK rows I (hw.now h)) ?_);rintro v bx bc rfl cu;by_cases hok:fG n rows=true
 ·simp only[aou hok];obtain⟨m,rfl,sq,bH⟩:=u6 hok;refine U ?_;refine cM rfl (λh1=>by simp[cd]at h1) λ_=>?_;refine U ?_;refine aq (gI (bb:=λI hw=>KE m 346 [av di,av dT,av B9] (λi=>if f.getLsbD i=true then rows.getD i default&&& t else 0#64) I sq λi bY hi ht=>
   aex i m di dT B9 f t aK rows bY (by omega) (by omega) ((hw.eQ hy trivial).mono (ht.base _ aP) λ_=>trivial) ((hw.eQ jC trivial).mono (ht.base _ aP) λ_=>trivial) ((hw.eQ dg trivial).mono (ht.base _ aP) λ_=>trivial) (ht.now (hw.now h) aP)) (ab:=?_))
  rintro v n es bc ⟨s1,fA,rfl,rfl⟩;refine U ?_;refine bN 1 ?_;refine et rfl (.dv rfl dg rfl (.t1 rfl)) [eG s1 _] [0] λI hw=>?_;refine⟨s1,fA,rfl,?_⟩;rw[RS m _ (λa b=>aQ rows a b&&f.getLsbD a&&t.getLsbD b) sq λi j hi _=>?_];rfl;have hb:=LI hok i j;unfold aQ at hb⊢;by_cases hf:f.getLsbD i=true
  ·rw[aou hf,aqc,hf,aqx];by_cases ae:j<m
   ·simp[ae]
   rw[hb (by omega)];simp
  rw[aot hf];simp[hf]
 simp only[aot hok];refine U ?_;refine cM rfl (λ_=>?_) (λh1=>by simp[cd]at h1);refine U ?_;refine bN 0 ?_;refine ea 81 1 fJ ?_;refine et rfl (.dv rfl dg rfl (.t1 rfl)) [_] [0] λI hw=>?_;exact⟨_,k2,rfl,rfl⟩
theorem ajh(a:Int)(fe:Value)(dN:List W)(b:Int)(eX:Value)(gx:List W)(w:World)(ay:aZ al w fJ 1 fe dN)(hb:aZ al w fJ 1 eX gx): bl prog 275 [.agg #[.int .i64 a,fe],.agg #[.int .i64 b,eX]] w λ_ v _=>v=.int .i64 (oG a dN b gx):=by
 unfold oG;refine bZ func275 ntmps275 ?_;refine b7 λdT=>?_;refine b7 λdf=>?_;refine aq (bp (λI hw=>z6 a fe dN I (hw.now ay)) ?_);rintro v bx bc rfl cu;refine U ?_;refine e1 (h:=ev (bb:=λ_ I hw=>z6 b eX gx I (hw.now hb))) (ab:=U ?_);have bu:∀x:Bool,bw ((if x=true then(0:Int)else 10)=0)=x:=λx=>by cases x<;>simp[cd]
 refine bC (λh1=>?_) λh1=>?_
 ·rw[bu,bu]at h1;refine bf λI hw=>?_;rw[aot (by simp only[aox,aoq]at h1;rcases h1 with h1 | h1<;>simp[h1])];rfl
 rw[bu,bu]at h1;have bU:(fG a dN&&fG b gx)=true:=by simp only[aoz,aos]at h1;simp[h1]
 refine a8 (λh2=>?_) λh2=>?_
 ·refine bf λI hw=>?_;rw[aou bU,aot (by simpa[cd]using h2)];rfl
 refine bf λI hw=>?_;rw[aou bU,aou (by simpa[cd]using h2)];rfl
theorem adE(i:Nat)(a b:Int)(fe eX:Value)(dN gx:List W)(c5:Nat)[aS prog c5](cap:List Value)(z:W)(di dT df:Nat)(w:World)(Fi:i<dN.length)(pb:i<gx.length) (hf:gQ al w di [.func (.func c5) #[] cap.toArray]) (Zu:gQ al w dT [.int .i64 a,fe]) (pa:gQ al w df [.int .i64 b,eX]) (ay:aZ al w fJ 1 fe dN) (hb:aZ al w fJ 1 eX gx) (hk:∀I,Mem [(w,al)] [] I->bl prog c5 (u64 (dN.getD i default)::u64 (gx.getD i default)::cap) I λ_ v _=>v=u64 z): bl prog 277 [.int .i64 i,av di,av dT,av df] w λ_ v _=>v=u64 z:=by refine bZ func277 ntmps277 ?_;refine cz [0,1,2,3,4,5,6,7,8,9,10,11,12] mixed ?_;refine aN ?_;refine bO _ (h:=bp (λI qe=>hk I qe) ?_);rintro v ck bY rfl eZ;refine aF (aN ?_) ek;refine U ?_;exact bT rfl (.t1 rfl) λI hw=>rfl
theorem Sa(a:Int)(fe:Value)(dN:List W)(b:Int)(eX:Value)(gx:List W)(c5:Nat)[aS prog c5](cap:List Value)(f:Nat->W)(p:Nat->Nat->Bool)(w:World)(ay:aZ al w fJ 1 fe dN)(hb:aZ al w fJ 1 eX gx) (hp:oG a dN b gx=0->∀i j,i<a.toNat->j<64->(f i).getLsbD j=(decide (j<a.toNat)&&p i j)) (hk:oG a dN b gx=0->∀i I,i<a.toNat->Mem [(w,al)] [] I->bl prog c5 (u64 (dN.getD i default)::u64 (gx.getD i default)::cap) I λ_ v _=>v=u64 (f i)): en prog 192 [.agg #[.int .i64 a,fe],.agg #[.int .i64 b,eX],.func (.func c5) #[] cap.toArray] w (uh (ck (oG a dN b gx) a) (if oG a dN b gx=0 then b1 a.toNat p else []) (oG a dN b gx)):=by
 refine hL func192 ntmps192 ?_;refine b7 λdT=>?_;refine b7 λdf=>?_;refine b7 λdi=>?_;refine cH λaU=>?_;refine aq (bp (λI hw=>ajh a fe dN b eX gx I (hw.now ay) (hw.now hb)) ?_);rintro v bx bc rfl cu;refine a8 (λh1=>?_) λh1=>?_
 ·have bU:¬oG a dN b gx=0:=by simpa[cd]using h1
  rw[aot bU,ck,aot bU];refine U ?_;refine bN 0 ?_;refine ea 81 1 fJ ?_;refine et rfl (.dv rfl dg rfl (.t1 rfl)) [_] [0] λI hw=>?_;exact⟨_,k2,rfl,rfl⟩
 have bU:oG a dN b gx=0:=by simpa[cd]using h1
 rw[aou bU,ck,aou bU,bU];have tD:=hp bU;have l9:=hk bU;clear hp hk;obtain⟨AF,Qi,rfl⟩:=Ih bU;obtain⟨m,rfl,sq,bH⟩:=u6 AF;obtain⟨m',kA,_,xB⟩:=u6 Qi;obtain rfl:m=m':=by omega
 rw[aoF]at tD l9⊢;refine U ?_;refine aq (gI (bb:=λI hw=>KE m 277 [av di,av dT,av df] f I sq λi bY hi ht=>
  adE i m m fe eX dN gx c5 cap (f i) di dT df bY (by omega) (by omega) ((hw.eQ dg trivial).mono (ht.base _ aP) λ_=>trivial) ((hw.eQ jC trivial).mono (ht.base _ aP) λ_=>trivial) ((hw.eQ hy trivial).mono (ht.base _ aP) λ_=>trivial) (ht.now (hw.now ay) aP) (ht.now (hw.now hb) aP) λfW J0=>l9 i fW hi (KM (hw.last rfl) ht J0)) (ab:=?_))
 rintro v n es bc ⟨s1,fA,rfl,rfl⟩;refine U ?_;refine bN 1 ?_;refine et rfl (.dv rfl dg rfl (.t1 rfl)) [eG s1 _] [0] λI hw=>?_;refine⟨s1,fA,rfl,?_⟩;rw[RS m f p sq tD]
theorem ajm(x y:W)(w:World):bl prog 193 [u64 x,u64 y] w λ_ v _=>v=u64 (x||| y):=by refine bZ func193 ntmps193 ?_;exact bT rfl (.t1 rfl) λI hw=>rfl
theorem acX(x y:W)(w:World):bl prog 347 [u64 x,u64 y] w λ_ v _=>v=u64 (x&&& ~~~ y):=by refine bZ func347 ntmps347 ?_;exact bT rfl (.t1 rfl) λI hw=>rfl
theorem E0(dN:List W)(m i j:Nat)(h:fG m dN=true):(dN.getD i default).getLsbD j=(decide (j<m)&&(dN.getD i default).getLsbD j):=by
 by_cases ae:j<m
 ·simp[ae]
 have:=LI h i j (by omega);unfold aQ at this;rw[this];simp
theorem ajn(a:Int)(fe:Value)(dN:List W)(b:Int)(eX:Value)(gx:List W)(w:World)(ay:aZ al w fJ 1 fe dN)(hb:aZ al w fJ 1 eX gx): en prog 98 [.agg #[.int .i64 a,fe],.agg #[.int .i64 b,eX]] w (uh (ck (oG a dN b gx) a) (Gc (· ||·) a dN b gx) (oG a dN b gx)):=by
 refine hL func98 ntmps98 ?_;refine b7 λdT=>?_;refine b7 λdf=>?_;refine cH λaU=>?_;refine aq (gI (cap:=[]) (bb:=λI hw=>Sa a fe dN b eX gx 193 [] (λi=>dN.getD i default||| gx.getD i default) (λi j=>(· ||·) (aQ dN i j) (aQ gx i j)) I (hw.now ay) (hw.now hb) (λhe i j hi ae=>?_) λ_ i bY _ _=>ajm _ _ bY) (ab:=?_))
 ·obtain⟨h1,h2,rfl⟩:=Ih he;obtain⟨m,rfl,sq,bH⟩:=u6 h1;rw[aoF];simp only[aQ];by_cases yK:j<m
  ·simp[yK,ae]
  have bu:=E0 dN m i j h1;have b2:=E0 gx m i j h2;simp only[yK,aqY,apy]at bu b2;simp only[ap2,aqc,BitVec.getLsbD_not,bu,b2,yK];simp
 rintro v bx es bc ⟨s1,fA,rfl,rfl⟩;refine U ?_;refine bN 1 ?_;exact et rfl (.dv rfl dg rfl (.t1 rfl)) [eG s1 _] [0] λI hw=>⟨s1,fA,rfl,rfl⟩
theorem acY(a:Int)(fe:Value)(dN:List W)(b:Int)(eX:Value)(gx:List W)(w:World)(ay:aZ al w fJ 1 fe dN)(hb:aZ al w fJ 1 eX gx): en prog 282 [.agg #[.int .i64 a,fe],.agg #[.int .i64 b,eX]] w (uh (ck (oG a dN b gx) a) (Gc (λx y=>x&&!y) a dN b gx) (oG a dN b gx)):=by
 refine hL func282 ntmps282 ?_;refine b7 λdT=>?_;refine b7 λdf=>?_;refine cH λaU=>?_;refine aq (gI (cap:=[]) (bb:=λI hw=>Sa a fe dN b eX gx 347 [] (λi=>dN.getD i default&&& ~~~ gx.getD i default) (λi j=>(λx y=>x&&!y) (aQ dN i j) (aQ gx i j)) I (hw.now ay) (hw.now hb) (λhe i j hi ae=>?_) λ_ i bY _ _=>acX _ _ bY) (ab:=?_))
 ·obtain⟨h1,h2,rfl⟩:=Ih he;obtain⟨m,rfl,sq,bH⟩:=u6 h1;rw[aoF];simp only[aQ];by_cases yK:j<m
  ·simp[yK,ae]
  have bu:=E0 dN m i j h1;have b2:=E0 gx m i j h2;simp only[yK,aqY,apy]at bu b2;simp only[ap2,aqc,BitVec.getLsbD_not,bu,b2,yK];simp
 rintro v bx es bc ⟨s1,fA,rfl,rfl⟩;refine U ?_;refine bN 1 ?_;exact et rfl (.dv rfl dg rfl (.t1 rfl)) [eG s1 _] [0] λI hw=>⟨s1,fA,rfl,rfl⟩
end Go.Proofs.bA
namespace Go.gG
theorem W3(rows:List W)(i:Nat)(r:W)(a b:Nat)(hi:i<rows.length):aQ (rows.set i r) a b=if a=i then r.getLsbD b else aQ rows a b:=by
 unfold aQ;rw[aor,aqV];by_cases h:i=a
 ·subst h;simp[hi]
 rw[aot h,aot λe=>h e.symm,<-aor]
theorem XT(k:Nat)(rows:List W)(i a b:Nat)(hi:i<rows.length):aQ (th k rows i) a b=(aQ rows a b||(decide (a=i)&&aQ rows i k&&aQ rows k b)):=by
 unfold th;by_cases h:(rows.getD i default).getLsbD k=true
 ·rw[aou h,W3 _ _ _ _ _ hi,ap2];have cm:aQ rows i k=true:=h;by_cases ay:a=i
  ·subst ay;simp[cm];rfl
  simp[ay]
 rw[aot h];have cm:aQ rows i k=false:=by simpa[aQ]using h
 simp[cm]
theorem XR(k:Nat)(rows:List W)(n:Nat)(bd:n<=rows.length):((List.range n).foldl (th k) rows).length=rows.length/\∀a b,aQ ((List.range n).foldl (th k) rows) a b=(aQ rows a b||(decide (a<n)&&aQ rows a k&&aQ rows k b)):=by
 induction n with
 | zero=>simp
 | succ n bP=>
  obtain⟨aL,bP⟩:=bP (by omega);rw[foldl_succ];refine⟨by rw[OD,aL],λa b=>?_⟩;rw[XT _ _ _ _ _ (by omega),bP,bP,bP];by_cases ay:a=n
  ·subst ay;simp only[aqN,aqY,apy,aq1,decide_true,apE,apN];cases aQ rows a b<;>cases aQ rows a k<;>cases aQ rows k b<;>cases aQ rows k k<;>simp
  rw[show decide (a<n+1)=decide (a<n)from ao7.2 (by omega)];simp[ay]
theorem XQ(m k:Nat)(rows:List W)(hm:rows.length=m)(a b:Nat):aQ (xg m rows k) a b=(aQ rows a b||(aQ rows a k&&aQ rows k b)):=by
 unfold xg;rw[(XR k rows m (by omega)).2];by_cases ay:a<m
 ·simp[ay]
 rw[N5 rows a k (by omega)];simp
inductive mR(p:Nat->Nat->Bool):Nat->Nat->Prop where
 | one {a b:Nat}:p a b=true->mR p a b
 | more {a b c:Nat}:mR p a b->p b c=true->mR p a c
theorem mR.trans{p:Nat->Nat->Bool}{a b c:Nat}(h:mR p a b)(h2:mR p b c):mR p a c:=by
 induction h2 with
 | one h3=>exact .more h h3
 | more _ h3 bP=>exact .more bP h3
theorem mR.within{p q:Nat->Nat->Bool}(Qq:∀a b,p a b=true->q a b=true)(aJ:∀a b c,q a b=true->q b c=true->q a c=true){a b:Nat}(h:mR p a b):q a b=true:=by
 induction h with
 | one h3=>exact Qq _ _ h3
 | more _ h3 bP=>exact aJ _ _ _ bP (Qq _ _ h3)
def rb(m:Nat)(rows:List W)(n:Nat):List W:=(List.range n).foldl (xg m) rows
theorem Vu(m:Nat)(rows:List W)(n:Nat):(rb m rows n).length=rows.length:=It _ (λr k=>OC m k r) _ _
theorem MS(m:Nat)(rows:List W)(n:Nat)(hm:rows.length=m)(a b:Nat):aQ (rb m rows (n+1)) a b=(aQ (rb m rows n) a b||(aQ (rb m rows n) a n&&aQ (rb m rows n) n b)):=by show aQ ((List.range (n+1)).foldl (xg m) rows) a b=_;rw[foldl_succ,show(List.range n).foldl (xg m) rows=rb m rows n from rfl,XQ m n _ ((Vu m rows n).trans hm)]
theorem ajS(m:Nat)(rows:List W)(hm:rows.length=m)(n a b:Nat)(h:aQ (rb m rows n) a b=true):mR (aQ rows) a b:=by
 induction n generalizing a b with
 | zero=>exact .one h
 | succ n bP=>
  rw[MS m rows n hm,aox,aoo]at h;rcases h with h | ⟨h1,h2⟩
  ·exact bP a b h
  exact(bP _ _ h1).trans (bP _ _ h2)
theorem ajR(m:Nat)(rows:List W)(hm:rows.length=m)(n a b:Nat)(h:aQ rows a b=true):aQ (rb m rows n) a b=true:=by
 induction n with
 | zero=>exact h
 | succ n bP=>rw[MS m rows n hm,bP];rfl
theorem ajT(m:Nat)(rows:List W)(hm:rows.length=m)(n k:Nat)(hk:k<n)(a b:Nat)(h1:aQ (rb m rows n) a k=true)(h2:aQ (rb m rows n) k b=true):aQ (rb m rows n) a b=true:=by
 induction n generalizing k a b with
 | zero=>omega
 | succ n bP=>
  rw[MS m rows n hm,aox,aoo]at h1 h2⊢;by_cases hg:k=n
  ·subst hg;have bu:aQ (rb m rows k) a k=true:=by rcases h1 with h | ⟨h,_⟩<;>exact h
   have b2:aQ (rb m rows k) k b=true:=by rcases h2 with h | ⟨_,h⟩<;>exact h
   exact .inr ⟨bu,b2⟩
  have fk:k<n:=by omega
  rcases h1 with h1 | ⟨h1,bU⟩
  ·rcases h2 with h2 | ⟨h2,bq⟩
   ·exact .inl (bP k fk a b h1 h2)
   exact .inr ⟨bP k fk a n h1 h2,bq⟩
  rcases h2 with h2 | ⟨h2,bq⟩
  ·exact .inr ⟨h1,bP k fk n b bU h2⟩
  exact .inr ⟨h1,bq⟩
theorem Ce{m:Nat}{rows:List W}(h:fG m rows=true)(a b:Nat):aQ (uq m rows) a b=true↔mR (aQ rows) a b:=by
 obtain⟨m',kA,hok⟩:=(GI _ _).1 h;obtain rfl:m=m':=by omega
 have hm:=hok.len;refine⟨ajS m rows hm m a b,λaM=>?_⟩;refine mR.within (q:=aQ (rb m rows m)) (λa b h=>ajR m rows hm m a b h) (λa k b h1 h2=>?_) aM;by_cases hk:k<m
 ·exact ajT m rows hm m k hk a b h1 h2
 rw[N5 _ k b (by rw[Vu];omega)]at h2;cases h2
def left(m:Nat)(V:Nat->Bool):Nat:=(List.range m).countP λb=>!V b
end Go.gG
namespace Go.Proofs.bA
def ints(ts:List Nat):List Int:=ts.map λ(t:Nat)=>(t:Int)
end Go.Proofs.bA
namespace Go.gG
def Hc(m:Nat)(a b:List W):List W:=b1 m λi j=>aQ a i j||aQ b i j
theorem OX{m:Nat}{a b:List W}(ib:fG m a=true)(wH:fG m b=true):oG m a m b=0:=by unfold oG;simp[ib,wH]
theorem u5(m:Nat)(p:Nat->Nat->Bool)(h:m<=64)(i j:Nat)(hi:i<m)(ae:j<m):aQ (b1 m p) i j=p i j:=by rw[Bm m p h];simp[hi,ae]
end Go.gG
namespace Go.Proofs.bA
section
variable {m:Nat} {fe eX:Value} {a b:List W} {w:World} (ib:fG m a=true) (wH:fG m b=true) (ay:aZ al w fJ 1 fe a) (hb:aZ al w fJ 1 eX b)
include ib wH ay hb
theorem BG:en prog 98 [.agg #[.int .i64 m,fe],.agg #[.int .i64 m,eX]] w (uh m (Hc m a b) 0):=by have:=ajn m fe a m eX b w ay hb;unfold Gc at this;rw[OX ib wH]at this;exact this
end
end Go.Proofs.bA
