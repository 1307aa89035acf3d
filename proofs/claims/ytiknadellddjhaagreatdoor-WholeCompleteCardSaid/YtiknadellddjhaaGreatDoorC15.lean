/- Lemmas for the law WholeComplete. -/
import Derived.Test.YtiknadellddjhaaGreatDoorC05
import Derived.Test.YtiknadellddjhaaGreatDoorC09
set_option linter.all false
open Go.Proofs.Tryz
set_option maxHeartbeats 3200000
open Go Go.b9 Go.bM
attribute [local irreducible] Go.wpList Go.Code.wp Go.bodyPost Go.Exit.then Go.Exit.inBlock Go.Calls
namespace Go.bM
mutual
def k6(S:Nat->Prop)(w:World):e3->Value->Prop
 | .mk _ _ _ l,ao=>∃db:List l3,aZ S w gX 6 ao db/\k5 S w l db
def k5(S:Nat->Prop)(w:World):List e3->List l3->Prop
 | [],db=>db=[]
 | n::r,db=>∃m s,db=m::s/\m.kind=n.kind/\m.e9=n.e9/\m.value=n.value/\k6 S w n m.kids/\k5 S w r s
end
mutual
theorem k6.map{S S':Nat->Prop}{w I:World}(f:∀v db,aZ S w gX 6 v db->aZ S' I gX 6 v db):∀(n:e3) (ao:Value),k6 S w n ao->k6 S' I n ao
 | .mk _ _ _ l,ao=>by unfold k6;rintro⟨db,h1,h2⟩;exact⟨db,f _ _ h1,k5.map f l db h2⟩
theorem k5.map{S S':Nat->Prop}{w I:World}(f:∀v db,aZ S w gX 6 v db->aZ S' I gX 6 v db):∀(l:List e3) (db:List l3),k5 S w l db->k5 S' I l db
 | [],db=>by unfold k5;exact λh=>h
 | n::r,db=>by unfold k5;rintro⟨m,s,h1,h2,h3,aA,a6,cE⟩;exact⟨m,s,h1,h2,h3,aA,k6.map f n _ a6,k5.map f r s cE⟩
end
theorem k5.len{S:Nat->Prop}{w:World}:∀{l:List e3} {db:List l3},k5 S w l db->db.length=l.length
 | [],db=>by unfold k5;rintro rfl;rfl
 | n::r,db=>by unfold k5;rintro⟨m,s,rfl,_,_,_,_,h⟩;rw[aoN,aoN,k5.len h]
theorem k5.get{S:Nat->Prop}{w:World}:∀{l:List e3} {db:List l3} (i:Nat),k5 S w l db->i<l.length->(db.getD i default).kind=(l.getD i default).kind/\(db.getD i default).e9=(l.getD i default).e9/\ (db.getD i default).value=(l.getD i default).value/\k6 S w (l.getD i default) (db.getD i default).kids
 | [],db,i=>by intro _ h;cases h
 | n::r,db,i=>by
  unfold k5;rintro⟨m,s,rfl,h1,h2,h3,aA,a6⟩ hi;cases i with
  | zero=>exact⟨h1,h2,h3,aA⟩
  | succ i=>exact k5.get i a6 (by rw[aoN]at hi;omega)
theorem k6.aK{S:Nat->Prop}{w:World}{n:e3}{ao:Value}(h:k6 S w n ao):aD ao:=by cases n;unfold k6 at h;obtain⟨db,h1,_⟩:=h;exact h1.aK
def iZ(n:e3)(ao:Value):l3:=⟨n.kind,n.e9,n.value,ao⟩
theorem l3.eq{n:e3}{m:l3}(h1:m.kind=n.kind)(h2:m.e9=n.e9)(h3:m.value=n.value):m=iZ n m.kids:=by cases m;unfold iZ;simp_all
def uV(aC:Int)(m:l3)(k:Nat):Bool:=
 if m.kind=2 then decide (k=0)&&lG aC m.e9&&eF m.value
 else decide (m.e9=⟨0,0,bg⟩)&&decide (m.value=0)&&(if m.kind=1 then decide (k=0)else if m.kind=3 then decide (k=1)else decide (m.kind=4\/m.kind=5)&&decide (2<=k))
theorem Gh(aC:Int)(n:e3)(ao:Value):wF aC n=uV aC (iZ n ao) n.kids.length:=by
 have e:n.kids.isEmpty=decide (n.kids.length=0):=by cases n.kids<;>simp
 unfold wF uV iZ;dsimp only;rw[e]
theorem vK{α:Type}[Inhabited α]{l:List α}{i:Nat}(h:i<l.length):l.drop i=l.getD i default::l.drop (i+1):=by rw[aqQ h,aor,aov h];rfl
theorem Vy{a:Int}{l:List e3}{i m d:Nat}(h:i<l.length):nv a (l.drop i) m d=if(iE a (l.getD i default) m d).2=0 then nv a (l.drop (i+1)) (iE a (l.getD i default) m d).1 d else iE a (l.getD i default) m d:=by rw[vK h];rfl
theorem x2(a:Int)(n:e3)(m d:Nat):iE a n m d=if 1024<=m\/64<=d then(m,2)else if wF a n then nv a n.kids (m+1) (d+1)else(m,80):=by cases n;unfold iE;rfl
theorem GZ{n:e3}{i:Nat}(h:i<n.kids.length):SizeOf.sizeOf (n.kids.getD i default)<SizeOf.sizeOf n:=by
 cases n with
 | mk k x v l=>
  have hm:l.getD i default∈l:=by have h:i<l.length:=h;rw[aor,aov h];exact apC h
  have:=List.sizeOf_lt_of_mem hm;show SizeOf.sizeOf (l.getD i default)<_;simp only[e3.mk.sizeOf_spec];omega
theorem k6.kids{S:Nat->Prop}{w:World}{n:e3}{ao:Value}(h:k6 S w n ao):∃db:List l3,aZ S w gX 6 ao db/\k5 S w n.kids db:=by cases n;unfold k6 at h;exact h
end Go.bM
namespace Go.Proofs.bA
theorem XB(aC:Int)(x:cK)(w:World):bl prog 299 [.int .i64 aC,.agg (eH x).toArray] w λ_ v _=>v=.bool (lG aC x):=by
 refine bZ func299 ntmps299 ?_;refine b7 λeQ=>?_;refine bC (λh1=>?_) λh1=>?_
 ·rw[an]at h1;refine U ?_;refine e1 (h:=ev (bb:=λ_ I hw=>Xw _ I)) (ab:=U ?_);refine bT rfl (.t1 rfl) λI hw=>?_;unfold lG;rw[aou h1,cd];rfl
 rw[au]at h1;refine U ?_;refine cz [0,1,2,3,4,5,6,7,8,9,10,11,12,13,14,15,16,17,18,19,20,21,22,23,24,25] mixed ?_;refine aN ?_;refine rE ?_ (h:=ev (bb:=λ_ I hw=>Xz _ I));refine aN ?_;refine bf λI hw=>?_;unfold lG;rw[aot h1,cd,cd,cd,cd,cd];rfl
theorem RT{aC:Int}{m:l3}{k:Nat}(h2:¬m.kind=2)(h:¬(m.e9=⟨0,0,bg⟩/\m.value=0)):uV aC m k=false:=by
 unfold uV;rw[aot h2];by_cases q:m.e9=⟨0,0,bg⟩
 ·rw[aoE (p:=m.value=0) λe=>h ⟨q,e⟩];simp
 rw[aoE q];rfl
theorem uW{aC:Int}{m:l3}{k:Nat}(h2:¬m.kind=2)(h:m.e9=⟨0,0,bg⟩/\m.value=0):uV aC m k=if m.kind=1 then decide (k=0)else if m.kind=3 then decide (k=1)else decide (m.kind=4\/m.kind=5)&&decide (2<=k):=by unfold uV;rw[aot h2,aow h.1,aow h.2];rfl
theorem Xv(aC:Int)(m:l3)(db:List l3)(w:World)(hk:aZ al w gX 6 m.kids db):bl prog 230 [.int .i64 aC,.agg (gX m).toArray] w λ_ v _=>v=.bool (uV aC m db.length):=by
 have hr:=hk.aK;have hle:=hk.le;refine bZ func230 ntmps230 ?_;refine b7 λkt=>?_;refine vk (h:=wN eH m.e9 (⟨0,0,bg⟩:cK)) (ab:=U ?_);refine bC (λh1=>?_) λh1=>?_
 ·simp only[aoo,aox,aoq,au]at h1;refine bf λI hw=>?_;rw[RT h1.1 λq=>h1.2.elim (λh=>h q.1) λh=>h q.2];rfl
 simp only[aoC,aoz,aos,an]at h1;refine a8 (λh2=>?_) λh2=>?_
 ·rw[an]at h2;refine bf λI hw=>?_;rw[uW (by omega) (h1.resolve_left (by omega)),aou h2,cd];exact aoI Value.bool (ao7.2 (by omega))
 rw[au]at h2;refine a8 (λh3=>?_) λh3=>?_
 ·rw[an]at h3;refine U ?_;refine e1 (h:=ev (bb:=λ_ I hw=>XB aC m.e9 I)) (ab:=U ?_);refine e1 (h:=ev (bb:=λ_ I hw=>Xy _ I)) (ab:=U ?_);refine bT rfl (.t1 rfl) λI hw=>?_;unfold uV;rw[aou h3,cd,show decide ((db.length:Int)=0)=decide (db.length=0)from ao7.2 (by omega)];rfl
 rw[au]at h3;have bU:=h1.resolve_left (by omega);refine a8 (λaA=>?_) λaA=>?_
 ·rw[an]at aA;refine bf λI hw=>?_;rw[uW h3 bU,aot h2,aou aA,cd];exact aoI Value.bool (ao7.2 (by omega))
 rw[au]at aA;refine a8 (λa6=>?_) λa6=>?_
 ·refine U ?_;refine cM rfl (λ_=>?_) (λh=>by rw[a6]at h;cases h);rw[an]at a6;refine bf λI hw=>?_;rw[uW h3 bU,aot h2,aot aA,aow (.inl a6),cd];exact aoI Value.bool (ao7.2 (by omega))
 rw[au]at a6;refine a8 (λcE=>?_) λcE=>?_
 ·rw[an]at cE;refine bf λI hw=>?_;rw[uW h3 bU,aot h2,aot aA,aow (.inr cE),cd];exact aoI Value.bool (ao7.2 (by omega))
 rw[au]at cE;refine bf λI hw=>?_;rw[uW h3 bU,aot h2,aot aA,aoE λq=>q.elim a6 cE];rfl
def BY(aC:Int)(ku:Nat)(r:Nat×Int):Nat->Value->List aB->World->Prop:=λ_ v es _=>v=.bool (decide (r.2=0))/\∃q:Int,(r.2=0->q=r.1)/\es=[.box ku [.int .i64 aC,.int .i64 q,.int .i64 r.2] 238]
theorem Vz(a:Int)(n:e3)(m d:Nat)(h:(iE a n m d).2=0):(iE a n m d).1<=max m 1024:=(wZ n m d h).2.2
theorem Xx(aC:Int)(ku:Nat):∀(z:Nat) (n:e3) (ao:Value) (met deep:Nat) (w:World),SizeOf.sizeOf n<z->met<=1024->deep<=64->Mem [] [.box ku [.int .i64 aC,.int .i64 met,.int .i64 0] 238] w-> k6 (bJ [.box ku [.int .i64 aC,.int .i64 met,.int .i64 0] 238]) w n ao-> eY prog 141 [av ku,.agg (gX (iZ n ao)).toArray,.int .i64 deep] [.box ku [.int .i64 aC,.int .i64 met,.int .i64 0] 238] w (BY aC ku (iE aC n met deep)):=by
 intro z
 induction z with
 | zero=>intro n ao met deep w a1;omega
 | succ z bP=>
  intro n ao met deep w a1 aap ZJ y1 bd;obtain⟨db,aj,jR⟩:=bd.kids;have hr:=aj.aK;have hle:=aj.le;have bH:=jR.len;refine sa func141 ntmps141 y1 ?_;refine e4 λkt=>?_;refine c7 1 ?_;refine bC (λh1=>?_) λh1=>?_
  ·simp only[aox,an]at h1;refine af ?_;refine bN 1 ?_;refine eL rfl (.t1 rfl) [_] [1] λI hw=>?_;unfold BY;rw[x2,aou (by omega)];exact⟨rfl,_,λh=>(by cases h),rfl⟩
  simp only[aoz,au]at h1;refine U ?_;refine cz [0,1,2,3,4,5,6,7] mixed ?_;refine bQ ?_;refine bO _ (h:=bp (λI hw=>Xv aC (iZ n ao) db I (hw.now aj)) ?_);rintro v bx bc rfl cu;refine aF (aN ?_) cv;refine a8 (λh2=>?_) λh2=>?_
  ·rw[aoq]at h2;refine af ?_;refine bN 1 ?_;refine eL rfl (.t1 rfl) [_] [1] λI hw=>?_;unfold BY;rw[x2,aot (by omega),Gh aC n ao,<-bH,h2,aot (by simp)];exact⟨rfl,_,λh=>(by cases h),rfl⟩
  rw[aos]at h2;have tK:iE aC n met deep=nv aC n.kids (met+1) (deep+1):=by rw[x2,aot (by omega),Gh aC n ao,<-bH,h2,aou rfl]
  refine U ?_;refine bX (λs:Nat×Nat=>s.1<=db.length/\s.2<=1024/\nv aC (n.kids.drop s.1) s.2 (deep+1)=iE aC n met deep) (λs=>[(43,true,.int .i64 s.1),(42,true,.int .i64 db.length),(41,true,ao),(2,true,.int .i64 deep),(0,true,av ku)]) (λs=>Mem [(w,bJ [.box ku [.int .i64 aC,.int .i64 met,.int .i64 0] 238])] [.box kt (gX (iZ n ao)) 28,.box ku [.int .i64 aC,.int .i64 s.2,.int .i64 0] 238]) (λs=>db.length-s.1) (0,met+1) ⟨aoD _,by dsimp only;omega,tK.symm⟩ ?_ ⟨rfl,rfl,rfl,rfl,rfl,trivial⟩ cv
  rintro⟨i,mt⟩ ⟨hi,CH,jU⟩;dsimp only at hi CH jU⊢;refine a8 (λh3=>?_) λh3=>?_
  ·have dE:i<db.length:=by rw[an]at h3;omega
   obtain⟨g1,g2,g3,g4⟩:=k5.get i jR (by omega);have iK:=g4.aK;have yL:=l3.eq g1 g2 g3;refine U ?_;refine cH λgp=>?_;refine bN 0 ?_;refine cA _ (λ_ h=>h.front 2 rfl) ?_;refine aq (eB (es:=[_]) (bb:=λI hw=>by have:=bP (n.kids.getD i default) (db.getD i default).kids mt (deep+1) I (by have:=GZ (n:=n) (i:=i) (by omega);omega) CH (by omega) hw.dt.ew (g4.map λv db h=>hw.iD h aP λe he=>aoK _ he);rw[<-yL]at this;exact this) (ab:=?_))
   rintro v ck es bY ⟨rfl,q,ba,rfl⟩;refine U ?_;have cS:=Vy (a:=aC) (m:=mt) (d:=deep+1) (show i<n.kids.length by omega);rw[jU]at cS;refine bC (λaA=>?_) λaA=>?_
   ·rw[aoq,aoA]at aA;rw[aot aA]at cS;refine U ?_;refine eL rfl (.t1 rfl) [_] [0] λI hw=>?_;unfold BY;rw[cS,aoE aA];exact⟨rfl,q,λh=>absurd h aA,rfl⟩
   rw[aos,aop]at aA;rw[aou aA]at cS;refine U ?_;have hb:=Vz aC _ _ _ aA;refine bm (i+1,(iE aC (n.kids.getD i default) mt (deep+1)).1) ⟨by dsimp only;omega,by dsimp only;omega,cS.symm⟩ (by dsimp only;omega) (hA:=λ_ h=>?_);have:=(h.last rfl).cC [2,0] (es:=[.box kt (gX (iZ n ao)) 28,.box ku [.int .i64 aC,.int .i64 q,.int .i64 (iE aC (n.kids.getD i default) mt (deep+1)).2] 238]) rfl (by decide);rw[ba aA,aA]at this;exact this
  have dE:i=db.length:=by rw[au]at h3;omega
  refine U ?_;refine eL rfl (.t1 rfl) [_] [1] λI hw=>?_;rw[dE,bH,apT]at jU;unfold BY;rw[<-jU];exact⟨rfl,mt,λ_=>rfl,rfl⟩
theorem Of(aC dH:Int)(n:e3)(ao:Value)(w:World)(bd:k6 al w n ao):bl prog 63 [.int .i64 aC,.agg (.int .i64 dH::gX (iZ n ao)).toArray] w λ_ v _=>v=.int .i64 (o4 aC dH n):=by
 have hr:=bd.aK;refine bZ func63 ntmps63 ?_;refine b7 λfy=>?_;refine aq (bp (λI hw=>Xu _ I) ?_);rintro v bx bc rfl cu;refine U ?_;unfold o4;refine bC (λh1=>?_) λh1=>?_
 ·rw[aoq,aoA]at h1;refine bf λI hw=>?_;rw[aot h1];rfl
 rw[aos,aop]at h1;rw[aou h1];refine a8 (λh2=>?_) λh2=>?_
 ·simp only[aox,an]at h2;refine bf λI hw=>?_;rw[aou (by omega)];rfl
 simp only[aoz,au]at h2;rw[aot (by omega)];refine U ?_;refine cH λku=>?_;refine bN 0 ?_;refine aq (eB (es:=[_]) (H:=[.box fy (.int .i64 dH::gX (iZ n ao)) _]) (bb:=λI hw=>Xx aC ku (SizeOf.sizeOf n+1) n ao 0 0 I (by omega) (by omega) (by omega) hw.dt.ew (bd.map λv db h=>hw.iD h dg λe he=>aoK _ he)) (ab:=?_));rintro v ck es bY ⟨rfl,q,ba,rfl⟩;refine bf λI hw=>?_;rfl
theorem ae3(aC:Int)(x:cK)(w:World):bl prog 351 [.int .i64 aC,.agg (eH x).toArray] w λ_ v _=>v=.bool (lG aC x):=by
 refine bZ func351 ntmps351 ?_;refine b7 λeQ=>?_;refine bC (λh1=>?_) λh1=>?_
 ·rw[an]at h1;refine U ?_;refine e1 (h:=ev (bb:=λ_ I hw=>aeZ _ I)) (ab:=U ?_);refine bT rfl (.t1 rfl) λI hw=>?_;unfold lG;rw[aou h1,cd];rfl
 rw[au]at h1;refine U ?_;refine cz [0,1,2,3,4,5,6,7,8,9,10,11,12,13,14,15,16,17,18,19,20,21,22,23,24,25] mixed ?_;refine aN ?_;refine rE ?_ (h:=ev (bb:=λ_ I hw=>ae2 _ I));refine aN ?_;refine bf λI hw=>?_;unfold lG;rw[aot h1,cd,cd,cd,cd,cd];rfl
theorem ae0(aC:Int)(m:l3)(db:List l3)(w:World)(hk:aZ al w gX 6 m.kids db):bl prog 286 [.int .i64 aC,.agg (gX m).toArray] w λ_ v _=>v=.bool (uV aC m db.length):=by
 have hr:=hk.aK;have hle:=hk.le;have a1:bw ((db.length:Int)=0)=decide (db.length=0):=by rw[cd];exact ao7.2 (by omega)
 refine bZ func286 ntmps286 ?_;refine b7 λkt=>?_;refine cH λakA=>?_;refine bC (λh3=>?_) λh3=>?_
 ·rw[an]at h3;refine U ?_;refine aq (bp (λI hw=>ae3 aC m.e9 I) ?_);rintro v bx bc rfl cu;refine U ?_;refine e1 (h:=ev (bb:=λ_ I hw=>ae1 _ I)) (ab:=U ?_);refine bT rfl (.t1 rfl) λI hw=>?_;unfold uV;rw[aou h3,a1];refine aoI Value.bool ?_;cases lG aC m.e9<;>cases eF m.value<;>cases decide (db.length=0)<;>rfl
 rw[au]at h3;refine U ?_;refine dh (wN eH m.e9 (⟨0,0,bg⟩:cK)) (ab:=U ?_);refine bC (λh1=>?_) λh1=>?_
 ·simp only[aox,aoq,au]at h1;refine bf λI hw=>?_;rw[RT h3 λq=>h1.elim (λh=>h q.1) λh=>h q.2];rfl
 simp only[aoz,aos,an]at h1;refine a8 (λh2=>?_) λh2=>?_
 ·rw[an]at h2;refine bf λI hw=>?_;rw[uW h3 h1,aou h2,a1];rfl
 rw[au]at h2;refine a8 (λaA=>?_) λaA=>?_
 ·rw[an]at aA;refine bf λI hw=>?_;rw[uW h3 h1,aot h2,aou aA,cd];exact aoI Value.bool (ao7.2 (by omega))
 rw[au]at aA;refine a8 (λa6=>?_) λa6=>?_
 ·refine U ?_;refine cM rfl (λ_=>?_) (λh=>by rw[a6]at h;cases h);rw[an]at a6;refine bf λI hw=>?_;rw[uW h3 h1,aot h2,aot aA,aow (.inl a6),cd];exact aoI Value.bool (ao7.2 (by omega))
 rw[au]at a6;refine a8 (λcE=>?_) λcE=>?_
 ·rw[an]at cE;refine bf λI hw=>?_;rw[uW h3 h1,aot h2,aot aA,aow (.inr cE),cd];exact aoI Value.bool (ao7.2 (by omega))
 rw[au]at cE;refine bf λI hw=>?_;rw[uW h3 h1,aot h2,aot aA,aoE λq=>q.elim a6 cE];rfl
theorem ae4(aC:Int):∀(z:Nat) (n:e3) (ao:Value) (met deep:Nat) (w:World),SizeOf.sizeOf n<z->met<=1024->deep<=64->k6 al w n ao-> bl prog 201 [.int .i64 aC,.agg (gX (iZ n ao)).toArray,.int .i64 met,.int .i64 deep] w λ_ v _=>v=.tuple #[.int .i64 (iE aC n met deep).1,.int .i64 (iE aC n met deep).2]:=by
 intro z
 induction z with
 | zero=>intro n ao met deep w a1;omega
 | succ z bP=>
  intro n ao met deep w a1 aap ZJ bd;obtain⟨db,aj,jR⟩:=bd.kids;have hr:=aj.aK;have hle:=aj.le;have bH:=jR.len;refine bZ func201 ntmps201 ?_;refine b7 λkt=>?_;refine bC (λh1=>?_) λh1=>?_
  ·simp only[aox,an]at h1;refine U ?_;refine bT rfl (.tmp rfl (.t1 rfl)) λI hw=>?_;rw[x2,aou (by omega)];rfl
  simp only[aoz,au]at h1;refine U ?_;refine aq (bp (λI hw=>ae0 aC (iZ n ao) db I (hw.now aj)) ?_);rintro v bx bc rfl cu;refine a8 (λh2=>?_) λh2=>?_
  ·rw[aoq]at h2;refine U ?_;refine bT rfl (.tmp rfl (.t1 rfl)) λI hw=>?_;rw[x2,aot (by omega),Gh aC n ao,<-bH,h2,aot (by simp)];rfl
  rw[aos]at h2;have tK:iE aC n met deep=nv aC n.kids (met+1) (deep+1):=by rw[x2,aot (by omega),Gh aC n ao,<-bH,h2,aou rfl]
  refine U ?_;refine bX (λs:Nat×Nat=>s.1<=db.length/\s.2<=1024/\nv aC (n.kids.drop s.1) s.2 (deep+1)=iE aC n met deep) (λs=>[(10,true,.int .i64 s.1),(5,true,av kt),(3,true,.int .i64 deep),(2,true,.int .i64 s.2),(0,true,.int .i64 aC)]) (λs=>Mem [(w,al)] [.box kt (gX (iZ n ao)) 28]) (λs=>db.length-s.1) (0,met+1) ⟨aoD _,by dsimp only;omega,tK.symm⟩ ?_ ⟨rfl,rfl,rfl,rfl,rfl,trivial⟩ cv
  rintro⟨i,mt⟩ ⟨hi,CH,jU⟩;dsimp only at hi CH jU⊢;refine a8 (λh3=>?_) λh3=>?_
  ·have dE:i<db.length:=by rw[an]at h3;omega
   obtain⟨g1,g2,g3,g4⟩:=k5.get i jR (by omega);have yL:=l3.eq g1 g2 g3;refine U ?_;refine aq (hq (bb:=λI hw=>by have:=bP (n.kids.getD i default) (db.getD i default).kids mt (deep+1) I (by have:=GZ (n:=n) (i:=i) (by omega);omega) CH (by omega) (g4.map λv db h=>hw.now h);rw[<-yL]at this;exact this) (ab:=?_))
   rintro v ck bY rfl eZ;refine U ?_;have cS:=Vy (a:=aC) (m:=mt) (d:=deep+1) (show i<n.kids.length by omega);rw[jU]at cS;refine bC (λaA=>?_) λaA=>?_
   ·rw[aoq,au]at aA;rw[aot aA]at cS;refine U ?_;refine bT rfl (.tmp rfl (.t1 rfl)) λI hw=>?_;rw[cS];rfl
   rw[aos,an]at aA;rw[aou aA]at cS;refine U ?_;have hb:=Vz aC _ _ _ aA;exact bm (i+1,(iE aC (n.kids.getD i default) mt (deep+1)).1) ⟨by dsimp only;omega,by dsimp only;omega,cS.symm⟩ (by dsimp only;omega) (hA:=cv)
  have dE:i=db.length:=by rw[au]at h3;omega
  refine U ?_;refine bT rfl (.tmp rfl (.t1 rfl)) λI hw=>?_;rw[dE,bH,apT]at jU;rw[<-jU];rfl
theorem S2(aC dH:Int)(n:e3)(ao:Value)(w:World)(bd:k6 al w n ao):bl prog 115 [.int .i64 aC,.agg (.int .i64 dH::gX (iZ n ao)).toArray] w λ_ v _=>v=.int .i64 (o4 aC dH n):=by
 have hr:=bd.aK;refine bZ func115 ntmps115 ?_;refine b7 λfy=>?_;refine aq (bp (λI hw=>aeW _ I) ?_);rintro v bx bc rfl cu;refine U ?_;unfold o4;refine bC (λh1=>?_) λh1=>?_
 ·rw[aoq,aoA]at h1;refine bf λI hw=>?_;rw[aot h1];rfl
 rw[aos,aop]at h1;rw[aou h1];refine a8 (λh2=>?_) λh2=>?_
 ·simp only[aox,an]at h2;refine bf λI hw=>?_;rw[aou (by omega)];rfl
 simp only[aoz,au]at h2;rw[aot (by omega)];refine U ?_;refine aq (hq (bb:=λI hw=>ae4 aC (SizeOf.sizeOf n+1) n ao 0 0 I (by omega) (by omega) (by omega) (bd.map λv db h=>hw.now h)) (ab:=?_));rintro v ck bY rfl eZ;refine bf λI hw=>?_;rfl
end Go.Proofs.bA
