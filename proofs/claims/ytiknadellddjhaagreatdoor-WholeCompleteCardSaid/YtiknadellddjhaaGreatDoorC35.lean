/- Lemmas for the law WholeComplete. -/
import Derived.Test.YtiknadellddjhaaGreatDoorC28
import Derived.Test.YtiknadellddjhaaGreatDoorC34
set_option linter.all false
open Go.Proofs.Tryz
set_option maxHeartbeats 6400000
open Go Go.b9 Go.bM Go.gG Go.fo
attribute [local irreducible] Go.wpList Go.Code.wp Go.bodyPost Go.Exit.then Go.Exit.inBlock Go.Calls
namespace Go.Proofs.bA
def mn(t:aV)(bk:Nat)(j:Nat):List eO:=(t.init.take j).foldl (λl x=>if x.aH=(bk:Int)then l.set x.bo.toNat (oL x)else l) (List.replicate (cn t.aC) ⟨.num 0,0#64⟩)
theorem LS(t:aV)(bk:Nat){j:Nat}(ae:j<t.init.length):mn t bk (j+1)=if(t.init.getD j default).aH=(bk:Int)then(mn t bk j).set (t.init.getD j default).bo.toNat (oL (t.init.getD j default))else mn t bk j:=by unfold mn;rw[apn,getD_some ae,ap9];rfl
theorem agP(t:aV)(bk:Nat):mn t bk t.init.length=sK t (bk:Int):=by unfold mn sK;rw[aoZ]
theorem LQ(t:aV)(bk:Nat):∀j,j<=t.init.length->(mn t bk j).length=cn t.aC
 | 0,_=>by unfold mn;simp
 | j+1,h=>by
  rw[LS t bk (by omega)];split
  ·rw[aoU,LQ t bk j (by omega)]
  exact LQ t bk j (by omega)
theorem LR(t:aV)(bk:Nat):∀j,j<=t.init.length->∀i,((mn t bk j).getD i default).on=0#64
 | 0,_,i=>by unfold mn;rw[List.take_zero,List.foldl_nil,aor,apj];split<;>rfl
 | j+1,h,i=>by
  rw[LS t bk (by omega)];split
  ·rw[fU];split
   ·rfl
   exact LR t bk j (by omega) i
  exact LR t bk j (by omega) i
def VR(t:aV)(ah ad ao:Value)(bk:Nat)(ak:Value)(ahead:Nat):Nat->Value->List aB->World->Prop:=λ_ r es _=>∃(aU:Nat) (q:j0),j0.ok q/\r=av aU/\es=cP aU t ah ad ao (bk:Int) ak ahead q (fm t bk) false
theorem ai2(t:aV)(ah ad ao:Value)(vs:List Value)(bk:Nat)(ak:Value)(ahead:Nat)(w:World)(tB:aD ak)(bL:gW al w ah ad ao vs t)(G:∀x,x∈t.init->x.aH=(bk:Int)->0<=x.bo/\x.bo<cn t.aC): en prog 23 [.agg (c6 t ah ad ao).toArray,.int .i64 (bk:Int),ak,.int .i64 (ahead:Int)] w (VR t ah ad ao bk ak ahead):=by
 obtain⟨s1,s2,cJ⟩:=bL.jY;have fs:=bL.init;have hle:=fs.le;refine Ag func23 ntmps23 ?_;refine e4 λaQ=>?_;refine ih (λn:Nat=>n=cn t.aC) (λn=>[(9,true,.int .i64 (n:Int)),(4,true,av aQ),(3,true,.int .i64 (ahead:Int)),(2,true,ak),(1,true,.int .i64 (bk:Int))]) (λ_=>Mem [(w,al)] [.box aQ (c6 t ah ad ao) 32]) ?_ ?_
 ·refine bC (λh1=>?_) λh1=>?_
  ·rw[an]at h1;refine af ?_;exact b6 32 (by unfold cn;rw[aou h1])
  rw[au]at h1;refine af ?_;exact b6 15 (by unfold cn;rw[aot h1])
 rintro n rfl;have JH:cn t.aC<=32:=by unfold cn;split<;>omega
 refine af ?_;refine cz [0,1,2,3,5,4,6,7,8] mixed ?_;refine bQ ?_;refine bO _ (h:=gC e5 OH 165 5 _ _ (n:=(cn t.aC:Int)) (m:=(cn t.aC:Int)) (ab:=?_));intro v21 CW;rw[aoF];refine aF (bQ ?_) iR;refine bO _ (h:=ru ?_);intro aU;refine aF (bQ ?_) λ_ h=>h.tail.tail;refine cA (Mem [(w,al)] [.box aU (gK t ah ad ao (bk:Int) ak ⟨v21,aa,aa,aa,aa,aa⟩ 0#64 ahead false) 85,.own v21 165 5 e5 (List.replicate (cn t.aC) (.nilIface,0#64)),.box aQ (c6 t ah ad ao) 32]) (λ_ h=>h) (af ?_);refine bX (λi:Nat=>i<=cn t.aC) (λi=>[(30,true,.int .i64 i),(29,true,.int .i64 (List.replicate (cn t.aC) ((.nilIface,0#64):Value×BitVec 64)).length),(10,true,av aU),(4,true,av aQ),(1,true,.int .i64 (bk:Int))]) (λi=>Mem [(w,al)] [.box aU (gK t ah ad ao (bk:Int) ak ⟨v21,aa,aa,aa,aa,aa⟩ 0#64 ahead false) 85,.own v21 165 5 e5 ((List.replicate i (⟨.num 0,0#64⟩:eO)).map c9++List.replicate (cn t.aC-i) (.nilIface,0#64)),.box aQ (c6 t ah ad ao) 32]) (λi=>cn t.aC-i) 0 (aoD _) ?_
 intro i hi;have iy:(List.replicate (cn t.aC) ((.nilIface,0#64):Value×BitVec 64)).length=cn t.aC:=aoX;have eA:((List.replicate i (⟨.num 0,0#64⟩:eO)).map c9++List.replicate (cn t.aC-i) (Value.nilIface,0#64)).length=cn t.aC:=by rw[aoy,aoJ,aoX,aoX];omega
 refine dp (λh1=>?_) λh1=>?_
 ·have bU:i<cn t.aC:=by rw[an,iy]at h1;omega
  refine af ?_;refine dh (wD (b3 rfl)) (ab:=af ?_);have az:((List.replicate i (⟨.num 0,0#64⟩:eO)).map c9++List.replicate (cn t.aC-i) (Value.nilIface,0#64)).getD i default=(Value.nilIface,0#64):=by rw[aor,aoS (by simp),aoJ,aoX,ap0,apj,aou (by omega)];rfl
  refine aq (fq 1 rfl (iU (.num 0),(((List.replicate i (⟨.num 0,0#64⟩:eO)).map c9++List.replicate (cn t.aC-i) (Value.nilIface,0#64)).getD i default).2) (ab:=af ?_));refine bm (i+1) bU (by omega) (hA:=λ_ h=>?_);have e:((List.replicate i (⟨.num 0,0#64⟩:eO)).map c9++List.replicate (cn t.aC-i) (Value.nilIface,0#64)).set i (iU (.num 0),(((List.replicate i (⟨.num 0,0#64⟩:eO)).map c9++List.replicate (cn t.aC-i) (Value.nilIface,0#64)).getD i default).2)=(List.replicate (i+1) (⟨.num 0,0#64⟩:eO)).map c9++List.replicate (cn t.aC-(i+1)) (Value.nilIface,0#64):=by rw[az,List.set_append_right _ _ (by simp),aoJ,aoX,ap0,show cn t.aC-i=(cn t.aC-(i+1))+1 by omega,aq0,List.set_cons_zero,aqR,apm,aoP];rfl
  rw[<-e];exact h
 have bU:i=cn t.aC:=by rw[au,iy]at h1;omega
 subst bU;rw[ap0,List.replicate_zero,aoH];refine af ?_;refine bX (λj:Nat=>j<=t.init.length) (λj=>[(45,true,.int .i64 j),(44,true,.int .i64 t.init.length),(43,true,ah),(10,true,av aU),(1,true,.int .i64 (bk:Int))]) (λj=>Mem [(w,al)] [.box aU (gK t ah ad ao (bk:Int) ak ⟨v21,aa,aa,aa,aa,aa⟩ 0#64 ahead false) 85,.own v21 165 5 e5 ((mn t bk j).map c9)]) (λj=>t.init.length-j) 0 (aoD _) ?_ ⟨rfl,rfl,rfl,rfl,rfl,trivial⟩ (b4 [0,1])
 intro j ae;have ep:=LQ t bk j ae;have xF:((mn t bk j).map c9).length=cn t.aC:=by rw[aoJ,ep]
 refine dp (λh2=>?_) λh2=>?_
 ·have bq:j<t.init.length:=by rw[an]at h2;omega
  have er:=LS t bk bq;refine af ?_;refine ei λcZ=>?_;refine c7 0 ?_;refine bC (λh3=>?_) λh3=>?_
  ·rw[aoq,au]at h3;rw[aot h3]at er;refine af ?_;exact bm (j+1) (by omega) (by omega) (hA:=λ_ h=>by rw[er];exact h.cC [1,2])
  rw[aos,an]at h3;rw[aou h3]at er;have kD:=G _ (eN bq) h3;have Jc:((mn t bk j).map c9).getD (t.init.getD j default).bo.toNat default=c9 ((mn t bk j).getD (t.init.getD j default).bo.toNat default):=wO (by omega);refine af ?_;refine cz [0,1,2,3,4,5,6,7,8,9,10,11,12] mixed ?_;refine bQ ?_;refine jA (h:=wD (b3 rfl)) (ab:=?_);refine bQ ?_;have qb:=LR t bk j (by omega) (t.init.getD j default).bo.toNat;have I9:(((mn t bk j).map c9).getD (t.init.getD j default).bo.toNat default).2=0#64:=by rw[Jc];exact qb
  refine eP (λ_=>True) (h:=fq 2 rfl (iU (.num (t.init.getD j default).value.n),(((mn t bk j).map c9).getD (t.init.getD j default).bo.toNat default).2) (ab:=?_));rw[I9];refine aF (aN ?_) dz;refine dp (λaA=>?_) λaA=>?_
  ·rw[aoq,au]at aA;have aA:¬(t.init.getD j default).value.loc=bg:=aA;have iz:(((mn t bk j).map c9).set (t.init.getD j default).bo.toNat (iU (.num (t.init.getD j default).value.n),0#64)).length=cn t.aC:=by rw[aoU,xF]
   have Z1:((((mn t bk j).map c9).set (t.init.getD j default).bo.toNat (iU (.num (t.init.getD j default).value.n),0#64)).getD (t.init.getD j default).bo.toNat default).2=0#64:=by rw[fU,aou ⟨rfl,by omega⟩]
   refine af ?_;refine cz [0,1,2,3,4,5,6,7,8,9,10,11,12] mixed ?_;refine bQ ?_;refine jA (h:=adF (b3 rfl)) (ab:=?_);refine bQ ?_;refine eP (λ_=>True) (h:=fq 2 rfl (iU (.ks (t.init.getD j default).value.loc),((((mn t bk j).map c9).set (t.init.getD j default).bo.toNat (iU (.num (t.init.getD j default).value.n),0#64)).getD (t.init.getD j default).bo.toNat default).2) (ab:=?_));rw[Z1];refine aF (aN ?_) dz;refine af ?_;refine bm (j+1) (by omega) (by omega) (hA:=λ_ h=>?_);have e:(mn t bk (j+1)).map c9=(((mn t bk j).map c9).set (t.init.getD j default).bo.toNat (iU (.num (t.init.getD j default).value.n),0#64)).set (t.init.getD j default).bo.toNat (iU (.ks (t.init.getD j default).value.loc),0#64):=by rw[er,List.set_set,List.map_set];unfold oL;rw[aot aA];rfl
   rw[e];exact h.cC [1,2]
  rw[aos,an]at aA;have aA:(t.init.getD j default).value.loc=bg:=aA;refine af ?_;refine bm (j+1) (by omega) (by omega) (hA:=λ_ h=>?_);have e:(mn t bk (j+1)).map c9=((mn t bk j).map c9).set (t.init.getD j default).bo.toNat (iU (.num (t.init.getD j default).value.n),0#64):=by rw[er,List.map_set];unfold oL;rw[aou aA];rfl
  rw[e];exact h.cC [1,2]
 have bq:j=t.init.length:=by rw[au]at h2;omega
 subst bq;rw[agP];refine af ?_;refine ea 138 6 ef ?_;refine ea 140 3 fE ?_;refine ea 178 2 bB ?_;refine ea 178 2 bB ?_;refine ea 178 2 bB ?_;exact et rfl (.t1 rfl) (cP aU t ah ad ao (bk:Int) ak ahead ⟨v21,aa,aa,aa,aa,aa⟩ (fm t bk) false) [5,6,4,3,2,1,0] λI hw=>⟨aU,_,⟨CW,cU,cU,cU,cU,cU⟩,rfl,rfl⟩
end Go.Proofs.bA
namespace Go.fo
def zf(p:Nat->Bool):Nat->W
 | 0=>0#64
 | n+1=>if p n=true then zf p n||| (1#64<<<(BitVec.ofInt 64 (n:Int)).toNat)else zf p n
theorem KH(p:Nat->Bool):∀(n:Nat),n<=64->∀j,(zf p n).getLsbD j=(decide (j<n)&&p j)
 | 0,_,j=>by unfold zf;simp
 | n+1,h,j=>by
  have bP:=KH p n (by omega) j;unfold zf;rw[Gi n (by omega)];by_cases hp:p n=true
  ·rw[aou hp,ap2,bP,apX,aoR];simp only[aox,aoo,aop,aoq,aoA,aqa];constructor
   ·rintro(⟨h1,h2⟩ | h1)
    ·exact⟨by omega,h2⟩
    have:j=n:=by omega
    subst this;exact⟨by omega,hp⟩
   rintro⟨h1,h2⟩;by_cases q:j=n
   ·subst q;right;omega
   left;exact⟨by omega,h2⟩
  rw[aot hp,bP,aoR];simp only[aoo,aop];constructor
  ·rintro⟨h1,h2⟩;exact⟨by omega,h2⟩
  rintro⟨h1,h2⟩;refine⟨?_,h2⟩;by_cases q:j=n
  ·subst q;exact absurd h2 hp
  omega
end Go.fo
namespace Go.Proofs.bA
theorem Sz(p d:Int)(w:World)(hd:d=1\/d=2): bl prog 258 [.int .i64 p,.int .i64 d] w λ_ v _=>v=.bool (Cs p d):=by refine bZ func258 ntmps258 ?_;refine bT rfl (.t1 rfl) λI hw=>?_;simp only[cd];rfl
theorem aeg{f a b:Int}(h:¬((a=1\/a=2)/\(b=1\/b=2))):qn f a b=false:=aot h
theorem aef{f a b:Int}(h:(a=1\/a=2)/\(b=1\/b=2))(h1:f=1):qn f a b=true:=by unfold qn;rw[aou h,aou h1]
theorem aei{f a b:Int}(h:(a=1\/a=2)/\(b=1\/b=2))(h1:¬f=1)(h2:f=2):qn f a b=(decide (a=1)||decide (b=2)):=by unfold qn;rw[aou h,aot h1,aou h2]
theorem aeh{f a b:Int}(h:(a=1\/a=2)/\(b=1\/b=2))(h1:¬f=1)(h2:¬f=2)(h3:f<3\/11<f):qn f a b=false:=by unfold qn;rw[aou h,aot h1,aot h2,aou h3]
theorem aee{f a b:Int}(h:(a=1\/a=2)/\(b=1\/b=2))(m:Nat)(hm:m<=8)(hf:f=m+3):qn f a b=(Cs ((m / 3:Nat):Int) a&&Cs ((m % 3:Nat):Int) b):=by unfold qn;rw[aou h,aot (by omega),aot (by omega),aot (by omega),show f-3=(m:Int) by omega,show((m:Int).tdiv 3)=((m / 3:Nat):Int)from(Int.ofNat_tdiv m 3).symm,show((m:Int).tmod 3)=((m % 3:Nat):Int)from(Int.ofNat_tmod m 3).symm]
theorem aek{a b:Int}(h:(decide (a≠1)&&decide (a≠2)||(decide (b≠1)&&decide (b≠2)))=false):(a=1\/a=2)/\(b=1\/b=2):=by simp only[aoz,aoC,aoA]at h;omega
theorem aem{a b:Int}(h:(decide (a≠1)&&decide (a≠2)||(decide (b≠1)&&decide (b≠2)))=true):¬((a=1\/a=2)/\(b=1\/b=2)):=by simp only[aox,aoo,aop]at h;omega
theorem Mv(f a b:Int)(w:World): bl prog 170 [.int .i64 f,.int .i64 a,.int .i64 b] w λ_ v _=>v=.bool (qn f a b):=by
 refine bZ func170 ntmps170 ?_;refine bC (λh1=>?_) λh1=>?_
 ·refine bf λI hw=>?_;rw[aeg (aem (by simpa only[cd,ne_eq,decide_not]using h1))];rfl
 have hd:=aek (a:=a) (b:=b) (by simpa only[cd,ne_eq,decide_not]using h1);refine a8 (λh2=>?_) λh2=>?_
 ·rw[an]at h2;refine bf λI hw=>?_;rw[aef hd h2];rfl
 rw[au]at h2;refine a8 (λh3=>?_) λh3=>?_
 ·rw[an]at h3;refine bf λI hw=>?_;rw[aei hd h2 h3];simp only[cd];rfl
 rw[au]at h3;refine a8 (λaA=>?_) λaA=>?_
 ·simp only[cd,aox,aop]at aA;refine bf λI hw=>?_;rw[aeh hd h2 h3 (by omega)];rfl
 simp only[cd,aoz,aoA]at aA;have hx:∃m:Nat,m<=8/\f=m+3:=⟨(f-3).toNat,by omega,by omega⟩;clear aA;refine U ?_;obtain⟨m,hm,hf⟩:=hx;have ZS:f-3=(m:Int):=by omega
 rw[ZS];refine dh ?_ (v:=.int .i64 ((m / 3:Nat):Int)) (ab:=?_)
 ·exact zp 3 _
 refine U ?_;refine U ?_;refine aq (hq (k:=258) (first:=[]) (cap:=[]) (bb:=λI hw=>Sz _ a I hd.1) (ab:=?_));rintro v bx bc rfl cu;refine U ?_;refine vk (v:=.int .i64 ((m % 3:Nat):Int)) (h:=?_) (ab:=?_)
 ·exact zq 3 _
 refine U ?_;refine e1 (h:=ev (k:=258) (first:=[]) (cap:=[]) (bb:=λ_ I hw=>Sz _ b I hd.2)) (ab:=U ?_);refine bT rfl (.t1 rfl) λI hw=>?_;rw[aee hd m hm hf];rfl
theorem YA{ak ah aI bv aG aR ad aT bj:Value}{t:aW}(a b:eV)(bi:Nat)(w:World)(h:fB al w ak ah aI bv aG aR ad aT bj t)(hb:gQ al w bi [ak,ah,aI,bv,aG,aR,ad,aT,bj]): bl prog 345 [.agg (ef a).toArray,.agg (ef b).toArray,av bi] w λ_ v _=>v=.bool (vQ t.bars a b):=by
 have hB:=h.bars;have akU:=hB.le;refine bZ func345 ntmps345 ?_;refine b7 λdT=>?_;refine b7 λdf=>?_;refine bX (λk:Nat=>k<=t.bars.length/\∀j,j<k->zW a b (t.bars.getD j default)=false) (λs=>[(11,true,.int .i64 s),(10,true,.int .i64 t.bars.length),(9,true,bv),(4,true,av df),(3,true,av dT)]) (λs=>Mem [(w,al)] [.box df (ef b) 138,.box dT (ef a) 138]) (λs=>t.bars.length-s) 0 ⟨aoD _,λj ae=>absurd ae (apw _)⟩ ?_ ⟨rfl,rfl,rfl,rfl,rfl,trivial⟩ cv
 rintro k ⟨hk,eD⟩;refine a8 (λh1=>?_) λh1=>?_
 ·have bU:k<t.bars.length:=by rw[an]at h1;omega
  refine U ?_;refine cH λeQ=>?_;refine bN 0 ?_;refine e1 (h:=ev (bb:=λ_ I hw=>Mv _ _ _ I)) (ab:=U ?_);have ba:(((bw ((t.bars.getD k default).aH=a.aH)&&bw (a.place<(t.bars.getD k default).place))&&bw ((t.bars.getD k default).place<b.place))&&qn (t.bars.getD k default).dA a.dir b.dir)=zW a b (t.bars.getD k default):=by simp only[cd];rfl
  refine bC (λh2=>?_) λh2=>?_
  ·rw[ba]at h2;refine bf λI hw=>?_;have:vQ t.bars a b=true:=by unfold vQ;rw[apH];exact⟨t.bars.getD k default,by rw[aor,aov bU];exact apC bU,h2⟩
   rw[this];rfl
  rw[ba]at h2;refine U ?_;refine bm (k+1) ⟨by omega,λj ae=>?_⟩ (by omega) (hA:=λ_ h=>(h.last rfl).tail);by_cases q:j<k
  ·exact eD j q
  obtain rfl:j=k:=by omega
  exact h2
 rw[au]at h1;refine bf λI hw=>?_;have:vQ t.bars a b=false:=by unfold vQ;rw[aqp];intro x hx hp;obtain⟨i,hi⟩:=apF hx;have gJ:=(ao2.1 hi).1;have:=eD i (by omega);rw[aor,hi]at this;rw[show zW a b x=false from this]at hp;cases hp
 rw[this];rfl
theorem aiN{ak ah aI bv aG aR ad aT bj:Value}{t:aW}(w:World)(h:fB al w ak ah aI bv aG aR ad aT bj t): en prog 280 [.agg #[ak,ah,aI,bv,aG,aR,ad,aT,bj]] w (uh (sQ t) (q8 t (vR t)) (nt t)):=by
 refine hL func280 ntmps280 ?_;refine b7 λaQ=>?_;refine cH λEs=>?_;refine aq (gI (bb:=λI hw=>NQ (t:=t) 345 [av aQ] (vQ t.bars) I (h.now hw) λa b bY ht=>YA a b aQ bY ((h.now hw).now ht aP) ((hw.eQ (S:=al) dg trivial).mono (ht.base _ aP) λ_=>trivial)) (ab:=?_))
 rintro v bx es bc ⟨aK,hr,rfl,rfl⟩;refine U ?_;refine bN 1 ?_;refine et rfl (.dv rfl dg rfl (.t1 rfl)) [_] [0] λI hw=>?_;exact⟨aK,hr,rfl,rfl⟩
theorem ai1{ak ah aI bv aG aR ad aT bj:Value}{t:aW}(w:World)(h:fB al w ak ah aI bv aG aR ad aT bj t): en prog 196 [.agg #[ak,ah,aI,bv,aG,aR,ad,aT,bj]] w (uh (sQ t) (q8 t (nN t)) (nt t)):=by
 have cF:=h.J;have Cp:=cF.le;refine hL func196 ntmps196 ?_;refine b7 λjN=>?_;refine cH λEs=>?_;refine aq (gi (λI hw=>U0 (t:=t) I (h.now hw)) ?_);rintro v bx es bc ⟨s1,fA,rfl,rfl⟩;refine U ?_;refine cH λN3=>?_;refine bN 0 ?_;refine bC (λh1=>?_) λh1=>?_
 ·rw[ve,aoq]at h1;refine U ?_;refine bN 2 ?_;refine ea 81 1 fJ ?_;refine et rfl (.dv rfl jC rfl (.t1 rfl)) [_] [0] λI hw=>?_;unfold sQ q8;rw[h1];exact⟨_,k2,rfl,rfl⟩
 rw[ve,aos]at h1;obtain⟨hb,ma⟩:=kI h1;have ir:sQ t=(t.J.length:Int):=by unfold sQ;rw[aou h1]
 have cj:∀p,q8 t p=b1 t.J.length p:=λp=>by unfold q8;rw[aou h1]
 rw[ir,cj (eT t)];refine U ?_;refine aq (gi (λI hw=>aiN (t:=t) I (h.now hw)) ?_);rintro v ck es bY ⟨s2,j7,rfl,rfl⟩;rw[ir,cj (vR t)];refine U ?_;refine cH λNX=>?_;refine bN 0 ?_;refine bX (λs:Nat×W×W=>s.1<=t.J.length/\s.2.1=zf (λi=>!decide ((bF t i).dir=2)) s.1/\s.2.2=zf (λi=>decide ((bF t i).dir=2)) s.1) (λs=>[(33,true,.int .i64 s.1),(32,true,.int .i64 t.J.length),(31,true,aI),(9,true,u64 s.2.1),(8,true,u64 s.2.2),(6,true,av NX),(4,true,av N3),(2,true,av Es)]) (λs=>Mem [(w,al)] [.box NX [.int .i64 t.J.length,s2] 113,eG s2 (b1 t.J.length (vR t)),.box N3 [.int .i64 t.J.length,s1] 113,eG s1 (b1 t.J.length (eT t)),.box Es [.int .i64 0,aa] 113,.box jN [ak,ah,aI,bv,aG,aR,ad,aT,bj] 41]) (λs=>t.J.length-s.1) (0,0#64,0#64) ⟨aoD _,rfl,rfl⟩ ?_ ⟨rfl,rfl,rfl,rfl,rfl,rfl,rfl,rfl,trivial⟩ cv
 rintro⟨i,GP,Hh⟩ ⟨hi,xF,FI⟩;dsimp only at hi xF FI⊢;refine a8 (λh2=>?_) λh2=>?_
 ·have bq:i<t.J.length:=by rw[an]at h2;omega
  refine U ?_;refine cH λeQ=>?_;refine bN 0 ?_;refine bC (λh3=>?_) λh3=>?_
  ·rw[an]at h3;refine U ?_;refine bm (i+1,GP,Hh||| (1#64<<<(BitVec.ofInt 64 (i:Int)).toNat)) ⟨by dsimp only;omega,?_,?_⟩ (by dsimp only;omega) (hA:=λ_ h=>(h.last rfl).tail)
   ·dsimp only;rw[xF];exact(aot (by simp;exact h3)).symm
   dsimp only;rw[FI];exact(aou (aow h3)).symm
  rw[au]at h3;refine U ?_;refine bm (i+1,GP||| (1#64<<<(BitVec.ofInt 64 (i:Int)).toNat),Hh) ⟨by dsimp only;omega,?_,?_⟩ (by dsimp only;omega) (hA:=λ_ h=>(h.last rfl).tail)
  ·dsimp only;rw[xF];exact(aou (by simp;exact h3)).symm
  dsimp only;rw[FI];exact(aot (by simp;exact h3)).symm
 have gY:i=t.J.length:=by rw[au]at h2;omega
 subst gY;have iN:=lV t.J.length (eT t) hb;have fZ:=lV t.J.length (vR t) hb;refine U ?_;refine aq (gi (λI hw=>aey t.J.length s1 Hh GP (b1 t.J.length (eT t)) I (hw.dX)) ?_);unfold KU vP K9;rw[iN,aou rfl,aou rfl,aou rfl,aoF];rintro v hj es fW ⟨cJ,kl,rfl,rfl⟩;have gg:(b1 t.J.length λa b=>aQ (b1 t.J.length (eT t)) a b&&Hh.getLsbD a&&GP.getLsbD b)=b1 t.J.length λa b=>eT t a b&&pg t a b:=q3 λa b ay jT=>by rw[u5 _ _ hb _ _ ay jT,FI,xF,KH _ _ hb,KH _ _ hb,aow ay,aow jT,Bool.and_assoc];refine aoI (eT t a b&&·) ?_;unfold pg;rw[aoR];have:=pt h1 jT;simp only[apE,aoo,aoq,aop,aoA];omega
 rw[gg];refine U ?_;refine cH λcZ=>?_;refine bN 0 ?_;have jD:=lV t.J.length (λa b=>eT t a b&&pg t a b) hb;refine aq (gi (λI hw=>acY t.J.length s1 (b1 t.J.length (eT t)) t.J.length cJ (b1 t.J.length λa b=>eT t a b&&pg t a b) I (hw.dX) (hw.dX)) ?_);unfold Gc Go.gG.ck;rw[OX iN jD,aou rfl,aou rfl,aoF];rintro v ia es ig ⟨dw,km,rfl,rfl⟩;have lp:(b1 t.J.length λi j=>aQ (b1 t.J.length (eT t)) i j&&!aQ (b1 t.J.length λa b=>eT t a b&&pg t a b) i j)=b1 t.J.length λa b=>eT t a b&&!pg t a b:=q3 λa b ay jT=>by rw[u5 _ _ hb _ _ ay jT,u5 _ _ hb _ _ ay jT];cases eT t a b<;>simp
 rw[lp];refine U ?_;refine cH λgp=>?_;refine bN 0 ?_;refine aq (gi (λI hw=>BG (lV _ (λa b=>eT t a b&&!pg t a b) hb) fZ (hw.dX) (hw.dX)) ?_);rintro v qk es qu ⟨dk,lA,rfl,rfl⟩;rw[Bn hb];refine U ?_;refine bN 9 ?_;refine et rfl (.dv rfl RF rfl (.t1 rfl)) [_] [0] λI hw=>?_;refine⟨dk,lA,?_,?_⟩
 ·unfold nt;rw[h1];rfl
 rw[cj];refine aoI (λr=>[eG dk r]) (q3 λa b _ _=>?_);unfold nN vR;cases eT t a b<;>simp
end Go.Proofs.bA
