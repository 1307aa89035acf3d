/- Lemmas for the law WholeComplete. -/
import Derived.Test.YtiknadellddjhaaGreatDoorC29
set_option linter.all false
open Go.Proofs.Tryz
set_option maxHeartbeats 12800000
open Go Go.b9 Go.bM
attribute [local irreducible] Go.wpList Go.Code.wp Go.bodyPost Go.Exit.then Go.Exit.inBlock Go.Calls
namespace Go.Proofs.bA
def wq(x:mu):fX:=if x.value.loc=bg then⟨1,x.value.n,bg,0#64⟩else⟨2,0,x.value.loc,0#64⟩
def s7(t:aV)(k:Int)(j:Nat):List fX:=(t.init.take j).foldl (λl x=>if x.aH=k then l.set x.bo.toNat (wq x)else l) (List.replicate (cn t.aC) ⟨1,0,bg,0#64⟩)
theorem NN(t:aV)(k:Int){j:Nat}(ae:j<t.init.length):s7 t k (j+1)=if(t.init.getD j default).aH=k then(s7 t k j).set (t.init.getD j default).bo.toNat (wq (t.init.getD j default))else s7 t k j:=by unfold s7;rw[apn,getD_some ae,ap9];rfl
theorem HH(t:aV)(k:Int):∀j,j<=t.init.length->(s7 t k j).length=cn t.aC
 | 0,_=>by unfold s7;simp
 | j+1,h=>by
  rw[NN t k (by omega)];split
  ·rw[aoU,HH t k j (by omega)]
  exact HH t k j (by omega)
theorem agC(t:aV)(g:mv)(vs:List Value)(k:Nat)(z:iF)(w:World)(G:iS t)(hk:k<t.code.length)(bL:gW al w g.ah g.ad g.ao vs t)(aj:aD g.ak/\aD g.ff/\aD z.aI/\aD z.bv/\aD z.aG/\aD z.aR/\aD z.ad/\aD g.tt/\aD g.bj): en prog 117 [.agg (c6 t g.ah g.ad g.ao).toArray,.agg #[g.ak,g.ff,z.aI,z.bv,z.aG,z.aR,z.ad,g.tt,g.bj],.int .i64 k] w λ_ v es _=>∃rg,aD rg/\v=.agg (gA t g k {z with rg:=rg} 0#64 false false).toArray/\es=[.own rg 133 4 gu (s7 t k t.init.length)]:=by
 obtain⟨t1,t2,t3⟩:=bL.jY;obtain⟨s1,s2,cJ,dw,dk,eM,eb,fl,fH⟩:=aj;have hIn:=bL.init;have Jg:=G.AO;refine Ag func117 ntmps117 ?_;refine e4 λdK=>?_;refine e4 λcO=>?_;refine ei λcY=>?_;refine ei λey=>?_;have mO:∀rg,aD rg->kM g {z with rg:=rg}:=λrg h=>⟨t1,t2,t3,s1,s2,fl,fH,h,cJ,dw,dk,eM,eb⟩;refine aq (bK 0 (h1:=iP (mO aa cU) t k (0#64) false false) (ab:=af ?_));refine ih (λ_:Unit=>True) (λ_=>[(8,true,.int .i64 (cn t.aC:Nat)),(7,true,av ey),(6,true,av cY),(3,true,av dK),(2,true,.int .i64 k)]) (λ_=>Mem [(w,al)] [.box ey (gA t g k {z with rg:=aa} 0#64 false false) 129,.box cY (gA ⟨0,ByteArray.empty,ByteArray.empty,[],[],0,default⟩ ⟨aa,aa,aa,aa,aa,aa,aa⟩ 0 ⟨aa,aa,aa,aa,aa,aa⟩ 0#64 false false) 129,.box dK (c6 t g.ah g.ad g.ao) 32,.own aa 133 4 gu []]) ?_ ?_
 ·refine ea 133 4 gu ?_;refine bC (λh2=>?_) λh2=>?_
  ·rw[an]at h2;refine af ?_;exact b6 () trivial ⟨by unfold cn;rw[aou h2];rfl,rfl,rfl,rfl,rfl,trivial⟩ (b4 [1,2,4,0])
  rw[au]at h2;refine af ?_;exact b6 () trivial ⟨by unfold cn;rw[aot h2];rfl,rfl,rfl,rfl,rfl,trivial⟩ (b4 [1,2,4,0])
 rintro⟨⟩ _;have JG:cn t.aC<=32:=by unfold cn;split<;>omega
 refine af ?_;refine bX (λz:Nat×Value=>z.1<=cn t.aC/\aD z.2) (λy=>[(9,true,.int .i64 y.1),(8,true,.int .i64 (cn t.aC:Nat)),(7,true,av ey),(6,true,av cY),(3,true,av dK),(2,true,.int .i64 k)]) (λy=>Mem [(w,al)] [.box ey (gA t g k {z with rg:=y.2} 0#64 false false) 129,.box cY (gA ⟨0,ByteArray.empty,ByteArray.empty,[],[],0,default⟩ ⟨aa,aa,aa,aa,aa,aa,aa⟩ 0 ⟨aa,aa,aa,aa,aa,aa⟩ 0#64 false false) 129,.box dK (c6 t g.ah g.ad g.ao) 32,.own y.2 133 4 gu (List.replicate y.1 (⟨1,0,bg,0#64⟩:fX))]) (λy=>cn t.aC-y.1) (0,aa) ⟨aoD _,cU⟩ ?_
 rintro⟨i,rg⟩ ⟨hi,kD⟩;dsimp only at hi kD⊢;have ep:(List.replicate i (⟨1,0,bg,0#64⟩:fX)).length=i:=aoX;refine dp (λh1=>?_) λh1=>?_
 ·have bU:i<cn t.aC:=by rw[an]at h1;omega
  refine af ?_;refine aq (eI (enc:=gu) (dec:=OE) (e:=133) (sz:=4) (len:=1) (dM:=[(0,gu ⟨1,0,bg,0#64⟩)]) (ab:=λVh abk=>af ?_));refine aq (e6 4 (hm:=aP) (hk:=rfl) (bH:=by simp only[aoJ,aoN,ao1];omega) (ab:=λv28 QQ=>af ?_));refine c7 1 ?_;refine bm (i+1,v28) ⟨bU,QQ⟩ (show cn t.aC-(i+1)<cn t.aC-i by omega) (hA:=λ_ h=>?_);have tF:List.replicate (i+1) (⟨1,0,bg,0#64⟩:fX)=List.replicate i (⟨1,0,bg,0#64⟩:fX)++[⟨1,0,bg,0#64⟩]:=aqR;dsimp only;rw[tF];exact h.cC [1,2,3,4]
 have bU:i=cn t.aC:=by rw[au]at h1;omega
 subst bU;refine af ?_;refine bX (λj:Nat=>j<=t.init.length) (λj=>[(10,true,.int .i64 j),(7,true,av ey),(6,true,av cY),(3,true,av dK),(2,true,.int .i64 k)]) (λj=>Mem [(w,al)] [.box ey (gA t g k {z with rg:=rg} 0#64 false false) 129,.box cY (gA ⟨0,ByteArray.empty,ByteArray.empty,[],[],0,default⟩ ⟨aa,aa,aa,aa,aa,aa,aa⟩ 0 ⟨aa,aa,aa,aa,aa,aa⟩ 0#64 false false) 129,.box dK (c6 t g.ah g.ad g.ao) 32,.own rg 133 4 gu (s7 t k j)]) (λj=>t.init.length-j) 0 (aoD _) ?_
 intro j ae;have lr:=HH t k j ae;refine dp (λh2=>?_) λh2=>?_
 ·have bq:j<t.init.length:=by rw[an]at h2;omega
  have lB:(t.init.getD j default)∈t.init:=eN bq;have er:=NN t (k:Int) bq;refine af ?_;refine ei λvC=>?_;refine c7 0 ?_;by_cases dB:(t.init.getD j default).aH=(k:Int)
  ·obtain⟨_,pe,_,⟨J3,J4⟩,_⟩:=G.xL lB (by omega);rw[aou dB]at er;refine bC (λh3=>?_) λh3=>?_
   ·have dE:¬(t.init.getD j default).value.loc=bg:=by rw[aoo,aoq,au]at h3;exact h3.2
    have gY:wq (t.init.getD j default)=⟨2,0,(t.init.getD j default).value.loc,0#64⟩:=by unfold wq;rw[aot dE]
    refine af ?_;refine aq (fq 4 rfl (⟨2,0,(t.init.getD j default).value.loc,0#64⟩:fX) (ab:=af ?_));exact bm (j+1) bq (by omega) (hA:=λ_ h=>by rw[er,gY];exact h.tail)
   have dE:(t.init.getD j default).value.loc=bg:=by rw[aoC,au,aos,an]at h3;exact h3.resolve_left λq=>q dB
   have gY:wq (t.init.getD j default)=⟨1,(t.init.getD j default).value.n,bg,0#64⟩:=by unfold wq;rw[aou dE]
   refine af ?_;refine cM rfl (λ_=>?_) (λh=>by rw[au]at h;exact absurd dB h);refine af ?_;refine aq (fq 4 rfl (⟨1,(t.init.getD j default).value.n,bg,0#64⟩:fX) (ab:=af ?_));exact bm (j+1) bq (by omega) (hA:=λ_ h=>by rw[er,gY];exact h.tail)
  rw[aot dB]at er;refine cM rfl (λh3=>by rw[aoo,an]at h3;exact absurd h3.1 dB) λ_=>?_;refine af ?_;refine cM rfl (λh=>by rw[an]at h;exact absurd h dB) λ_=>?_;refine af ?_;exact bm (j+1) bq (by omega) (hA:=λ_ h=>by rw[er];exact h.tail)
 have bq:j=t.init.length:=by rw[au]at h2;omega
 subst bq;refine af ?_;refine aq (bK 1 (h1:=iP (mO rg kD) t k (0#64) false false) (ab:=af ?_));exact et rfl (.c1 rfl dg rfl) [.own rg 133 4 gu (s7 t k t.init.length)] [3] λI hw=>⟨rg,kD,rfl,rfl⟩
def b5(a:Nat)(x:eO):fX:=match x.has with
 | .num n=>⟨1,n,bg,x.on<<<a⟩
 | .ks s=>⟨2,0,s,x.on<<<a⟩
 | .told i=>⟨3,((a+i:Nat):Int),bg,x.on<<<a⟩
 | .hid=>⟨4,0,bg,x.on<<<a⟩
def dP(a:Nat)(A:j1)(s:cg):j1:=⟨A.J++s.J,A.bars++s.bars,A.addr++s.addr.map (nP a),A.data++s.data.map (nP a),A.bh++s.dF.map (nP a)⟩
theorem agR(on:BitVec 64)(a:Nat)(ay:a<=64)(h:∀j,on.getLsbD j=true->a+j<64):(List.range 64).filter (λr=>(on<<<a).getLsbD r)=((List.range 64).filter λr=>on.getLsbD r).map (a+·):=by
 obtain⟨b,hb⟩:∃b,64=a+b:=⟨64-a,by omega⟩;have bu:List.range 64=List.range a++(List.range b).map (a+·):=by rw[hb,List.range_add]
 have b2:List.range 64=List.range b++(List.range a).map (b+·):=by rw[show(64:Nat)=b+a by omega,List.range_add]
 conv=>lhs;rw[bu]
 conv=>rhs;rw[b2]
 rw[apl,apl];have f1:(List.range a).filter (λr=>(on<<<a).getLsbD r)=[]:=by rw[apU];intro r aM;rw[aoQ]at aM;rw[apX];simp[aM]
 have f2:((List.range a).map (b+·)).filter (λr=>on.getLsbD r)=[]:=by rw[apU];intro r aM qb;obtain⟨x,_,rfl⟩:=ao9.1 aM;have:=h _ qb;omega
 rw[f1,f2,apb,aoH,List.filter_map];congr 1;refine List.filter_congr λr aM=>?_;rw[aoQ]at aM;show(on<<<a).getLsbD (a+r)=_;rw[apX];simp;omega
theorem Jt(on:BitVec 64)(a i:Nat)(ay:a<=64)(h:∀j,on.getLsbD j=true->a+j<64):n9 (on<<<a) 64 ((a+i:Nat):Int)=(hV on i).map (nP a):=by unfold n9 hV my;rw[agR on a ay h,aq9,aq9];refine apP λr _=>?_;simp only[Function.comp,nP,Int.natCast_add]
theorem Dx{l:List ByteArray}{s:ByteArray}(h:s∈l):xX l s=(dr l s:Int):=by unfold xX;rw[aou (qi h)]
theorem Be(aC:Int)(a:Nat)(ag:List eO)(d:Int)(x:eO):zn aC (ag.map (b5 a)) d (b5 a x)=(gP aC ag d x).map (b5 a):=by
 unfold zn gP;split
 ·rfl
 rw[List.map_set]
theorem Cy(a:Nat)(n:Int)(on:BitVec 64):b5 a ⟨.num n,on⟩=⟨1,n,bg,on<<<a⟩:=rfl
theorem IZ(a:Nat)(x:eO):((b5 a x).k=1)↔(hz x.has).2=true:=by obtain⟨h,on⟩:=x;cases h<;>simp[b5,hz]
theorem ZL{a:Nat}{x:eO}(h:(hz x.has).2=true):(b5 a x).n=(hz x.has).1:=by obtain⟨q,on⟩:=x;cases q<;>first | rfl | simp[hz]at h
theorem Cx(a:Nat)(x:eO):((b5 a x).k=2)↔(jL x.has).2=true:=by obtain⟨h,on⟩:=x;cases h<;>simp[b5,jL]
theorem I0{a:Nat}{x:eO}(h:(jL x.has).2=true):(b5 a x).loc=(jL x.has).1:=by obtain⟨q,on⟩:=x;cases q<;>first | rfl | simp[jL]at h
theorem xA(a:Nat)(x:eO):(b5 a x).on=x.on<<<a:=by obtain⟨h,on⟩:=x;cases h<;>rfl
theorem Cw{a:Nat}{s:cg}{n:Int}(h:n.toNat<s.ag.length):(s.ag.map (b5 a)).getD n.toNat default=b5 a (bS s n):=by unfold bS;rw[aor,ao4,aor,aov h];rfl
theorem si{cx:fg}{J:List eV}{a:Nat}{x:eO}(h:l2 cx J x.has)(ay:a+J.length<=64): -2147483648<=(b5 a x).n/\(b5 a x).n<=2147483647:=by
 obtain⟨q,on⟩:=x;cases q with
 | num n=>have h:eF n=true:=h;unfold eF at h;simp at h;show -2147483648<=n/\n<=2147483647;omega
 | ks s=>show -2147483648<=(0:Int)/\(0:Int)<=2147483647;decide
 | told i=>have h:i<J.length/\_:=h;show -2147483648<=((a+i:Nat):Int)/\((a+i:Nat):Int)<=2147483647;omega
 | hid=>show -2147483648<=(0:Int)/\(0:Int)<=2147483647;decide
theorem Si{n:Int}(h: -2147483648<=n/\n<=2147483647):(BitVec.ofInt 32 n).toInt=n:=by rw[aq8];unfold Int.bmod;simp;omega
theorem KP(op:Int)(bn:op=8\/op=9\/op=10)(a:Nat)(x y:eO)(hx: -2147483648<=(b5 a x).n/\(b5 a x).n<=2147483647)(aY: -2147483648<=(b5 a y).n/\(b5 a y).n<=2147483647): wC op (b5 a x) (b5 a y)=b5 a ⟨pO op x.has y.has,x.on||| y.on⟩:=by
 have qb:((b5 a x).on||| (b5 a y).on)=(x.on||| y.on)<<<a:=by rw[xA,xA,BitVec.shiftLeft_or_distrib]
 unfold wC;rw[qb];obtain⟨p,lT⟩:=x;obtain⟨q,lU⟩:=y;cases p with
 | num m=>
  cases q with
  | num n=>
   have hx: -2147483648<=m/\m<=2147483647:=hx;have aY: -2147483648<=n/\n<=2147483647:=aY;show({lD op ⟨1,m,bg,lT<<<a⟩ ⟨1,n,bg,lU<<<a⟩with on:=(lT||| lU)<<<a}:fX)=⟨1,pk op m n,bg,(lT||| lU)<<<a⟩;have a1:∀k:Int,∀on:BitVec 64,ow ⟨1,k,bg,on⟩=decide (k=0):=λk on=>by unfold ow;simp
   have hb:mU ⟨1,m,bg,lT<<<a⟩ ⟨1,n,bg,lU<<<a⟩=true:=rfl;unfold lD;rw[a1,a1,hb,apE,apE];by_cases h0:n=0
   ·subst h0;rw[aou (by simp)];congr 1;unfold pk;rcases bn with rfl | rfl | rfl<;>simp[Si hx]
   rw[aot (by simpa using h0)];by_cases h1:m=0
   ·subst h1;rw[aou (by simp)];congr 1;unfold pk;rcases bn with rfl | rfl | rfl<;>simp[Si aY]
   rw[aot (by simpa using h1)];unfold pk;rcases bn with rfl | rfl | rfl
   ·simp[aec hx aY]
   ·simp[akj hx aY]
   simp[BitVec.ofInt_add]
  | ks s=>show({lD op ⟨1,m,bg,lT<<<a⟩ ⟨2,0,s,lU<<<a⟩with on:=(lT||| lU)<<<a}:fX)=b5 a ⟨if m=0 then .ks s else .hid,lT||| lU⟩;unfold lD ow mU;by_cases h:m=0<;>simp[h,b5]
  | told i=>show({lD op ⟨1,m,bg,lT<<<a⟩ ⟨3,((a+i:Nat):Int),bg,lU<<<a⟩with on:=(lT||| lU)<<<a}:fX)=b5 a ⟨if m=0 then .told i else .hid,lT||| lU⟩;unfold lD ow mU;by_cases h:m=0<;>simp[h,b5]
  | hid=>show({lD op ⟨1,m,bg,lT<<<a⟩ ⟨4,0,bg,lU<<<a⟩with on:=(lT||| lU)<<<a}:fX)=b5 a ⟨if m=0 then .hid else .hid,lT||| lU⟩;unfold lD ow mU;by_cases h:m=0<;>simp[h,b5]
 | ks s=>
  cases q with
  | num n=>show({lD op ⟨2,0,s,lT<<<a⟩ ⟨1,n,bg,lU<<<a⟩with on:=(lT||| lU)<<<a}:fX)=b5 a ⟨if n=0 then .ks s else .hid,lT||| lU⟩;unfold lD ow mU;by_cases h:n=0<;>simp[h,b5]
  | _=>simp[lD,ow,mU,b5,pO]
 | told i=>
  cases q with
  | num n=>show({lD op ⟨3,((a+i:Nat):Int),bg,lT<<<a⟩ ⟨1,n,bg,lU<<<a⟩with on:=(lT||| lU)<<<a}:fX)=b5 a ⟨if n=0 then .told i else .hid,lT||| lU⟩;unfold lD ow mU;by_cases h:n=0<;>simp[h,b5]
  | _=>simp[lD,ow,mU,b5,pO]
 | hid=>
  cases q with
  | num n=>show({lD op ⟨4,0,bg,lT<<<a⟩ ⟨1,n,bg,lU<<<a⟩with on:=(lT||| lU)<<<a}:fX)=b5 a ⟨if n=0 then .hid else .hid,lT||| lU⟩;unfold lD ow mU;by_cases h:n=0<;>simp[h,b5]
  | _=>simp[lD,ow,mU,b5,pO]
theorem acw(a:Nat)(x y:eO):Kn (b5 a x) (b5 a y)=!(x.has.oM||y.has.oM):=by obtain⟨p,lT⟩:=x;obtain⟨q,lU⟩:=y;cases p<;>cases q<;>rfl
theorem Rq(a:Nat)(x y:eO)(h:(x.has.oM||y.has.oM)=false):F0 (b5 a x) (b5 a y)=sR x.has y.has:=by obtain⟨p,lT⟩:=x;obtain⟨q,lU⟩:=y;cases p<;>cases q<;>first | (cases h;done) | (simp[F0,b5,sR];try exact ao7.2 Iff.rfl)
theorem O2(a:Nat)(A:j1)(s:cg)(hA:A.J.length=a)(ay:a+s.J.length<=64)(k rZ dir loc val bo:Int)(on dat bh:BitVec 64)(qb:∀j,on.getLsbD j=true->j<s.J.length)(ZI:∀j,dat.getLsbD j=true->j<s.J.length)(Az:∀j,bh.getLsbD j=true->j<s.J.length): uy (dP a A s) k ⟨0,rZ,dir,loc,val,bo⟩ (on<<<a) (dat<<<a) (bh<<<a)=dP a A {s with J:=s.J++[⟨k,rZ,dir,loc,val,bo⟩],addr:=s.addr++hV on s.J.length,data:=s.data++hV dat s.J.length,dF:=s.dF++hV bh s.J.length}:=by
 have aL:(dP a A s).J.length=a+s.J.length:=by unfold dP;dsimp only;rw[aoy,hA]
 unfold uy;rw[aL,Jt on a _ (by omega) λj ae=>by have:=qb j ae;omega,Jt dat a _ (by omega) λj ae=>by have:=ZI j ae;omega,Jt bh a _ (by omega) λj ae=>by have:=Az j ae;omega];unfold dP;dsimp only;rw[apm,apm,apm,aoP,aoP,aoP,aoP]
end Go.Proofs.bA
namespace Go.bM
def sY(l:List ca):Prop:=l.Pairwise λp q=>p.B<=q.B
theorem zZ{J:List eV}{w:Bool}{l:List ca}(hp:pY J w l)(h:sY l)(x:BitVec 64):sY (l++hV x J.length):=by
 unfold sY at *;rw[apz];refine⟨h,?_,λa ay b hb=>?_⟩
 ·unfold hV;rw[apI];exact(aph).2 λ_ _ _ _ _=>Int.le_refl _
 unfold hV at hb;obtain⟨r,_,rfl⟩:=ao9.1 hb;have:=(hp.ok a ay).2.2.1;dsimp only;omega
structure w2(s:cg):Prop where
 addr:sY s.addr
 data:sY s.data
 dF:sY s.dF
theorem aip{cx:fg}{s s':cg}{k c4:Nat}(h:gH cx s k)(hb:w2 s)(az:fR cx s k=.go s' c4):w2 s':=by
 have nil:∀{x:cg} {q:Nat},oZ.go x q=.go s' c4->x.addr=s.addr/\x.data=s.data/\x.dF=s.dF->w2 s':=λe q=>by injection e with bu b2;subst bu;exact⟨by rw[q.1];exact hb.addr,by rw[q.2.1];exact hb.data,by rw[q.2.2];exact hb.dF⟩
 have wr:∀{loc on x},kJ cx s k loc on x=.go s' c4->w2 s':=λe=>by
  unfold kJ at e;split at e
  ·split at e
   ·cases e
   injection e with bu b2;subst bu;exact⟨zZ h.addr hb.addr _,zZ h.data hb.data _,zZ h.dF hb.dF _⟩
  cases e
 have rd:∀{loc on d},mm cx s k loc on d=.go s' c4->w2 s':=λe=>by
  unfold mm at e;split at e
  ·cases e
  injection e with bu b2;subst bu;exact⟨zZ h.addr hb.addr _,zZ h.data hb.data _,zZ h.dF hb.dF _⟩
 unfold fR at az;dsimp only at az;split at az;exact wr az;split at az;exact wr az;split at az;exact rd az;split at az;exact nil az ⟨rfl,rfl,rfl⟩;split at az;exact nil az ⟨rfl,rfl,rfl⟩;split at az
 ·split at az
  ·exact rd az
  cases az
 split at az
 ·split at az
  ·exact wr az
  cases az
 split at az;exact nil az ⟨rfl,rfl,rfl⟩;split at az
 ·unfold qD at az;dsimp only at az;split at az
  ·split at az
   ·exact nil az ⟨rfl,rfl,rfl⟩
   cases az
  split at az<;>exact nil az ⟨rfl,rfl,rfl⟩
 split at az<;>exact nil az ⟨rfl,rfl,rfl⟩
theorem Rd.b{cx:fg}(C:l1 cx){dd s:cg}{k:Nat}(h0:gH cx dd 0)(hb:w2 dd)(h:Rd cx dd s k):w2 s:=by
 induction h with
 | zero=>exact hb
 | step q hk az bP=>exact aip (q.ok C h0) bP az
theorem Pm{α:Type}(p q:α->Bool):∀(l:List α),(∀x,x∈l->p x=true->q x=false)->(l.filter p++l.filter q).Perm (l.filter λx=>p x||q x)
 | [],_=>List.Perm.nil
 | x::l,h=>by
  have bP:=Pm p q l λy aY=>h y (.tail _ aY);cases hp:p x with
  | true=>have ba:=h x aP hp;rw[ap3 (by simpa using hp),apQ (by simp[ba]),ap3 (by simp[hp])];exact bP.cons x
  | false=>
   cases ba:q x with
   | true=>rw[apQ (by simp[hp]),ap3 (by simpa using ba),ap3 (by simp[ba])];exact aq4.trans (bP.cons x)
   | false=>rw[apQ (by simp[hp]),apQ (by simp[ba]),apQ (by simp[hp,ba])];exact bP
end Go.bM
namespace Go.Proofs.bA
theorem Mh(l:List ca):∀n:Nat,(qs l n).Perm (l.filter λp=>decide (0<=p.A)&&decide (p.A<(n:Int)))
 | 0=>by rw[show qs l 0=[]from rfl,apU.2 λp _=>by simp]
 | n+1=>by
  rw[G1];refine((Mh l n).append_right _).trans ((Pm _ _ l λx _ h=>?_).trans ?_)
  ·rw[aoo,aop,aop]at h;exact aoE (by omega)
  refine List.Perm.of_eq (List.filter_congr λx _=>?_);rw[aoR];simp only[aox,aoo,aop];omega
theorem Uy(l:List ca)(h:sY l):∀n:Nat,(qs l n).Pairwise λa b=>kY a b=true
 | 0=>List.Pairwise.nil
 | n+1=>by
  rw[G1,apz];refine⟨Uy l h n,?_,λa ay b hb=>?_⟩
  ·have h1:=apL (λp=>decide (p.A=(n:Int))) h;refine apY (λ{a b} ay hb q=>?_) h1;have h2:=(apd.1 ay).2;have h3:=(apd.1 hb).2;rw[aop]at h2 h3;unfold kY;simp only[aox,aoo,aop];exact .inr ⟨by omega,q⟩
  have h1:=((Mh l n).mem_iff).1 ay;have h2:=(apd.1 h1).2;have h3:=(apd.1 hb).2;rw[aoo,aop,aop]at h2;rw[aop]at h3;unfold kY;simp only[aox,aoo,aop];exact .inl (by omega)
theorem adf{a b:ca}(h:pW a b):kY a b=true:=by unfold pW iI at h;unfold kY;simp only[aox,aoo,aop]at *;omega
theorem Mi{l m:List ca}(hp:m.Perm l)(hb:sY l)(hA:∀p,p∈l->0<=p.A/\p.A<64)(hm:m.Pairwise pW):qs l 64=m:=by
 refine K8 Rr _ _ ((Mh l 64).trans ?_) (Uy l hb 64) (hm.imp adf);rw[List.filter_eq_self.2 λp hp=>by have:=hA p hp;rw[aoo,aop,aop];exact this]
 exact hp.symm
structure zM(n:Nat)(l m:List ca):Prop where
 perm:m.Perm l
 up:sY l
 lt:∀p,p∈l->0<=p.A/\p.A<n/\p.B<n
theorem zM.step{n:Nat}{l m q:List ca}{J:List eV}{w:Bool}(h:zM n l m)(hp:pY J w q)(hb:sY q):zM (n+J.length) (l++q.map (nP n)) (m++h9 q n) where
 perm:=h.perm.append (aql _ _)
 up:=by
  unfold sY
  rw[apz]
  refine⟨h.up,?_,λa ay b hb=>?_⟩
  ·rw[apI]
   exact hb.imp λ{a b} q=>by unfold nP;dsimp only;omega
  obtain⟨r,aM,rfl⟩:=ao9.1 hb
  have h1:=h.lt a ay
  have h2:=hp.ok r aM
  unfold nP;dsimp only;omega
 lt:=λp sr=>by
  rcases aoG.1 sr with q | q
  ·have:=h.lt p q;omega
  obtain⟨r,aM,rfl⟩:=ao9.1 q
  have h2:=hp.ok r aM
  unfold nP;dsimp only;omega
structure sZ(A:j1)(a:Acc):Prop where
 J:A.J=a.J
 bars:A.bars=a.bars
 addr:zM a.J.length A.addr a.addr
 data:zM a.J.length A.data a.data
 bh:zM a.J.length A.bh a.bh
theorem sZ.zero(e:List gl):sZ ⟨[],[],[],[],[]⟩ ⟨[],[],[],[],[],e⟩:=⟨rfl,rfl,⟨List.Perm.nil,List.Pairwise.nil,λ_ h=>(by cases h)⟩,⟨List.Perm.nil,List.Pairwise.nil,λ_ h=>(by cases h)⟩,⟨List.Perm.nil,List.Pairwise.nil,λ_ h=>(by cases h)⟩⟩
theorem sZ.step{A:j1}{a:Acc}{cx:fg}{s:cg}{k:Nat}(h:sZ A a)(S:gH cx s k)(hb:w2 s)(e:List gl): sZ (dP a.J.length A s) ⟨a.J++s.J,a.bars++s.bars,a.addr++h9 s.addr a.J.length,a.data++h9 s.data a.J.length,a.bh++h9 s.dF a.J.length,e⟩:=by
 have aL:(a.J++s.J).length=a.J.length+s.J.length:=aoy;unfold dP;refine⟨by dsimp only;rw[h.J],by dsimp only;rw[h.bars],?_,?_,?_⟩<;>dsimp only<;>rw[aL]
 ·exact h.addr.step S.addr hb.addr
 ·exact h.data.step S.data hb.data
 exact h.bh.step S.dF hb.dF
theorem aev{m:List ca}(hm:m.Pairwise pW)(h:∀p,p∈m->0<=p.A/\p.A<64/\0<=p.B/\p.B<64):m.length<=4096:=by
 have:=Di 4096 (m.map λp=>p.A* 64+p.B) (by
  rw[apI];refine apY (λ{a b} ay hb q=>?_) hm;have h1:=h a ay;have h2:=h b hb;unfold pW iI at q;simp only[aox,aoo,aop]at q;omega) (λx hx=>by
  obtain⟨p,hp,rfl⟩:=ao9.1 hx;have h1:=h p hp;omega)
 rwa[aoJ]at this
theorem Wj{t:aV}{k:Nat}{a:Acc}(h:D7 t k a):a.addr.length<=4096/\a.data.length<=4096/\a.bh.length<=4096:=by
 have bd:=h.n;have aux:∀{w:Bool} {l:List ca},l.Pairwise pW/\(∀p,p∈l->ug a.J w p)->l.length<=4096:=λq=>aev q.1 λp hp=>by have:=(q.2 p hp).lt;omega
 exact⟨aux h.addr,aux h.data,aux h.bh⟩
theorem sZ.len{t:aV}{k:Nat}{A:j1}{a:Acc}(h:sZ A a)(g:D7 t k a):A.addr.length<=4096/\A.data.length<=4096/\A.bh.length<=4096:=by obtain⟨h1,h2,h3⟩:=Wj g;rw[<-h.addr.perm.length_eq,<-h.data.perm.length_eq,<-h.bh.perm.length_eq];exact⟨h1,h2,h3⟩
theorem sZ.ah6{t:aV}{k:Nat}{A:j1}{a:Acc}(h:sZ A a)(g:D7 t k a):qs A.addr 64=a.addr/\qs A.data 64=a.data/\qs A.bh 64=a.bh:=by
 have bd:=g.n;exact⟨Mi h.addr.perm h.addr.up (λp hp=>by have:=h.addr.lt p hp;omega) g.addr.1,Mi h.data.perm h.data.up (λp hp=>by have:=h.data.lt p hp;omega) g.data.1,Mi h.bh.perm h.bh.up (λp hp=>by have:=h.bh.lt p hp;omega) g.bh.1⟩
theorem Yh(a:Nat)(x:eO):ym (b5 a x)=vN a x.has:=by obtain⟨h,on⟩:=x;cases h<;>rfl
end Go.Proofs.bA
