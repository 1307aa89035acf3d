/- Lemmas for the law WholeComplete. -/
import Derived.Lib.TrailingZeros
import Derived.Shelf.Lays
import Derived.Shelf.Sort.Plain
import Derived.Shelf.SlSortCmp.WholeK
import Derived.Shelf.Small.Strs
import Derived.Test.YtiknadellddjhaaGreatDoorC01
set_option linter.all false
open Go.Proofs.Tryz
set_option maxHeartbeats 800000
open Go.b9 Go Go.gG
attribute [local irreducible] Go.wpList Go.Code.wp Go.bodyPost Go.Exit.then Go.Exit.inBlock Go.Calls
namespace Go.gG
abbrev W:=BitVec 64
def fG(n:Int)(rows:List W):Bool:=decide (0<=n)&&decide (n<=64)&&decide ((rows.length:Int)=n)&&(decide (n=64)||rows.all λr=>r>>>n.toNat==0#64)
structure Ok(m:Nat)(rows:List W):Prop where
 le:m<=64
 len:rows.length=m
 high:∀r,r∈rows->∀j,m<=j->r.getLsbD j=false
theorem Un(r:W)(m:Nat):r>>>m=0#64↔∀j,m<=j->r.getLsbD j=false:=by
 constructor
 ·intro h j ae;have:=aoI (λx=>x.getLsbD (j-m)) h;simp only[ap5,aqo]at this;rwa[show m+(j-m)=j from by omega]at this
 intro h;apply aqb;intro i hi;simp only[ap5,aqo];exact h _ (by omega)
theorem GI(n:Int)(rows:List W):fG n rows=true↔∃m:Nat,n=m/\Ok m rows:=by
 unfold fG;simp only[aoo,aox,aop,apt,ap7];constructor
 ·rintro⟨⟨⟨h0,h1⟩,h2⟩,h3⟩;refine⟨n.toNat,by omega,by omega,by omega,λr aM j ae=>?_⟩;rcases h3 with h3 | h3
  ·exact BitVec.getLsbD_of_ge _ _ (by omega)
  exact(Un r _).1 (h3 r aM) j ae
 rintro⟨m,rfl,h1,h2,h3⟩;refine⟨⟨⟨by omega,by omega⟩,by omega⟩,.inr λr aM=>?_⟩;exact(Un r _).2 (λj ae=>h3 r aM j (by simpa using ae))
theorem NF(x:W)(s:Nat):(x>>>s&&& 1#64=1#64)↔x.getLsbD s=true:=by
 constructor
 ·intro h;have:=aoI (λx=>x.getLsbD 0) h;simpa using this
 intro h;apply aqb;intro i hi;simp only[aqc,ap5,aqa];by_cases h0:i=0
 ·subst h0;simp[h]
 simp[h0]
theorem Eo(x:W)(j:Nat)(ae:j<64):decide (x>>>(BitVec.ofInt 64 (j:Int)).toNat&&& 1#64=1#64)=x.getLsbD j:=by
 have h1:(BitVec.ofInt 64 (j:Int)).toNat=j:=by simp;omega
 rw[h1];cases hb:x.getLsbD j with
 | true=>exact aow ((NF x j).2 hb)
 | false=>exact aoE (λh=>by rw[(NF x j).1 h]at hb;cases hb)
theorem Gi(j:Nat)(ae:j<64):(BitVec.ofInt 64 (j:Int)).toNat=j:=by simp;omega
def put(rows:List W)(a b:Nat):List W:=rows.set a (rows.getD a default||| 1#64<<<b)
def wI(m:Nat):List W->List ca->Option (List W)
 | rows,[]=>some rows
 | rows,p::l=>if 0<=p.A/\p.A<m/\0<=p.B/\p.B<m then wI m (put rows p.A.toNat p.B.toNat) l else none
def rH(n:Int)(l:List ca):Option (List W):=if 0<=n/\n<=64 then wI n.toNat (List.replicate n.toNat 0#64) l else none
theorem Ll(rows:List W)(a b:Nat):(put rows a b).length=rows.length:=by simp[put]
def bitsOf(r:W):List Nat:=(List.range 64).filter λj=>r.getLsbD j
def has(n:Int)(rows:List W)(a b:Int):Bool:=fG n rows&&(decide (0<=a)&&decide (a<n)&&decide (0<=b)&&decide (b<n)&&(rows.getD a.toNat default).getLsbD b.toNat)
def nM(m:Nat)(rows:List W):List ca:=(List.range m).flatMap λ(i:Nat)=>(bitsOf (rows.getD i default)).map λ(j:Nat)=>(⟨i,j⟩:ca)
def oX(r:W):Nat:=Lib.ctz 64 r.toNat
theorem DU(r:W)(h:r≠0#64):oX r<64/\(r&&& -r).toNat=2 ^ oX r:=by have h0:r.toNat≠0:=λe=>h (BitVec.eq_of_toNat_eq (by simpa using e));obtain⟨h1,h2⟩:=Lib.lowest_bit 64 r.toNat h0 r.isLt;refine⟨h2,?_⟩;rw[BitVec.toNat_and,BitVec.toNat_neg,aqt (by have:=r.isLt;omega)];exact h1
theorem ajk(r:W)(h:r≠0#64):(((r&&& -r)* 285870213051353865#64)>>>58).toNat<64/\Lib.deBruijn64tab.getD (((r&&& -r)* 285870213051353865#64)>>>58).toNat 0=oX r:=by
 obtain⟨h1,h2⟩:=DU r h;have e:(((r&&& -r)* 285870213051353865#64)>>>58).toNat=2 ^ oX r* 285870213051353865 % 18446744073709551616 / 288230376151711744:=by rw[BitVec.toNat_ushiftRight,BitVec.toNat_mul,h2,Nat.shiftRight_eq_div_pow];rfl
 rw[e];exact Lib.deBruijn64_at (oX r) h1
theorem XU(r:W)(h:r≠0#64):∃m,r.toNat=2 ^ oX r* (2* m+1):=by have h0:r.toNat≠0:=λe=>h (BitVec.eq_of_toNat_eq (by simpa using e));obtain⟨m,hm,_⟩:=Lib.ctzFrom_spec 64 r.toNat (by omega) r.isLt;exact⟨m,by simpa[oX,Lib.ctz,h0]using hm⟩
theorem aji(r:W)(h:r≠0#64)(j:Nat):(j<oX r->r.getLsbD j=false)/\r.getLsbD (oX r)=true/\(r&&& (r-1#64)).getLsbD j=(r.getLsbD j&&decide (j≠oX r)):=by
 obtain⟨m,hm⟩:=XU r h;obtain⟨hk,_⟩:=DU r h;generalize CB:oX r=k at *;have bit:∀j,r.getLsbD j=(decide (j>=k)&&(2* m+1).testBit (j-k)):=λj=>by rw[<-BitVec.testBit_toNat,hm,Nat.testBit_two_pow_mul]
 have oJ:0<2 ^ k:=Nat.two_pow_pos k;have kU:(r-1#64).toNat=2 ^ k* (2* m)+(2 ^ k-1):=by
  have h1:1<=r.toNat:=by rw[hm];exact Nat.mul_pos oJ (by omega)
  have h2:(r-1#64).toNat=r.toNat-1:=by rw[BitVec.toNat_sub];have:=r.isLt;simp;omega
  rw[h2,hm,Nat.mul_add];omega
 have WY:∀j,(r-1#64).getLsbD j=if j<k then true else(2* m).testBit (j-k):=λj=>by
  rw[<-BitVec.testBit_toNat,kU,Nat.testBit_two_pow_mul_add _ (by omega)];split
  ·rename_i ae;rw[Nat.testBit_two_pow_sub_one];simp[ae]
  rfl
 refine⟨λae=>by rw[bit];simp;omega,by rw[bit];simp,?_⟩;rw[aqc,bit,WY];by_cases ae:j<k
 ·simp[show ¬k<=j from by omega]
 simp only[ae,aqw];by_cases fV:j=k
 ·subst fV;simp
 obtain⟨i,hi⟩:∃i,j-k=i+1:=⟨j-k-1,by omega⟩;rw[hi,Nat.testBit_succ,Nat.testBit_succ,show(2* m+1) / 2=m from by omega,show 2* m / 2=m from by omega];cases m.testBit i<;>simp[fV,show k<=j from by omega]
theorem W1:bitsOf 0#64=[]:=by unfold bitsOf;rw[apU];intro j _;simp
theorem N0(r:W)(h:r≠0#64):bitsOf r=oX r::bitsOf (r&&& (r-1#64)):=by
 obtain⟨hk,_⟩:=DU r h;have hb:=aji r h;generalize oX r=k at *;unfold bitsOf;have aM:List.range 64=List.range k++k::List.range' (k+1) (63-k):=by rw[List.range_eq_range',List.range_eq_range',show(64:Nat)=k+((63-k)+1)from by omega,<-List.range'_append_1,aqX,List.range'_succ]
 have Qe:∀(p:Nat->Bool),(∀j,j<k->p j=false)->(List.range k).filter p=[]:=λp hp=>by rw[apU];intro j ae;rw[hp j (aoQ.1 ae)];simp
 rw[aM,apl,apl,Qe _ λj ae=>(hb j).1 ae,Qe _ (λj ae=>by rw[(hb j).2.2,(hb j).1 ae];rfl),apb,apb,ap3 (hb k).2.1,apQ (by rw[(hb k).2.2];simp)]
 congr 1;refine List.filter_congr λj ae=>?_;rw[List.mem_range'_1]at ae;rw[(hb j).2.2];simp[show j≠k from by omega]
theorem RX(r:W)(j:Nat):j∈bitsOf r↔r.getLsbD j=true:=by
 unfold bitsOf;rw[apd,aoQ];constructor
 ·exact λh=>h.2
 intro h;refine⟨?_,h⟩;rcases ao6 j 64 with cm | cm
 ·exact cm
 rw[BitVec.getLsbD_of_ge _ _ cm]at h;cases h
theorem W0(r:W)(j9:List Nat)(s:W)(h:bitsOf r=j9++bitsOf s)(aj:s≠0#64):bitsOf r=(j9++[oX s])++bitsOf (s&&& (s-1#64)):=by rw[h,N0 s aj,aoP];rfl
theorem NY(r:W):(bitsOf r).length<=64:=by unfold bitsOf;have:=apr (λj=>r.getLsbD j) (List.range 64);simpa using this
def wK(i:Int)(j9:List Nat):List ca:=j9.map λ(j:Nat)=>(⟨i,j⟩:ca)
theorem SH(k:Nat)(rows:List W):nM (k+1) rows=nM k rows++wK k (bitsOf (rows.getD k default)):=by unfold nM wK;rw[ape,apc];simp
theorem K6(k:Nat)(rows:List W):(nM k rows).length<=k* 64:=by
 induction k with
 | zero=>simp[nM]
 | succ k bP=>rw[SH,aoy];have:=NY (rows.getD k default);simp only[wK,aoJ];omega
theorem u6{n:Int}{rows:List W}(h:fG n rows=true):∃m:Nat,n=m/\m<=64/\rows.length=m:=by obtain⟨m,hm,bn⟩:=(GI n rows).1 h;exact⟨m,hm,bn.le,bn.len⟩
theorem agy{m:Nat}{rows:List W}(h:fG m rows=true)(k:Nat):∀j,m<=j->(rows.getD k default).getLsbD j=false:=by
 obtain⟨m',kA,hok⟩:=(GI _ _).1 h;intro j ae;by_cases hk:k<rows.length
 ·exact hok.high _ (aoM (getD_some hk)) j (by omega)
 rw[aor,aoV (by omega)];exact aqo
def th(k:Nat)(rows:List W)(i:Nat):List W:=if(rows.getD i default).getLsbD k=true then rows.set i (rows.getD i default||| rows.getD k default)else rows
def xg(m:Nat)(rows:List W)(k:Nat):List W:=(List.range m).foldl (th k) rows
def uq(m:Nat)(rows:List W):List W:=(List.range m).foldl (xg m) rows
theorem foldl_succ{α:Type}(f:α->Nat->α)(a:α)(k:Nat):(List.range (k+1)).foldl f a=f ((List.range k).foldl f a) k:=by rw[ape,ap9];rfl
theorem OD(k:Nat)(rows:List W)(i:Nat):(th k rows i).length=rows.length:=by unfold th;split<;>simp
theorem It(f:List W->Nat->List W)(h:∀r i,(f r i).length=r.length)(l:List Nat)(rows:List W):(l.foldl f rows).length=rows.length:=by
 induction l generalizing rows with
 | nil=>rfl
 | cons x l bP=>rw[apR,bP,h]
theorem OC(m k:Nat)(rows:List W):(xg m rows k).length=rows.length:=It _ (OD k) _ _
theorem Xm(m:Nat)(rows:List W):(uq m rows).length=rows.length:=It _ (λr k=>OC m k r) _ _
def rT(m:Nat)(rows:List W):Bool:=(List.range m).any λi=>((uq m rows).getD i default).getLsbD i
theorem KG(m:Nat)(rows:List W)(h:rows.length=m):(List.range m).map (λi=>rows.getD i default)=rows:=by apply apq (by simp[h]);intro i h1 h2;rw[aq3,aqO,aor,aov h2];rfl
def vD(rows:List W)(done:W)(n:Nat):W:=(List.range n).foldl (λb i=>if done.getLsbD i=true then b else b||| rows.getD i default) 0#64
def yt(m:Nat)(x:W):Option Nat:=(List.range m).find? λi=>!x.getLsbD i
def ze(m:Nat)(rows:List W)(s:W×List Int)(_:Nat):W×List Int:=
 match yt m (s.1||| vD rows s.1 m)with
 | some i=>(s.1||| 1#64<<<i,s.2++[(i:Int)])
 | none=>s
def rF(m:Nat)(rows:List W)(n:Nat):W×List Int:=(List.range n).foldl (ze m rows) (0#64,[])
def Ku(m:Nat)(rows:List W):List Int:=(rF m rows m).2
theorem NP(rows:List W)(done:W)(n:Nat):vD rows done (n+1)=if done.getLsbD n=true then vD rows done n else vD rows done n||| rows.getD n default:=by unfold vD;rw[ape,ap9];rfl
theorem Kt(m:Nat)(rows:List W)(n:Nat):rF m rows (n+1)=ze m rows (rF m rows n) n:=by unfold rF;rw[ape,ap9];rfl
theorem ade(m:Nat)(rows:List W)(s:W×List Int)(n:Nat):(ze m rows s n).2.length<=s.2.length+1:=by unfold ze;split<;>simp
theorem ac2(m:Nat)(rows:List W)(n:Nat):(rF m rows n).2.length<=n:=by
 induction n with
 | zero=>simp[rF]
 | succ n bP=>rw[Kt];have:=ade m rows (rF m rows n) n;omega
theorem YQ(m:Nat)(x:W)(i:Nat)(hi:i<m)(h:x.getLsbD i=false)(aL:∀j,j<i->x.getLsbD j=true):yt m x=some i:=by unfold yt;rw[List.find?_range_eq_some];refine⟨by simp[h],by simpa using hi,λj ae=>by simp[aL j ae]⟩
theorem YP(m:Nat)(x:W)(aL:∀j,j<m->x.getLsbD j=true):yt m x=none:=by unfold yt;rw[List.find?_eq_none];intro j ae;rw[aoQ]at ae;simp[aL j ae]
theorem ND(x:W)(s:Nat):(x>>>s&&& 1#64=0#64)↔x.getLsbD s=false:=by
 constructor
 ·intro h;have:=aoI (λx=>x.getLsbD 0) h;simpa using this
 intro h;apply aqb;intro i hi;simp only[aqc,ap5,aqa,aqo];by_cases h0:i=0
 ·subst h0;simp[h]
 simp[h0]
theorem A2(x:W)(j:Nat)(ae:j<64):decide (x>>>(BitVec.ofInt 64 (j:Int)).toNat&&& 1#64=0#64)=!x.getLsbD j:=by
 rw[Gi j ae];cases hb:x.getLsbD j with
 | true=>exact aoE (λh=>by rw[(ND x j).1 h]at hb;cases hb)
 | false=>exact aow ((ND x j).2 hb)
def aQ(rows:List W)(a b:Nat):Bool:=(rows.getD a default).getLsbD b
theorem HL{xs ys:List W}(aL:xs.length=ys.length)(h:∀a b,a<xs.length->b<64->aQ xs a b=aQ ys a b):xs=ys:=by apply apq aL;intro i h1 h2;apply aqb;intro j ae;have:=h i j h1 ae;unfold aQ at this;rwa[aor,aor,aov h1,aov h2]at this
theorem aeS(rows:List W)(a b x y:Nat)(ay:a<rows.length)(hb:b<64):aQ (put rows a b) x y=(aQ rows x y||(decide (x=a)&&decide (y=b))):=by
 unfold aQ put;rw[aor,aqV];by_cases hx:a=x
 ·subst hx;rw[aou rfl,aou ay,apM,ap2];congr 1;rw[apX,aqa];by_cases aY:y=b
  ·subst aY;simp[hb]
  simp[aY];omega
 rw[aot hx,<-aor];simp[show ¬x=a from λh=>hx h.symm]
theorem W4(m a b:Nat):aQ (List.replicate m 0#64) a b=false:=by
 unfold aQ;rw[aor,apj];split
 ·simp
 exact aqo
def rowOf(m:Nat)(p:Nat->Bool):W:=(List.range m).foldl (λr b=>if p b=true then r||| 1#64<<<b else r) 0#64
theorem GR(m:Nat)(p:Nat->Bool):rowOf (m+1) p=if p m=true then rowOf m p||| 1#64<<<m else rowOf m p:=by unfold rowOf;rw[ape,ap9];rfl
theorem agT(m:Nat)(p:Nat->Bool)(h:m<=64)(b:Nat):(rowOf m p).getLsbD b=(decide (b<m)&&p b):=by
 induction m with
 | zero=>simp[rowOf]
 | succ m bP=>
  rw[GR];have bP:=bP (by omega);have h1:(1#64<<<m).getLsbD b=decide (b=m):=by
   rw[apX,aqa];by_cases hb:b=m
   ·subst hb;simp;omega
   simp[hb];omega
  by_cases hp:p m=true
  ·rw[aou hp,ap2,bP,h1];by_cases hb:b=m
   ·subst hb;simp[hp]
   simp only[hb,aqY,aq1];rw[ao7.2 (show b<m↔b<m+1 from by omega)]
  rw[aot hp,bP];by_cases hb:b=m
  ·subst hb;simp[hp]
  rw[ao7.2 (show b<m↔b<m+1 from by omega)]
def b1(m:Nat)(p:Nat->Nat->Bool):List W:=(List.range m).map λa=>rowOf m (p a)
theorem Bm(m:Nat)(p:Nat->Nat->Bool)(h:m<=64)(a b:Nat):aQ (b1 m p) a b=(decide (a<m)&&decide (b<m)&&p a b):=by
 unfold aQ b1;rw[aor,ao4];by_cases ay:a<m
 ·rw[apk ay];simp[agT m _ h,ay]
 rw[aoV (by simp;omega)];simp[ay];exact aqo
theorem q3{m:Nat}{p q:Nat->Nat->Bool}(h:∀a b,a<m->b<m->p a b=q a b):b1 m p=b1 m q:=by
 unfold b1;refine apP λa ay=>?_;rw[aoQ]at ay;have key:∀n,n<=m->rowOf n (p a)=rowOf n (q a):=by
  intro n bd
  induction n with
  | zero=>rfl
  | succ n bP=>rw[GR,GR,bP (by omega),h a n ay (by omega)]
 exact key m (aoL _)
theorem zv(m:Nat)(p:Nat->Nat->Bool):(b1 m p).length=m:=by simp[b1]
theorem aeT(m:Nat)(p:Nat->Nat->Bool)(h:m<=64)(i j:Nat)(hi:i<m)(ae:j<m):put (b1 m p) i j=b1 m λa b=>p a b||(decide (a=i)&&decide (b=j)):=by
 refine HL (by simp[Ll,zv]) λa b ay hb=>?_;rw[Ll,zv]at ay;rw[aeS _ _ _ _ _ (by rw[zv];exact hi) (by omega),Bm _ _ h,Bm _ _ h];by_cases Fa:b<m
 ·simp[ay,Fa]
 simp[Fa,show ¬b=j from by omega]
theorem agx(m:Nat):b1 m (λ_ _=>false)=List.replicate m 0#64:=by
 refine HL (by simp[zv]) λa b ay hb=>?_;rw[W4];unfold aQ b1;rw[aor,ao4];rw[zv]at ay;rw[apk ay];have key:∀n,rowOf n (λ_=>false)=0#64:=by
  intro n
  induction n with
  | zero=>rfl
  | succ n bP=>rw[GR,bP];rfl
 simp[key]
theorem RS(m:Nat)(f:Nat->W)(p:Nat->Nat->Bool)(h:m<=64)(hf:∀i j,i<m->j<64->(f i).getLsbD j=(decide (j<m)&&p i j)):(List.range m).map f=b1 m p:=by refine HL (by simp[zv]) λa b ay hb=>?_;simp only[aoJ,aqC]at ay;rw[Bm _ _ h];unfold aQ;rw[aor,ao4,apk ay];simp[hf a b ay hb,ay]
theorem LI{m:Nat}{rows:List W}(h:fG m rows=true)(a b:Nat)(hb:m<=b):aQ rows a b=false:=agy h a b hb
theorem N5(rows:List W)(a b:Nat)(h:rows.length<=a):aQ rows a b=false:=by unfold aQ;rw[aor,aoV h];exact aqo
theorem lV(m:Nat)(p:Nat->Nat->Bool)(h:m<=64):fG m (b1 m p)=true:=by rw[GI];refine⟨m,rfl,h,zv m p,λr aM j ae=>?_⟩;obtain⟨a,ay⟩:=apF aM;have h1:=Bm m p h a j;unfold aQ at h1;rw[aor,ay]at h1;simp only[apM]at h1;rw[h1];simp;omega
def vP(b:Bool):Int:=if b=true then 0 else 10
def KU(b:Bool)(n:Int):Int:=if b=true then n else 0
def oG(a:Int)(dN:List W)(b:Int)(gx:List W):Int:=if(fG a dN&&fG b gx)=true then(if a=b then 0 else 11)else 10
def ck(e:Int)(n:Int):Int:=if e=0 then n else 0
def K9(n:Int)(rows:List W)(f t:W):List W:=if fG n rows=true then b1 n.toNat λa b=>aQ rows a b&&f.getLsbD a&&t.getLsbD b else []
def Gc(op:Bool->Bool->Bool)(a:Int)(dN:List W)(b:Int)(gx:List W):List W:=if oG a dN b gx=0 then b1 a.toNat λi j=>op (aQ dN i j) (aQ gx i j)else []
theorem Ih{a b:Int}{dN gx:List W}(h:oG a dN b gx=0):fG a dN=true/\fG b gx=true/\a=b:=by
 unfold oG at h;by_cases h1:(fG a dN&&fG b gx)=true
 ·rw[aou h1]at h;by_cases h2:a=b
  ·simp only[aoo]at h1;exact⟨h1.1,h1.2,h2⟩
  rw[aot h2]at h;omega
 rw[aot h1]at h;omega
end Go.gG
namespace Go.Proofs.bA
theorem z6(n:Int)(aK:Value)(rows:List (BitVec 64))(w:World)(h:aZ al w fJ 1 aK rows):bl prog 99 [.agg #[.int .i64 n,aK]] w λ_ v _=>v=.int .i64 (if fG n rows=true then 0 else 10):=by
 refine bZ func99 ntmps99 ?_;refine b7 λb=>?_;refine bC (λh1=>?_) λh1=>?_
 ·refine bf λI hw=>?_;have:fG n rows=false:=by simp only[aox,aoq,an,au]at h1;simp only[fG,aoC,aoA];omega
  rw[this];rfl
 simp only[aoz,aos,an,au]at h1;obtain⟨m,rfl⟩:∃m:Nat,n=m:=⟨n.toNat,by omega⟩;have bH:rows.length=m:=by omega
 refine U ?_;refine bX (λk:Nat=>k<=m/\∀i,i<k->(m=64\/rows.getD i default>>>m=0#64)) (λk=>[(22,true,.int .i64 k),(21,true,.int .i64 m),(1,true,av b)]) (λ_=>Mem [(w,al)] [.box b [.int .i64 m,aK] 113]) (λk=>m-k) 0 ⟨by omega,λi hi=>by omega⟩ ?_;rintro k ⟨hk,bG⟩;refine U ?_;refine rY rfl (λh2=>?_) λh2=>?_
 ·have l9:k<rows.length:=by omega
  refine U ?_;refine cz [0,1,2,3,4,5,6,7,8,9,10,11,12,13,14] mixed ?_;refine aN ?_;refine U ?_;have hm:(BitVec.ofInt 64 (m:Int)).toNat=m:=by simp;omega
  refine bC (λh3=>?_) λh3=>?_
  ·refine bf λI hw=>?_;have:fG m rows=false:=by simp only[aoo,aoq,an,au,hm]at h3;simp only[fG,aoC,aoz,aoA];refine .inr ⟨by omega,?_⟩;rw[List.all_eq_false];exact⟨_,aoM (getD_some l9),by simpa using h3.2⟩
   rw[this];rfl
  refine U ?_;refine bm (k+1) ⟨by omega,λi hi=>?_⟩ (by omega);by_cases mX:i<k
  ·exact bG i mX
  obtain rfl:i=k:=by omega
  simp only[aoC,aos,an,au,hm]at h3;rcases h3 with h3 | h3
  ·exact .inl (by omega)
  exact .inr h3
 refine bf λI hw=>?_;have:fG m rows=true:=by
  simp only[fG,aoo,aox,aop,apt];refine⟨⟨⟨by omega,by omega⟩,by omega⟩,?_⟩;by_cases fK:m=64
  ·exact .inl (by omega)
  refine .inr λr aM=>?_;obtain⟨i,hi,Z7⟩:=aqk aM;have:=bG i (by omega);rw[aor,aov hi,apM,Z7]at this;simpa[fK]using this
 rw[this];rfl
abbrev eG(aK:Value)(rows:List W):aB:=.own aK 81 1 fJ rows
theorem ad6(n:Int)(ak:Value)(l:List ca)(w:World)(h:aZ al w bB 2 ak l): en prog 190 [.int .i64 n,ak] w λ_ v es _=>
  match rH n l with
  | some rows=>∃aK,aD aK/\v=.tuple #[.agg #[.int .i64 n,aK],.int .i64 0]/\es=[eG aK rows]
  | none=>v=.tuple #[.agg #[.int .i64 0,aa],.int .i64 10]/\es=[]:=by
 have hle:=h.le;refine hL func190 ntmps190 ?_;refine cH λaU=>?_;refine bC (λh1=>?_) λh1=>?_
 ·refine U ?_;refine bN 0 ?_;refine et rfl (.dv rfl aP rfl (.t1 rfl)) [] [] λI hw=>?_;simp only[aox,an]at h1;have:rH n l=none:=by unfold rH;rw[aot (by omega)]
  rw[this];exact⟨rfl,rfl⟩
 simp only[aoz,au]at h1;obtain⟨m,rfl⟩:∃m:Nat,n=m:=⟨n.toNat,by omega⟩;refine U ?_;refine aq (gC _ _ _ _ _ _ (ab:=?_));intro aK ax;refine U ?_;refine cH λb=>?_;refine bN 0 ?_;refine bX (λs:Nat×List W=>s.1<=l.length/\s.2.length=m/\wI m (List.replicate m 0#64) l=wI m s.2 (l.drop s.1)) (λs=>[(22,true,.int .i64 s.1),(21,true,.int .i64 l.length),(20,true,ak),(6,true,av b),(4,true,av aU),(0,true,.int .i64 m)]) (λs=>Mem [(w,al)] [.box b [.int .i64 m,aK] 113,eG aK s.2,.box aU [.int .i64 0,aa] 113]) (λs=>l.length-s.1) (0,List.replicate m 0#64) ⟨by simp,by simp,rfl⟩ ?_
 rintro⟨k,rows⟩ ⟨hk,bH,AG⟩;dsimp only at hk bH AG⊢;refine U ?_;refine rY rfl (λh2=>?_) λh2=>?_
 ·have l9:k<l.length:=by omega
  have PX:l.drop k=l.getD k default::l.drop (k+1):=by rw[aqQ l9,aor,aov l9];rfl
  refine U ?_;refine cH λzY=>?_;refine bN 0 ?_;refine bC (λh3=>?_) λh3=>?_
  ·refine U ?_;refine bN 3 ?_;refine et rfl (.dv rfl jC rfl (.t1 rfl)) [] [] λI hw=>?_;simp only[aox,an]at h3;have:rH m l=none:=by unfold rH;rw[aou (by omega),aoF,AG,PX];unfold wI;rw[aot (by omega)]
   rw[this];exact⟨rfl,rfl⟩
  refine U ?_;simp only[aoz,au]at h3;obtain⟨A,hA⟩:∃A:Nat,(l.getD k default).A=A:=⟨(l.getD k default).A.toNat,by omega⟩;obtain⟨B,hB⟩:∃B:Nat,(l.getD k default).B=B:=⟨(l.getD k default).B.toNat,by omega⟩;rw[hA,hB];refine cz [0,1,2,3,4,5,6,7,8,9,10,11,12] mixed ?_;refine aN ?_;refine gw (h:=fq 2 rfl _ (ab:=U ?_));refine bm (k+1,put rows A B) ⟨by simp;omega,by simp[Ll,bH],?_⟩ (by simp;omega) (hA:=λ_ h=>by have:=h.tail;rw[hA,hB,aoF,Gi B (by omega)]at this;exact this);rw[AG,PX];conv=>lhs;unfold wI
  rw[aou (by omega),hA,hB];rfl
 refine U ?_;refine bN 2 ?_;refine et rfl (.dv rfl hy rfl (.t1 rfl)) [eG aK rows] [1] λI hw=>?_;have:rH m l=some rows:=by unfold rH;rw[aou (by omega),aoF,AG,aqg (by omega)];rfl
 rw[this];exact⟨aK,ax,rfl,rfl⟩
def lK(w:World):Prop:=aZ al w Ah 1 (vA 3 64) Lib.deBruijn64tab
theorem ajj(r:W)(w:World)(bL:lK w):bl prog 344 [u64 r] w λ_ v _=>v=.int .i64 (if r=0#64 then 64 else oX r):=by
 unfold lK at bL;refine bZ func344 ntmps344 ?_;refine rY rfl (λh1=>?_) λh1=>?_
 ·refine bf λI hw=>?_;rw[aou h1];rfl
 obtain⟨h2,h3⟩:=ajk r h1;have aA:=(DU r h1).1;refine U ?_;have a6:Lib.deBruijn64tab.getD (((r&&& -r)* 285870213051353865#64)>>>(58#64).toNat).toNat default=oX r:=h3;rw[a6];refine bf λI hw=>?_;rw[aot h1];rfl
theorem X9(row:W)(c5:Nat)[aS prog c5](cap:List Value)(bV:List Nat->List aB->Prop)(qF:List aB)(w:World)(hw:Mem [] qF w)(h0:bV [] qF) (bL:aZ (bJ qF) w Ah 1 (vA 3 64) Lib.deBruijn64tab) (step:∀j9 j e I,bV j9 e->j<64->row.getLsbD j=true->(∃s,bitsOf row=(j9++[j])++s)->Mem [(w,bJ qF)] e I->eY prog c5 (.int .i64 (j:Nat)::cap) e I λ_ v e' _=>v=.tuple #[]/\bV (j9++[j]) e'): eY prog 273 [u64 row,.func (.func c5) #[] cap.toArray] qF w λ_ v e' _=>v=.tuple #[]/\bV (bitsOf row) e':=by
 refine sa func273 ntmps273 hw ?_;refine bX (λs:W×List Nat×List aB=>bitsOf row=s.2.1++bitsOf s.1/\bV s.2.1 s.2.2) (λs=>[(0,true,u64 s.1),(1,true,.func (.func c5) #[] cap.toArray)]) (λs=>Mem [(w,bJ qF)] s.2.2) (λs=>(bitsOf s.1).length) (row,[],qF) ⟨rfl,h0⟩ ?_;rintro⟨r,j9,e⟩ ⟨IQ,fs⟩;dsimp only at IQ fs⊢;refine a8 (λh1=>?_) λh1=>?_
 ·simp only[aoq,au]at h1;have Jz:=W0 row j9 r IQ h1;refine U ?_;refine aq (bp (λI hw=>ajj r I (hw.now bL)) ?_);rintro v n bc rfl bd;rw[aot h1];refine U ?_;refine aq (Py (bb:=λI hw=>step j9 (oX r) e I fs (DU r h1).1 ?_ ⟨_,Jz⟩ hw.cX) (ab:=?_))
  ·rw[<-RX,Jz];simp
  rintro v n e' bc ⟨rfl,Zf⟩;refine U ?_;refine bm (r&&& (r-1#64),j9++[oX r],e') ⟨Jz,Zf⟩ ?_ (hA:=ek);dsimp only;rw[N0 r h1];simp
 simp only[aos,an]at h1;subst h1;refine U ?_;refine adQ rfl .nil aP λI hw=>⟨rfl,?_⟩;rw[IQ,W1,aoH];exact fs
abbrev jE(v:Value)(xs:List ca):aB:=.own v 178 2 bB xs
theorem aeu(i:Int)(j:Nat)(du bi:Nat)(v:Value)(xs:List ca)(w:World)(aL:xs.length<4096)(hi:gQ (bJ [.box du [v] 37,jE v xs]) w bi [.int .i64 i]) (hw:Mem [] [.box du [v] 37,jE v xs] w): eY prog 274 [.int .i64 j,av du,av bi] [.box du [v] 37,jE v xs] w λ_ u es _=>u=.tuple #[]/\∃dG,aD dG/\es=[.box du [dG] 37,jE dG (xs++[⟨i,j⟩])]:=by refine sa func274 ntmps274 hw ?_;refine aq (eI (ab:=?_));intro v1 jy;refine U ?_;refine aq (e6 2 (hk:=rfl) (bH:=by simp;omega) (ab:=?_));intro v2 hS;refine U ?_;refine bN 1 ?_;exact qV rfl .nil aP [_,_] [1,2] rfl (by decide) λI hw=>⟨rfl,v2,hS,rfl⟩
theorem aew(n:Int)(aK:Value)(rows:List W)(w:World)(h:aZ al w fJ 1 aK rows)(bL:lK w): en prog 188 [.agg #[.int .i64 n,aK]] w λ_ v es _=>if fG n rows=true then ∃hW,aD hW/\v=.tuple #[hW,.int .i64 0]/\es=[jE hW (nM n.toNat rows)]else v=.tuple #[aa,.int .i64 10]/\es=[]:=by
 refine hL func188 ntmps188 ?_;refine b7 λdT=>?_;refine aq (bp (λI hw=>z6 n aK rows I (hw.now h)) ?_);rintro v bx bc rfl cu;by_cases hok:fG n rows=true
 ·simp only[aou hok];obtain⟨m,rfl,sq,bH⟩:=u6 hok;refine U ?_;refine cM rfl (λh1=>by simp[cd]at h1) λ_=>?_;refine U ?_;refine aq (fb ?_);intro du;refine ea 178 2 bB ?_;refine U ?_;refine bX (λs:Nat×Value×List ca=>s.1<=m/\aD s.2.1/\s.2.2=nM s.1 rows) (λs=>[(14,true,.int .i64 s.1),(13,true,.int .i64 m),(5,true,av du),(1,true,av dT)]) (λs=>Mem [(w,al)] [.box du [s.2.1] 37,jE s.2.1 s.2.2,.box dT [.int .i64 m,aK] 113]) (λs=>m-s.1) (0,aa,[]) ⟨by simp,⟨_,_,_,rfl⟩,rfl⟩ ?_ ⟨rfl,rfl,rfl,rfl,trivial⟩ λ_ h=>h.cX.cC [1,0,2]
  rintro⟨k,v,xs⟩ ⟨hk,ax,hxs⟩;dsimp only at hk ax hxs⊢;refine U ?_;refine rY rfl (λh2=>?_) λh2=>?_
  ·have l9:k<rows.length:=by omega
   have jV:=K6 k rows;refine U ?_;refine cH λbi=>?_;refine bN 0 ?_;refine acy [1,2,0,3] (h:=?_);refine aq (eB (es:=[.box du [v] 37,jE v xs]) (H:=[.box bi [.int .i64 k] 3,.box dT [.int .i64 m,aK] 113]) (bb:=λI qe=>
    X9 (rows.getD k default) 274 [av du,av bi] (λj9 es=>∃dG,aD dG/\es=[.box du [dG] 37,jE dG (xs++wK k j9)]) _ I qe.dt.ew ⟨v,ax,by simp[wK]⟩ (qe.iD bL aP λe he=>aoK _ he) ?_) (ab:=?_))
   ·rintro j9 j e bY ⟨dG,yY,rfl⟩ ae hb ⟨s,aj⟩ hm;have aL:=NY (rows.getD k default);rw[aj]at aL;simp only[aoy,aps]at aL;refine(aeu k j du bi dG (xs++wK k j9) bY (by simp only[aoy,wK,aoJ,hxs];omega) (hm.HN (qe.ta aP) aP λe he=>he) hm.ew).mono ?_;rintro n u es fW ⟨rfl,v2,hS,rfl⟩;exact⟨rfl,v2,hS,by simp[wK]⟩
   rintro u n es bY ⟨rfl,v2,hS,rfl⟩;refine U ?_;refine bm (k+1,v2,xs++wK k (bitsOf (rows.getD k default))) ⟨by dsimp only;omega,hS,by dsimp only;rw[SH,hxs]⟩ (by dsimp only;omega) (hA:=b4 [0,1,3])
  refine U ?_;refine et rfl (.tmp rfl (.t1 rfl)) [jE v xs] [1] λI hw=>?_;rw[hxs,show k=m from by omega];exact⟨v,ax,rfl,rfl⟩
 simp only[aot hok];refine U ?_;refine cM rfl (λ_=>?_) (λh1=>by simp[cd]at h1);refine U ?_;refine et rfl (.tmp rfl (.t1 rfl)) [] [] λI hw=>?_;exact⟨rfl,rfl⟩
end Go.Proofs.bA
namespace Go.Proofs.bA
open Go Go.Proofs Go.Shelf
def acJ:Go.Shelf.Ren:=⟨λ| 190=>142 | 125=>157 | 258=>231 | 128=>243 | 129=>244 | 302=>301 | 303=>302 | 304=>303 | 305=>304 | 306=>305 | 307=>306 | 308=>67 | 309=>307 | 310=>308 | 333=>364 | 329=>319 | 330=>320 | 334=>365 | 335=>366 | 336=>144 | 344=>394 | n=>n,λ| 31=>34 | 9=>9 | 3=>3 | 46=>156 | 0=>0 | 51=>336 | 53=>81 | 4=>4 | 183=>330 | 182=>329 | 131=>73 | 5=>5 | 218=>389 | 222=>393 | 228=>413 | 229=>414 | n=>n,λ| n=>n⟩
theorem Rp:Go.Proofs.Lays.n190 prog acJ:={
 mixed:=by kernel_rfl
 f125:=func157.trans (aoI some (by kernel_rfl))
 f128:=func243.trans (aoI some (by kernel_rfl))
 f129:=func244.trans (aoI some (by kernel_rfl))
 f190:=func142.trans (aoI some (by kernel_rfl))
 f258:=func231.trans (aoI some (by kernel_rfl))
 f302:=func301.trans (aoI some (by kernel_rfl))
 f303:=func302.trans (aoI some (by kernel_rfl))
 f304:=func303.trans (aoI some (by kernel_rfl))
 f305:=func304.trans (aoI some (by kernel_rfl))
 f306:=func305.trans (aoI some (by kernel_rfl))
 f307:=func306.trans (aoI some (by kernel_rfl))
 f308:=func67.trans (aoI some (by kernel_rfl))
 f309:=func307.trans (aoI some (by kernel_rfl))
 f310:=func308.trans (aoI some (by kernel_rfl))
 f329:=func319.trans (aoI some (by kernel_rfl))
 f330:=func320.trans (aoI some (by kernel_rfl))
 f333:=func364.trans (aoI some (by kernel_rfl))
 f334:=func365.trans (aoI some (by kernel_rfl))
 f335:=func366.trans (aoI some (by kernel_rfl))
 f336:=func144.trans (aoI some (by kernel_rfl))
 f344:=func394.trans (aoI some (by kernel_rfl))
 t0:=underlying0
 a0:=Tryz.isAgg0
 z0:=Tryz.sizeOf0
 v0:=Tryz.zeroValue0
 t3:=underlying3
 a3:=Tryz.isAgg3
 z3:=Tryz.sizeOf3
 v3:=Tryz.zeroValue3
 t4:=underlying4
 a4:=Tryz.isAgg4
 z4:=Tryz.sizeOf4
 v4:=Tryz.zeroValue4
 t5:=underlying5
 a5:=Tryz.isAgg5
 z5:=Tryz.sizeOf5
 v5:=Tryz.zeroValue5
 t9:=underlying9
 a9:=Tryz.isAgg9
 z9:=Tryz.sizeOf9
 v9:=Tryz.zeroValue9
 t31:=underlying34
 a31:=Tryz.isAgg34
 z31:=Tryz.sizeOf34
 v31:=Tryz.zeroValue34
 t46:=underlying156
 a46:=Tryz.isAgg156
 z46:=Tryz.sizeOf156
 v46:=Tryz.zeroValue156
 t51:=underlying336
 a51:=Tryz.isAgg336
 z51:=Tryz.sizeOf336
 v51:=Tryz.zeroValue336
 t53:=underlying81
 a53:=Tryz.isAgg81
 z53:=Tryz.sizeOf81
 v53:=Tryz.zeroValue81
 t131:=underlying73
 a131:=Tryz.isAgg73
 z131:=Tryz.sizeOf73
 v131:=Tryz.zeroValue73
 t182:=underlying329
 a182:=Tryz.isAgg329
 z182:=Tryz.sizeOf329
 v182:=Tryz.zeroValue329
 t183:=underlying330
 a183:=Tryz.isAgg330
 z183:=Tryz.sizeOf330
 v183:=Tryz.zeroValue330
 t218:=underlying389
 a218:=Tryz.isAgg389
 z218:=Tryz.sizeOf389
 v218:=Tryz.zeroValue389
 t222:=underlying393
 a222:=Tryz.isAgg393
 z222:=Tryz.sizeOf393
 v222:=Tryz.zeroValue393
 t228:=underlying413
 a228:=Tryz.isAgg413
 z228:=Tryz.sizeOf413
 v228:=Tryz.zeroValue413
 t229:=underlying414
 a229:=Tryz.isAgg414
 z229:=Tryz.sizeOf414
 v229:=Tryz.zeroValue414}
def acG:Go.Shelf.Ren:=⟨λ| 106=>233 | 213=>317 | 265=>370 | n=>n,λ| 9=>9 | 3=>3 | n=>n,λ| n=>n⟩
theorem acF:Go.Proofs.Lays.n106 prog acG:={
 mixed:=by kernel_rfl
 f106:=func233.trans (aoI some (by kernel_rfl))
 f213:=func317.trans (aoI some (by kernel_rfl))
 f265:=func370.trans (aoI some (by kernel_rfl))
 t3:=underlying3
 a3:=Tryz.isAgg3
 z3:=Tryz.sizeOf3
 v3:=Tryz.zeroValue3
 t9:=underlying9
 a9:=Tryz.isAgg9
 z9:=Tryz.sizeOf9
 v9:=Tryz.zeroValue9}
def acP:Go.Shelf.Ren:=⟨λ| 6=>147 | 15=>157 | 14=>232 | 28=>243 | 29=>244 | 20=>309 | 21=>310 | 22=>311 | 23=>312 | 24=>313 | 25=>314 | 26=>315 | 27=>316 | 46=>367 | 47=>319 | 48=>320 | 49=>368 | 50=>369 | 57=>395 | n=>n,λ| 22=>38 | 24=>25 | 25=>244 | 3=>3 | 39=>156 | 0=>0 | 53=>336 | 55=>81 | 4=>4 | 46=>330 | 45=>329 | 50=>73 | 5=>5 | 9=>9 | 66=>389 | 70=>393 | 76=>413 | 77=>414 | n=>n,λ| n=>n⟩
theorem acO:Go.Proofs.SlLaysF0.n6 prog acP:={
 mixed:=by kernel_rfl
 f6:=⟨ "slices.SortFunc[[]alembic/api.Thing,alembic/api.Thing]",by decide,func147.trans (aoI some (by kernel_rfl))⟩
 f14:=⟨ "slices.pdqsortCmpFunc[alembic/api.Thing]",by decide,func232.trans (aoI some (by kernel_rfl))⟩
 f15:=func157.trans (aoI some (by kernel_rfl))
 f20:=⟨ "slices.insertionSortCmpFunc[alembic/api.Thing]",by decide,func309.trans (aoI some (by kernel_rfl))⟩
 f21:=⟨ "slices.heapSortCmpFunc[alembic/api.Thing]",by decide,func310.trans (aoI some (by kernel_rfl))⟩
 f22:=⟨ "slices.breakPatternsCmpFunc[alembic/api.Thing]",by decide,func311.trans (aoI some (by kernel_rfl))⟩
 f23:=⟨ "slices.choosePivotCmpFunc[alembic/api.Thing]",by decide,func312.trans (aoI some (by kernel_rfl))⟩
 f24:=⟨ "slices.reverseRangeCmpFunc[alembic/api.Thing]",by decide,func313.trans (aoI some (by kernel_rfl))⟩
 f25:=⟨ "slices.partialInsertionSortCmpFunc[alembic/api.Thing]",by decide,func314.trans (aoI some (by kernel_rfl))⟩
 f26:=⟨ "slices.partitionEqualCmpFunc[alembic/api.Thing]",by decide,func315.trans (aoI some (by kernel_rfl))⟩
 f27:=⟨ "slices.partitionCmpFunc[alembic/api.Thing]",by decide,func316.trans (aoI some (by kernel_rfl))⟩
 f28:=func243.trans (aoI some (by kernel_rfl))
 f29:=func244.trans (aoI some (by kernel_rfl))
 f46:=⟨ "slices.siftDownCmpFunc[alembic/api.Thing]",by decide,func367.trans (aoI some (by kernel_rfl))⟩
 f47:=func319.trans (aoI some (by kernel_rfl))
 f48:=func320.trans (aoI some (by kernel_rfl))
 f49:=⟨ "slices.medianAdjacentCmpFunc[alembic/api.Thing]",by decide,func368.trans (aoI some (by kernel_rfl))⟩
 f50:=⟨ "slices.medianCmpFunc[alembic/api.Thing]",by decide,func369.trans (aoI some (by kernel_rfl))⟩
 f57:=⟨ "slices.order2CmpFunc[alembic/api.Thing]",by decide,func395.trans (aoI some (by kernel_rfl))⟩
 t0:=underlying0
 a0:=Tryz.isAgg0
 z0:=Tryz.sizeOf0
 v0:=Tryz.zeroValue0
 t3:=underlying3
 a3:=Tryz.isAgg3
 z3:=Tryz.sizeOf3
 v3:=Tryz.zeroValue3
 t4:=underlying4
 a4:=Tryz.isAgg4
 z4:=Tryz.sizeOf4
 v4:=Tryz.zeroValue4
 t5:=underlying5
 a5:=Tryz.isAgg5
 z5:=Tryz.sizeOf5
 v5:=Tryz.zeroValue5
 t9:=underlying9
 a9:=Tryz.isAgg9
 z9:=Tryz.sizeOf9
 v9:=Tryz.zeroValue9
 t22:=underlying38
 a22:=Tryz.isAgg38
 z22:=Tryz.sizeOf38
 v22:=Tryz.zeroValue38
 t25:=underlying244
 a25:=Tryz.isAgg244
 z25:=Tryz.sizeOf244
 v25:=Tryz.zeroValue244
 t39:=underlying156
 a39:=Tryz.isAgg156
 z39:=Tryz.sizeOf156
 v39:=Tryz.zeroValue156
 t45:=underlying329
 a45:=Tryz.isAgg329
 z45:=Tryz.sizeOf329
 v45:=Tryz.zeroValue329
 t46:=underlying330
 a46:=Tryz.isAgg330
 z46:=Tryz.sizeOf330
 v46:=Tryz.zeroValue330
 t50:=underlying73
 a50:=Tryz.isAgg73
 z50:=Tryz.sizeOf73
 v50:=Tryz.zeroValue73
 t53:=underlying336
 a53:=Tryz.isAgg336
 z53:=Tryz.sizeOf336
 v53:=Tryz.zeroValue336
 t55:=underlying81
 a55:=Tryz.isAgg81
 z55:=Tryz.sizeOf81
 v55:=Tryz.zeroValue81
 t66:=underlying389
 a66:=Tryz.isAgg389
 z66:=Tryz.sizeOf389
 v66:=Tryz.zeroValue389
 t70:=underlying393
 a70:=Tryz.isAgg393
 z70:=Tryz.sizeOf393
 v70:=Tryz.zeroValue393
 t76:=underlying413
 a76:=Tryz.isAgg413
 z76:=Tryz.sizeOf413
 v76:=Tryz.zeroValue413
 t77:=underlying414
 a77:=Tryz.isAgg414
 z77:=Tryz.sizeOf414
 v77:=Tryz.zeroValue414}
def acN:Go.Shelf.Ren:=⟨λ| 6=>77 | 15=>157 | 14=>156 | 28=>243 | 29=>244 | 20=>235 | 21=>236 | 22=>237 | 23=>238 | 24=>239 | 25=>240 | 26=>241 | 27=>242 | 46=>318 | 47=>319 | 48=>320 | 49=>321 | 50=>322 | 57=>371 | n=>n,λ| 22=>37 | 24=>178 | 25=>180 | 3=>3 | 39=>156 | 0=>0 | 53=>336 | 55=>81 | 4=>4 | 46=>330 | 45=>329 | 50=>73 | 5=>5 | 9=>9 | 66=>389 | 70=>393 | 76=>413 | 77=>414 | n=>n,λ| n=>n⟩
theorem acM:Go.Proofs.SlLaysF0.n6 prog acN:={
 mixed:=by kernel_rfl
 f6:=⟨ "slices.SortFunc[[]alembic/api.Pair,alembic/api.Pair]",by decide,func77.trans (aoI some (by kernel_rfl))⟩
 f14:=⟨ "slices.pdqsortCmpFunc[alembic/api.Pair]",by decide,func156.trans (aoI some (by kernel_rfl))⟩
 f15:=func157.trans (aoI some (by kernel_rfl))
 f20:=⟨ "slices.insertionSortCmpFunc[alembic/api.Pair]",by decide,func235.trans (aoI some (by kernel_rfl))⟩
 f21:=⟨ "slices.heapSortCmpFunc[alembic/api.Pair]",by decide,func236.trans (aoI some (by kernel_rfl))⟩
 f22:=⟨ "slices.breakPatternsCmpFunc[alembic/api.Pair]",by decide,func237.trans (aoI some (by kernel_rfl))⟩
 f23:=⟨ "slices.choosePivotCmpFunc[alembic/api.Pair]",by decide,func238.trans (aoI some (by kernel_rfl))⟩
 f24:=⟨ "slices.reverseRangeCmpFunc[alembic/api.Pair]",by decide,func239.trans (aoI some (by kernel_rfl))⟩
 f25:=⟨ "slices.partialInsertionSortCmpFunc[alembic/api.Pair]",by decide,func240.trans (aoI some (by kernel_rfl))⟩
 f26:=⟨ "slices.partitionEqualCmpFunc[alembic/api.Pair]",by decide,func241.trans (aoI some (by kernel_rfl))⟩
 f27:=⟨ "slices.partitionCmpFunc[alembic/api.Pair]",by decide,func242.trans (aoI some (by kernel_rfl))⟩
 f28:=func243.trans (aoI some (by kernel_rfl))
 f29:=func244.trans (aoI some (by kernel_rfl))
 f46:=⟨ "slices.siftDownCmpFunc[alembic/api.Pair]",by decide,func318.trans (aoI some (by kernel_rfl))⟩
 f47:=func319.trans (aoI some (by kernel_rfl))
 f48:=func320.trans (aoI some (by kernel_rfl))
 f49:=⟨ "slices.medianAdjacentCmpFunc[alembic/api.Pair]",by decide,func321.trans (aoI some (by kernel_rfl))⟩
 f50:=⟨ "slices.medianCmpFunc[alembic/api.Pair]",by decide,func322.trans (aoI some (by kernel_rfl))⟩
 f57:=⟨ "slices.order2CmpFunc[alembic/api.Pair]",by decide,func371.trans (aoI some (by kernel_rfl))⟩
 t0:=underlying0
 a0:=Tryz.isAgg0
 z0:=Tryz.sizeOf0
 v0:=Tryz.zeroValue0
 t3:=underlying3
 a3:=Tryz.isAgg3
 z3:=Tryz.sizeOf3
 v3:=Tryz.zeroValue3
 t4:=underlying4
 a4:=Tryz.isAgg4
 z4:=Tryz.sizeOf4
 v4:=Tryz.zeroValue4
 t5:=underlying5
 a5:=Tryz.isAgg5
 z5:=Tryz.sizeOf5
 v5:=Tryz.zeroValue5
 t9:=underlying9
 a9:=Tryz.isAgg9
 z9:=Tryz.sizeOf9
 v9:=Tryz.zeroValue9
 t22:=underlying37
 a22:=Tryz.isAgg37
 z22:=Tryz.sizeOf37
 v22:=Tryz.zeroValue37
 t25:=underlying180
 a25:=Tryz.isAgg180
 z25:=Tryz.sizeOf180
 v25:=Tryz.zeroValue180
 t39:=underlying156
 a39:=Tryz.isAgg156
 z39:=Tryz.sizeOf156
 v39:=Tryz.zeroValue156
 t45:=underlying329
 a45:=Tryz.isAgg329
 z45:=Tryz.sizeOf329
 v45:=Tryz.zeroValue329
 t46:=underlying330
 a46:=Tryz.isAgg330
 z46:=Tryz.sizeOf330
 v46:=Tryz.zeroValue330
 t50:=underlying73
 a50:=Tryz.isAgg73
 z50:=Tryz.sizeOf73
 v50:=Tryz.zeroValue73
 t53:=underlying336
 a53:=Tryz.isAgg336
 z53:=Tryz.sizeOf336
 v53:=Tryz.zeroValue336
 t55:=underlying81
 a55:=Tryz.isAgg81
 z55:=Tryz.sizeOf81
 v55:=Tryz.zeroValue81
 t66:=underlying389
 a66:=Tryz.isAgg389
 z66:=Tryz.sizeOf389
 v66:=Tryz.zeroValue389
 t70:=underlying393
 a70:=Tryz.isAgg393
 z70:=Tryz.sizeOf393
 v70:=Tryz.zeroValue393
 t76:=underlying413
 a76:=Tryz.isAgg413
 z76:=Tryz.sizeOf413
 v76:=Tryz.zeroValue413
 t77:=underlying414
 a77:=Tryz.isAgg414
 z77:=Tryz.sizeOf414
 v77:=Tryz.zeroValue414}
end Go.Proofs.bA
