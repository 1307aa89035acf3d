/- Lemmas for the law WholeSound. -/
import Derived.Lib.TrailingZeros
import Derived.Test.YtiknadellddjhaaGreatDoorS01
set_option linter.all false
open Go.cc
namespace Go.gH
abbrev W:=BitVec 64
def fx(n:Int)(rows:List W):Bool:=decide (0<=n)&&decide (n<=64)&&decide ((rows.length:Int)=n)&&(decide (n=64)||rows.all λr=>r>>>n.toNat==0#64)
structure Ok(m:Nat)(rows:List W):Prop where
 le:m<=64
 len:rows.length=m
 high:∀r,r∈rows->∀j,m<=j->r.getLsbD j=false
theorem Ts(r:W)(m:Nat):r>>>m=0#64↔∀j,m<=j->r.getLsbD j=false:=by
 constructor
 ·intro h j ad;have:=amC (λx=>x.getLsbD (j-m)) h;simp only[anZ,aoh]at this;rwa[show m+(j-m)=j from by omega]at this
 intro h;apply an5;intro i hi;simp only[anZ,aoh];exact h _ (by omega)
theorem Gc(n:Int)(rows:List W):fx n rows=true↔∃m:Nat,n=m/\Ok m rows:=by
 unfold fx;simp only[ami,amr,amj,ank,an1];constructor
 ·rintro⟨⟨⟨h0,h1⟩,h2⟩,h3⟩;refine⟨n.toNat,by omega,by omega,by omega,λr aH j ad=>?_⟩;rcases h3 with h3 | h3
  ·exact BitVec.getLsbD_of_ge _ _ (by omega)
  exact(Ts r _).1 (h3 r aH) j ad
 rintro⟨m,rfl,h1,h2,h3⟩;refine⟨⟨⟨by omega,by omega⟩,by omega⟩,.inr λr aH=>?_⟩;exact(Ts r _).2 (λj ad=>h3 r aH j (by simpa using ad))
theorem MJ(x:W)(s:Nat):(x>>>s&&& 1#64=1#64)↔x.getLsbD s=true:=by
 constructor
 ·intro h;have:=amC (λx=>x.getLsbD 0) h;simpa using this
 intro h;apply an5;intro i hi;simp only[an6,anZ,an4];by_cases h0:i=0
 ·subst h0;simp[h]
 simp[h0]
theorem DJ(x:W)(j:Nat)(ad:j<64):decide (x>>>(BitVec.ofInt 64 (j:Int)).toNat&&& 1#64=1#64)=x.getLsbD j:=by
 have h1:(BitVec.ofInt 64 (j:Int)).toNat=j:=by simp;omega
 rw[h1];cases hb:x.getLsbD j with
 | true=>exact amq ((MJ x j).2 hb)
 | false=>exact amy (λh=>by rw[(MJ x j).1 h]at hb;cases hb)
theorem FL(j:Nat)(ad:j<64):(BitVec.ofInt 64 (j:Int)).toNat=j:=by simp;omega
def put(rows:List W)(a b:Nat):List W:=rows.set a (rows.getD a default||| 1#64<<<b)
def vV(m:Nat):List W->List b5->Option (List W)
 | rows,[]=>some rows
 | rows,p::l=>if 0<=p.A/\p.A<m/\0<=p.B/\p.B<m then vV m (put rows p.A.toNat p.B.toNat) l else none
def rl(n:Int)(l:List b5):Option (List W):=if 0<=n/\n<=64 then vV n.toNat (List.replicate n.toNat 0#64) l else none
theorem KE(rows:List W)(a b:Nat):(put rows a b).length=rows.length:=by simp[put]
def bitsOf(r:W):List Nat:=(List.range 64).filter λj=>r.getLsbD j
def has(n:Int)(rows:List W)(a b:Int):Bool:=fx n rows&&(decide (0<=a)&&decide (a<n)&&decide (0<=b)&&decide (b<n)&&(rows.getD a.toNat default).getLsbD b.toNat)
def nt(m:Nat)(rows:List W):List b5:=(List.range m).flatMap λ(i:Nat)=>(bitsOf (rows.getD i default)).map λ(j:Nat)=>(⟨i,j⟩:b5)
def oD(r:W):Nat:=Lib.ctz 64 r.toNat
theorem Df(r:W)(h:r≠0#64):oD r<64/\(r&&& -r).toNat=2 ^ oD r:=by have h0:r.toNat≠0:=λe=>h (BitVec.eq_of_toNat_eq (by simpa using e));obtain⟨h1,h2⟩:=Lib.lowest_bit 64 r.toNat h0 r.isLt;refine⟨h2,?_⟩;rw[BitVec.toNat_and,BitVec.toNat_neg,aoj (by have:=r.isLt;omega)];exact h1
theorem ahx(r:W)(h:r≠0#64):(((r&&& -r)* 285870213051353865#64)>>>58).toNat<64/\Lib.deBruijn64tab.getD (((r&&& -r)* 285870213051353865#64)>>>58).toNat 0=oD r:=by
 obtain⟨h1,h2⟩:=Df r h;have e:(((r&&& -r)* 285870213051353865#64)>>>58).toNat=2 ^ oD r* 285870213051353865 % 18446744073709551616 / 288230376151711744:=by rw[BitVec.toNat_ushiftRight,BitVec.toNat_mul,h2,Nat.shiftRight_eq_div_pow];rfl
 rw[e];exact Lib.deBruijn64_at (oD r) h1
theorem WH(r:W)(h:r≠0#64):∃m,r.toNat=2 ^ oD r* (2* m+1):=by have h0:r.toNat≠0:=λe=>h (BitVec.eq_of_toNat_eq (by simpa using e));obtain⟨m,hm,_⟩:=Lib.ctzFrom_spec 64 r.toNat (by omega) r.isLt;exact⟨m,by simpa[oD,Lib.ctz,h0]using hm⟩
theorem ahv(r:W)(h:r≠0#64)(j:Nat):(j<oD r->r.getLsbD j=false)/\r.getLsbD (oD r)=true/\(r&&& (r-1#64)).getLsbD j=(r.getLsbD j&&decide (j≠oD r)):=by
 obtain⟨m,hm⟩:=WH r h;obtain⟨hk,_⟩:=Df r h;generalize yc:oD r=k at *;have bit:∀j,r.getLsbD j=(decide (j>=k)&&(2* m+1).testBit (j-k)):=λj=>by rw[<-BitVec.testBit_toNat,hm,Nat.testBit_two_pow_mul]
 have oh:0<2 ^ k:=Nat.two_pow_pos k;have kE:(r-1#64).toNat=2 ^ k* (2* m)+(2 ^ k-1):=by
  have h1:1<=r.toNat:=by rw[hm];exact Nat.mul_pos oh (by omega)
  have h2:(r-1#64).toNat=r.toNat-1:=by rw[BitVec.toNat_sub];have:=r.isLt;simp;omega
  rw[h2,hm,Nat.mul_add];omega
 have VY:∀j,(r-1#64).getLsbD j=if j<k then true else(2* m).testBit (j-k):=λj=>by
  rw[<-BitVec.testBit_toNat,kE,Nat.testBit_two_pow_mul_add _ (by omega)];split
  ·rename_i ad;rw[Nat.testBit_two_pow_sub_one];simp[ad]
  rfl
 refine⟨λad=>by rw[bit];simp;omega,by rw[bit];simp,?_⟩;rw[an6,bit,VY];by_cases ad:j<k
 ·simp[show ¬k<=j from by omega]
 simp only[ad,aor];by_cases fM:j=k
 ·subst fM;simp
 obtain⟨i,hi⟩:∃i,j-k=i+1:=⟨j-k-1,by omega⟩;rw[hi,Nat.testBit_succ,Nat.testBit_succ,show(2* m+1) / 2=m from by omega,show 2* m / 2=m from by omega];cases m.testBit i<;>simp[fM,show k<=j from by omega]
theorem V1:bitsOf 0#64=[]:=by unfold bitsOf;rw[anN];intro j _;simp
theorem M6(r:W)(h:r≠0#64):bitsOf r=oD r::bitsOf (r&&& (r-1#64)):=by
 obtain⟨hk,_⟩:=Df r h;have hb:=ahv r h;generalize oD r=k at *;unfold bitsOf;have aH:List.range 64=List.range k++k::List.range' (k+1) (63-k):=by rw[List.range_eq_range',List.range_eq_range',show(64:Nat)=k+((63-k)+1)from by omega,<-List.range'_append_1,aoO,List.range'_succ]
 have Pl:∀(p:Nat->Bool),(∀j,j<k->p j=false)->(List.range k).filter p=[]:=λp hp=>by rw[anN];intro j ad;rw[hp j (amH.1 ad)];simp
 rw[aH,anc,anc,Pl _ λj ad=>(hb j).1 ad,Pl _ (λj ad=>by rw[(hb j).2.2,(hb j).1 ad];rfl),anf,anf,anX (hb k).2.1,anI (by rw[(hb k).2.2];simp)]
 congr 1;refine List.filter_congr λj ad=>?_;rw[List.mem_range'_1]at ad;rw[(hb j).2.2];simp[show j≠k from by omega]
theorem Q0(r:W)(j:Nat):j∈bitsOf r↔r.getLsbD j=true:=by
 unfold bitsOf;rw[am5,amH];constructor
 ·exact λh=>h.2
 intro h;refine⟨?_,h⟩;rcases amY j 64 with cr | cr
 ·exact cr
 rw[BitVec.getLsbD_of_ge _ _ cr]at h;cases h
theorem V0(r:W)(jS:List Nat)(s:W)(h:bitsOf r=jS++bitsOf s)(ag:s≠0#64):bitsOf r=(jS++[oD s])++bitsOf (s&&& (s-1#64)):=by rw[h,M6 s ag,amJ];rfl
theorem M4(r:W):(bitsOf r).length<=64:=by unfold bitsOf;have:=anj (λj=>r.getLsbD j) (List.range 64);simpa using this
def vY(i:Int)(jS:List Nat):List b5:=jS.map λ(j:Nat)=>(⟨i,j⟩:b5)
theorem RN(k:Nat)(rows:List W):nt (k+1) rows=nt k rows++vY k (bitsOf (rows.getD k default)):=by unfold nt vY;rw[am6,am4];simp
theorem Ko(k:Nat)(rows:List W):(nt k rows).length<=k* 64:=by
 induction k with
 | zero=>simp[nt]
 | succ k bH=>rw[RN,ams];have:=M4 (rows.getD k default);simp only[vY,amD];omega
theorem uF{n:Int}{rows:List W}(h:fx n rows=true):∃m:Nat,n=m/\m<=64/\rows.length=m:=by obtain⟨m,hm,bm⟩:=(Gc n rows).1 h;exact⟨m,hm,bm.le,bm.len⟩
theorem ae6{m:Nat}{rows:List W}(h:fx m rows=true)(k:Nat):∀j,m<=j->(rows.getD k default).getLsbD j=false:=by
 obtain⟨m',ki,hok⟩:=(Gc _ _).1 h;intro j ad;by_cases hk:k<rows.length
 ·exact hok.high _ (amF (getD_some hk)) j (by omega)
 rw[aml,amR (by omega)];exact aoh
def sZ(k:Nat)(rows:List W)(i:Nat):List W:=if(rows.getD i default).getLsbD k=true then rows.set i (rows.getD i default||| rows.getD k default)else rows
def wL(m:Nat)(rows:List W)(k:Nat):List W:=(List.range m).foldl (sZ k) rows
def tQ(m:Nat)(rows:List W):List W:=(List.range m).foldl (wL m) rows
theorem foldl_succ{α:Type}(f:α->Nat->α)(a:α)(k:Nat):(List.range (k+1)).foldl f a=f ((List.range k).foldl f a) k:=by rw[am6,an3];rfl
theorem NF(k:Nat)(rows:List W)(i:Nat):(sZ k rows i).length=rows.length:=by unfold sZ;split<;>simp
theorem HR(f:List W->Nat->List W)(h:∀r i,(f r i).length=r.length)(l:List Nat)(rows:List W):(l.foldl f rows).length=rows.length:=by
 induction l generalizing rows with
 | nil=>rfl
 | cons x l bH=>rw[anJ,bH,h]
theorem ND(m k:Nat)(rows:List W):(wL m rows k).length=rows.length:=HR _ (NF k) _ _
theorem Wc(m:Nat)(rows:List W):(tQ m rows).length=rows.length:=HR _ (λr k=>ND m k r) _ _
def rB(m:Nat)(rows:List W):Bool:=(List.range m).any λi=>((tQ m rows).getD i default).getLsbD i
theorem JY(m:Nat)(rows:List W)(h:rows.length=m):(List.range m).map (λi=>rows.getD i default)=rows:=by apply anw (by simp[h]);intro i h1 h2;rw[List.getElem_map,List.getElem_range,aml,amp h2];rfl
def u9(rows:List W)(done:W)(n:Nat):W:=(List.range n).foldl (λb i=>if done.getLsbD i=true then b else b||| rows.getD i default) 0#64
def xU(m:Nat)(x:W):Option Nat:=(List.range m).find? λi=>!x.getLsbD i
def yD(m:Nat)(rows:List W)(s:W×List Int)(_:Nat):W×List Int:=
 match xU m (s.1||| u9 rows s.1 m)with
 | some i=>(s.1||| 1#64<<<i,s.2++[(i:Int)])
 | none=>s
def rj(m:Nat)(rows:List W)(n:Nat):W×List Int:=(List.range n).foldl (yD m rows) (0#64,[])
def JO(m:Nat)(rows:List W):List Int:=(rj m rows m).2
theorem MT(rows:List W)(done:W)(n:Nat):u9 rows done (n+1)=if done.getLsbD n=true then u9 rows done n else u9 rows done n||| rows.getD n default:=by unfold u9;rw[am6,an3];rfl
theorem JN(m:Nat)(rows:List W)(n:Nat):rj m rows (n+1)=yD m rows (rj m rows n) n:=by unfold rj;rw[am6,an3];rfl
theorem abU(m:Nat)(rows:List W)(s:W×List Int)(n:Nat):(yD m rows s n).2.length<=s.2.length+1:=by unfold yD;split<;>simp
theorem abG(m:Nat)(rows:List W)(n:Nat):(rj m rows n).2.length<=n:=by
 induction n with
 | zero=>simp[rj]
 | succ n bH=>rw[JN];have:=abU m rows (rj m rows n) n;omega
theorem XC(m:Nat)(x:W)(i:Nat)(hi:i<m)(h:x.getLsbD i=false)(aB:∀j,j<i->x.getLsbD j=true):xU m x=some i:=by unfold xU;rw[List.find?_range_eq_some];refine⟨by simp[h],by simpa using hi,λj ad=>by simp[aB j ad]⟩
theorem XB(m:Nat)(x:W)(aB:∀j,j<m->x.getLsbD j=true):xU m x=none:=by unfold xU;rw[List.find?_eq_none];intro j ad;rw[amH]at ad;simp[aB j ad]
theorem MI(x:W)(s:Nat):(x>>>s&&& 1#64=0#64)↔x.getLsbD s=false:=by
 constructor
 ·intro h;have:=amC (λx=>x.getLsbD 0) h;simpa using this
 intro h;apply an5;intro i hi;simp only[an6,anZ,an4,aoh];by_cases h0:i=0
 ·subst h0;simp[h]
 simp[h0]
theorem Aj(x:W)(j:Nat)(ad:j<64):decide (x>>>(BitVec.ofInt 64 (j:Int)).toNat&&& 1#64=0#64)=!x.getLsbD j:=by
 rw[FL j ad];cases hb:x.getLsbD j with
 | true=>exact amy (λh=>by rw[(MI x j).1 h]at hb;cases hb)
 | false=>exact amq ((MI x j).2 hb)
def aT(rows:List W)(a b:Nat):Bool:=(rows.getD a default).getLsbD b
theorem Hi{xs ys:List W}(aB:xs.length=ys.length)(h:∀a b,a<xs.length->b<64->aT xs a b=aT ys a b):xs=ys:=by apply anw aB;intro i h1 h2;apply an5;intro j ad;have:=h i j h1 ad;unfold aT at this;rwa[aml,aml,amp h1,amp h2]at this
theorem ady(rows:List W)(a b x y:Nat)(au:a<rows.length)(hb:b<64):aT (put rows a b) x y=(aT rows x y||(decide (x=a)&&decide (y=b))):=by
 unfold aT put;rw[aml,aoC];by_cases hx:a=x
 ·subst hx;rw[amo rfl,amo au,anE,anW];congr 1;rw[anQ,an4];by_cases aR:y=b
  ·subst aR;simp[hb]
  simp[aR];omega
 rw[amn hx,<-aml];simp[show ¬x=a from λh=>hx h.symm]
theorem V4(m a b:Nat):aT (List.replicate m 0#64) a b=false:=by
 unfold aT;rw[aml,anb];split
 ·simp
 exact aoh
def rowOf(m:Nat)(p:Nat->Bool):W:=(List.range m).foldl (λr b=>if p b=true then r||| 1#64<<<b else r) 0#64
theorem Gj(m:Nat)(p:Nat->Bool):rowOf (m+1) p=if p m=true then rowOf m p||| 1#64<<<m else rowOf m p:=by unfold rowOf;rw[am6,an3];rfl
theorem afm(m:Nat)(p:Nat->Bool)(h:m<=64)(b:Nat):(rowOf m p).getLsbD b=(decide (b<m)&&p b):=by
 induction m with
 | zero=>simp[rowOf]
 | succ m bH=>
  rw[Gj];have bH:=bH (by omega);have h1:(1#64<<<m).getLsbD b=decide (b=m):=by
   rw[anQ,an4];by_cases hb:b=m
   ·subst hb;simp;omega
   simp[hb];omega
  by_cases hp:p m=true
  ·rw[amo hp,anW,bH,h1];by_cases hb:b=m
   ·subst hb;simp[hp]
   simp only[hb,aoQ,aoU];rw[am3.2 (show b<m↔b<m+1 from by omega)]
  rw[amn hp,bH];by_cases hb:b=m
  ·subst hb;simp[hp]
  rw[am3.2 (show b<m↔b<m+1 from by omega)]
def bT(m:Nat)(p:Nat->Nat->Bool):List W:=(List.range m).map λa=>rowOf m (p a)
theorem AH(m:Nat)(p:Nat->Nat->Bool)(h:m<=64)(a b:Nat):aT (bT m p) a b=(decide (a<m)&&decide (b<m)&&p a b):=by
 unfold aT bT;rw[aml,amZ];by_cases au:a<m
 ·rw[ann au];simp[afm m _ h,au]
 rw[amR (by simp;omega)];simp[au];exact aoh
theorem qM{m:Nat}{p q:Nat->Nat->Bool}(h:∀a b,a<m->b<m->p a b=q a b):bT m p=bT m q:=by
 unfold bT;refine an0 λa au=>?_;rw[amH]at au;have key:∀n,n<=m->rowOf n (p a)=rowOf n (q a):=by
  intro n bh
  induction n with
  | zero=>rfl
  | succ n bH=>rw[Gj,Gj,bH (by omega),h a n au (by omega)]
 exact key m (amK _)
theorem yT(m:Nat)(p:Nat->Nat->Bool):(bT m p).length=m:=by simp[bT]
theorem adz(m:Nat)(p:Nat->Nat->Bool)(h:m<=64)(i j:Nat)(hi:i<m)(ad:j<m):put (bT m p) i j=bT m λa b=>p a b||(decide (a=i)&&decide (b=j)):=by
 refine Hi (by simp[KE,yT]) λa b au hb=>?_;rw[KE,yT]at au;rw[ady _ _ _ _ _ (by rw[yT];exact hi) (by omega),AH _ _ h,AH _ _ h];by_cases Ew:b<m
 ·simp[au,Ew]
 simp[Ew,show ¬b=j from by omega]
theorem ae5(m:Nat):bT m (λ_ _=>false)=List.replicate m 0#64:=by
 refine Hi (by simp[yT]) λa b au hb=>?_;rw[V4];unfold aT bT;rw[aml,amZ];rw[yT]at au;rw[ann au];have key:∀n,rowOf n (λ_=>false)=0#64:=by
  intro n
  induction n with
  | zero=>rfl
  | succ n bH=>rw[Gj,bH];rfl
 simp[key]
theorem QV(m:Nat)(f:Nat->W)(p:Nat->Nat->Bool)(h:m<=64)(hf:∀i j,i<m->j<64->(f i).getLsbD j=(decide (j<m)&&p i j)):(List.range m).map f=bT m p:=by refine Hi (by simp[yT]) λa b au hb=>?_;simp only[amD,aoD]at au;rw[AH _ _ h];unfold aT;rw[aml,amZ,ann au];simp[hf a b au hb,au]
theorem KW{m:Nat}{rows:List W}(h:fx m rows=true)(a b:Nat)(hb:m<=b):aT rows a b=false:=ae6 h a b hb
theorem Nd(rows:List W)(a b:Nat)(h:rows.length<=a):aT rows a b=false:=by unfold aT;rw[aml,amR h];exact aoh
theorem lz(m:Nat)(p:Nat->Nat->Bool)(h:m<=64):fx m (bT m p)=true:=by rw[Gc];refine⟨m,rfl,h,yT m p,λr aH j ad=>?_⟩;obtain⟨a,au⟩:=anv aH;have h1:=AH m p h a j;unfold aT at h1;rw[aml,au]at h1;simp only[anE]at h1;rw[h1];simp;omega
def vf(b:Bool):Int:=if b=true then 0 else 10
def Kb(b:Bool)(n:Int):Int:=if b=true then n else 0
def od(a:Int)(fN:List W)(b:Int)(gn:List W):Int:=if(fx a fN&&fx b gn)=true then(if a=b then 0 else 11)else 10
def cp(e:Int)(n:Int):Int:=if e=0 then n else 0
def Kr(n:Int)(rows:List W)(f t:W):List W:=if fx n rows=true then bT n.toNat λa b=>aT rows a b&&f.getLsbD a&&t.getLsbD b else []
def FF(op:Bool->Bool->Bool)(a:Int)(fN:List W)(b:Int)(gn:List W):List W:=if od a fN b gn=0 then bT a.toNat λi j=>op (aT fN i j) (aT gn i j)else []
theorem HF{a b:Int}{fN gn:List W}(h:od a fN b gn=0):fx a fN=true/\fx b gn=true/\a=b:=by
 unfold od at h;by_cases h1:(fx a fN&&fx b gn)=true
 ·rw[amo h1]at h;by_cases h2:a=b
  ·simp only[ami]at h1;exact⟨h1.1,h1.2,h2⟩
  rw[amn h2]at h;omega
 rw[amn h1]at h;omega
end Go.gH
