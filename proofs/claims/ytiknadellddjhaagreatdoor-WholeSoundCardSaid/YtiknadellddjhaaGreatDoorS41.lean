/- Lemmas for the law WholeSound. -/
import Derived.Test.YtiknadellddjhaaGreatDoorS35
set_option linter.all false
open Go.Proofs.Tryz
set_option maxHeartbeats 12800000
open Go Go.cc Go.bU
namespace Go.cc
open Go Go.bU
theorem UF(n:Int):IntKind.i64.wrap n=(BitVec.ofInt 64 n).toInt:=by unfold IntKind.wrap;rw[aoN];simp only[IntKind.bits,IntKind.signed];unfold Int.bmod;simp;omega
section
variable {P:Program} {N:Nat} {A:World->Prop} {tm:dU} {c:Bool}
theorem aeN{t dt:TypeId}{x y:Operand}{m n:Int}(hx:bo tm c x (.int .i64 m))(aR:bo tm c y (.int .i64 n)):bR P N (.binOp .xor t x y dt) tm A c (.int .i64 (BitVec.ofInt 64 m ^^^ BitVec.ofInt 64 n).toInt):=
 oA hx aR (λw=>by simp only[binOp,Op.intBits,ne_eq,aoX,aor];show Result.ok (Value.int .i64 (IntKind.i64.wrap (((BitVec.ofInt 64 m ^^^ BitVec.ofInt 64 n).toNat:Nat):Int))) w=_;rw[UF,aok,BitVec.ofNat_toNat];simp)
theorem aeF{t dt:TypeId}{x y:Operand}{m n:Int}(hx:bo tm c x (.int .i64 m))(aR:bo tm c y (.int .i64 n)):bR P N (.binOp .or t x y dt) tm A c (.int .i64 (BitVec.ofInt 64 m||| BitVec.ofInt 64 n).toInt):=
 oA hx aR (λw=>by simp only[binOp,Op.intBits,ne_eq,aoX,aor];show Result.ok (Value.int .i64 (IntKind.i64.wrap (((BitVec.ofInt 64 m||| BitVec.ofInt 64 n).toNat:Nat):Int))) w=_;rw[UF,aok,BitVec.ofNat_toNat];simp)
end
theorem D6{n:Int}(h: -2147483648<=n/\n<=2147483647):BitVec.ofInt 64 n=(BitVec.ofInt 32 n).signExtend 64:=by rw[BitVec.signExtend];congr 1;rw[aoN];unfold Int.bmod;simp;omega
theorem aiA{m n:Int}(h1: -2147483648<=m/\m<=2147483647)(h2: -2147483648<=n/\n<=2147483647):(BitVec.ofInt 64 m ^^^ BitVec.ofInt 64 n).toInt=(BitVec.ofInt 32 m ^^^ BitVec.ofInt 32 n).toInt:=by rw[D6 h1,D6 h2,<-BitVec.signExtend_xor,BitVec.toInt_signExtend_of_le (by omega)]
theorem acV{m n:Int}(h1: -2147483648<=m/\m<=2147483647)(h2: -2147483648<=n/\n<=2147483647):(BitVec.ofInt 64 m||| BitVec.ofInt 64 n).toInt=(BitVec.ofInt 32 m||| BitVec.ofInt 32 n).toInt:=by rw[D6 h1,D6 h2,<-BitVec.signExtend_or,BitVec.toInt_signExtend_of_le (by omega)]
end Go.cc
attribute [local irreducible] Go.wpList Go.Code.wp Go.bodyPost Go.Exit.then Go.Exit.inBlock Go.Calls
namespace Go.Proofs.bK
theorem afg(n:Int)(w:World):bj prog 291 [.int .i64 n] w λ_ v _=>v=.int .i64 (BitVec.ofInt 32 n).toInt:=by refine gP func291 ntmps291 ?_;refine dg v7 (ab:=af ?_);refine dg CV (ab:=af ?_);exact bP rfl (.t1 rfl) λI hw=>rfl
def n3(h:fO):Bool:=decide (h.k=1)&&decide (h.n=0)
def mu(a b:fO):Bool:=decide (a.k=1)&&decide (b.k=1)
def k7(op:Int)(a b:fO):fO:=
 if n3 b=true then a else if n3 a=true then b
 else if(mu a b&&decide (op=10))=true then⟨1,(BitVec.ofInt 32 (a.n+b.n)).toInt,a8,0#64⟩
 else if(mu a b&&decide (op=9))=true then⟨1,(BitVec.ofInt 64 a.n ^^^ BitVec.ofInt 64 b.n).toInt,a8,0#64⟩
 else if mu a b=true then⟨1,(BitVec.ofInt 64 a.n||| BitVec.ofInt 64 b.n).toInt,a8,0#64⟩
 else⟨4,0,a8,0#64⟩
def vQ(op:Int)(a b:fO):fO:={k7 op a b with on:=a.on||| b.on}
theorem KZ(op:Int)(a b:fO)(w:World)(au: -2147483648<=a.n/\a.n<=2147483647)(hb: -2147483648<=b.n/\b.n<=2147483647):bj prog 209 [.int .i64 op,.agg (gi a).toArray,.agg (gi b).toArray] w λ_ v _=>v=.agg (gi (vQ op a b)).toArray:=by
 refine gP func209 ntmps209 ?_;refine eQ λcO=>?_;refine eQ λea=>?_;refine dH λcS=>?_;refine dH λeb=>?_;refine c0 0 ?_;refine ao (bw (λI hw=>SM b I) ?_);rintro v11 bx a6 rfl cA;refine af ?_;refine wu (λ_:Unit=>True) (λ_=>[(7,true,ax eb),(6,true,ax cS),(5,true,ax ea),(4,true,ax cO)]) (λ_=>Mem [(w,an)] [.box eb (gi (k7 op a b)) 133,.box cS [.int .i64 0,.int .i64 0,.string ByteArray.empty,u64 0#64] 133,.box ea (gi b) 133,.box cO (gi a) 133]) ?_ ?_
 ·refine bA (λh1=>?_) λh1=>?_
  ·have cb:n3 b=true:=h1;refine af ?_;refine c0 0 ?_;exact bZ () trivial (hA:=λ_ h=>by unfold k7;rw[amo cb];exact h.cI)
  have cb:¬n3 b=true:=by unfold n3;rw[h1];exact ant
  refine af ?_;refine ao (bw (λI hw=>SM a I) ?_);rintro LR cp bX rfl fq;refine di (λh2=>?_) λh2=>?_
  ·have bF:n3 a=true:=h2;refine af ?_;refine c0 0 ?_;exact bZ () trivial (hA:=λ_ h=>by unfold k7;rw[amn cb,amo bF];exact h.cI.cI)
  have bF:¬n3 a=true:=by unfold n3;rw[h2];exact ant
  refine af ?_;have DY:(bO (a.k=1)&&bO (b.k=1)&&bO (op=10))=(mu a b&&decide (op=10)):=by unfold mu;simp only[ch]
  have zo:(bO (a.k=1)&&bO (b.k=1)&&bO (op=9))=(mu a b&&decide (op=9)):=by unfold mu;simp only[ch]
  have wN:(bO (a.k=1)&&bO (b.k=1))=mu a b:=by unfold mu;simp only[ch]
  refine bA (λh3=>?_) λh3=>?_
  ·rw[DY]at h3;refine af ?_;refine ao (bw (λI hw=>afg (a.n+b.n) I) ?_);rintro v35 hD gb rfl nj;refine af ?_;refine c0 0 ?_;exact bZ () trivial (hA:=λ_ h=>by unfold k7;rw[amn cb,amn bF,amo h3];exact h.cI.cI.cI)
  rw[DY]at h3;have dw:¬(mu a b&&decide (op=10))=true:=by rw[h3];exact ant
  refine di (λaC=>?_) λaC=>?_
  ·rw[zo]at aC;refine af ?_;refine dg (aeN (bY rfl) (bY rfl)) (ab:=af ?_);refine c0 0 ?_;exact bZ () trivial (hA:=λ_ h=>by unfold k7;rw[amn cb,amn bF,amn dw,amo aC];exact h.cI.cI)
  rw[zo]at aC;have c5:¬(mu a b&&decide (op=9))=true:=by rw[aC];exact ant
  refine di (λaW=>?_) λaW=>?_
  ·rw[wN]at aW;refine af ?_;refine dg (aeF (bY rfl) (bY rfl)) (ab:=af ?_);refine c0 0 ?_;exact bZ () trivial (hA:=λ_ h=>by unfold k7;rw[amn cb,amn bF,amn dw,amn c5,amo aW];exact h.cI.cI)
  rw[wN]at aW;refine af ?_;exact bZ () trivial (hA:=λ_ h=>by unfold k7;rw[amn cb,amn bF,amn dw,amn c5,amn (by rw[aW];exact ant)];exact h.cI.cI)
 rintro⟨⟩ _;refine af ?_;refine c0 0 ?_;refine c0 1 ?_;exact bP rfl (.c1 rfl ds rfl) λI hw=>rfl
def qi(l:List b5)(n:Nat):List b5:=(List.range n).flatMap λ(a:Nat)=>l.filter λp=>decide (p.A=(a:Int))
theorem Gs(l:List b5)(n:Nat):qi l (n+1)=qi l n++l.filter λp=>decide (p.A=(n:Int)):=by unfold qi;rw[am6,am4];simp
theorem Xt(l:List b5)(a:Int){i:Nat}(hi:i<l.length):(l.take (i+1)).filter (λp=>decide (p.A=a))=if(l.getD i default).A=a then(l.take i).filter (λp=>decide (p.A=a))++[l.getD i default]else(l.take i).filter (λp=>decide (p.A=a)):=by
 rw[ang,getD_some hi,anc,show(some (l.getD i default)).toList=[l.getD i default]from rfl];generalize l.getD i default=x;have e:[x].filter (λp=>decide (p.A=a))=if x.A=a then [x]else []:=by simp[List.filter_cons]
 rw[e];by_cases q:x.A=a
 ·rw[amo q,amo q]
 rw[amn q,amn q,amB]
theorem TC(l:List b5):∀n,(qi l n).length<=n* l.length
 | 0=>by unfold qi;simp
 | n+1=>by rw[Gs,ams,aoo];exact Nat.add_le_add (TC l n) (anj _ _)
theorem K0(lv:Value)(l:List b5)(w:World)(aB:aV an w bz 2 lv l)(bh:l.length<=10000):bj prog 51 [lv] w λn v I=>aV (Fr n) I bz 2 v (qi l 64):=by
 have te:=aB.aG;refine gP func51 ntmps51 ?_;refine dZ 178 2 bz ?_;refine b9 (λz:Nat×Value=>z.1<=64/\aD z.2) (λz=>[(4,true,.int .i64 z.1),(3,true,z.2),(0,true,lv)]) (λz=>Mem [(w,an)] [.own z.2 178 2 bz (qi l z.1)]) (λz=>64-z.1) (0,U) ⟨by omega,cZ⟩ ?_
 rintro⟨a,v⟩ ⟨au,aw⟩;dsimp only at au aw⊢;have zS:=TC l a;have hmul:a* l.length<=64* 10000:=Nat.mul_le_mul au bh;refine di (λh1=>?_) λh1=>?_
 ·have cb:a<64:=by rw[aq]at h1;omega
  refine af ?_;refine b9 (λz:Nat×Value=>z.1<=l.length/\aD z.2) (λz=>[(5,true,.int .i64 z.1),(4,true,.int .i64 a),(3,true,z.2),(0,true,lv)]) (λz=>Mem [(w,an)] [.own z.2 178 2 bz (qi l a++(l.take z.1).filter λp=>decide (p.A=(a:Int)))]) (λz=>l.length-z.1) (0,v) ⟨amz _,aw⟩ ?_ ⟨rfl,rfl,rfl,rfl,trivial⟩ (λ_ h=>by dsimp only;rw[List.take_zero,List.filter_nil,amB];exact h)
  rintro⟨i,v⟩ ⟨hi,aw⟩;dsimp only at hi aw⊢;have x6:((l.take i).filter λp=>decide (p.A=(a:Int))).length<=l.length:=ani (anj _ _) (List.length_take_le' ..);refine di (λh2=>?_) λh2=>?_
  ·have bF:i<l.length:=by rw[aq]at h2;omega
   have hf:=Xt l (a:Int) bF;refine di (λh3=>?_) λh3=>?_
   ·rw[aq]at h3;rw[amo h3]at hf;refine af ?_;refine ao (eA bz DV (e:=178) (sz:=2) (len:=1) (dF:=[(0,bz (l.getD i default))]) (ab:=λv28 PW=>af ?_));refine ao (e6 1 (hm:=aL) (hk:=rfl) (bG:=by simp only[ams,amD,amI,amW];omega) (ab:=λUk Z5=>af ?_));exact bt (i+1,Uk) ⟨bF,Z5⟩ (show l.length-(i+1)<l.length-i by omega) (hA:=λ_ h=>by dsimp only;rw[hf,<-amJ];exact h.tail)
   rw[ar]at h3;rw[amn h3]at hf;refine af ?_;exact bt (i+1,v) ⟨bF,aw⟩ (show l.length-(i+1)<l.length-i by omega) (hA:=λ_ h=>by dsimp only;rw[hf];exact h)
  have bF:i=l.length:=by rw[ar]at h2;omega
  subst bF;refine af ?_;exact bt (a+1,v) ⟨cb,aw⟩ (show 64-(a+1)<64-a by omega) (hA:=λ_ h=>by dsimp only;rw[Gs];rw[amU]at h;exact h)
 have cb:a=64:=by rw[ar]at h1;omega
 subst cb;refine af ?_;exact bP rfl (.t1 rfl) λI hw=>hw.hK aL aL
def xN(h:fO):Option gG:=if h.k=1 then some ⟨1,h.n⟩else if h.k=3 then some ⟨2,h.n⟩else none
theorem SH(h:fO)(w:World):bj prog 50 [.agg (gi h).toArray] w λ_ v _=>v=.tuple #[.agg (pv ((xN h).getD ⟨0,0⟩)).toArray,.bool (xN h).isSome]:=by
 refine gP func50 ntmps50 ?_;refine eQ λhJ=>?_;refine dH λdy=>?_;refine bA (λh1=>?_) λh1=>?_
 ·rw[aq]at h1;refine af ?_;refine c0 0 ?_;refine bP rfl (.dz rfl aL rfl (.t1 rfl)) λI hw=>?_;unfold xN;rw[amo h1];rfl
 rw[ar]at h1;refine di (λh2=>?_) λh2=>?_
 ·rw[aq]at h2;refine af ?_;refine c0 0 ?_;refine bP rfl (.dz rfl aL rfl (.t1 rfl)) λI hw=>?_;unfold xN;rw[amn h1,amo h2];rfl
 rw[ar]at h2;refine af ?_;refine c0 0 ?_;refine bP rfl (.dz rfl aL rfl (.t1 rfl)) λI hw=>?_;unfold xN;rw[amn h1,amn h2];rfl
def vG(x:l0):fO:=if x.value.loc=a8 then⟨1,x.value.n,a8,0#64⟩else⟨2,0,x.value.loc,0#64⟩
def sP(t:aM)(k:Int)(j:Nat):List fO:=(t.init.take j).foldl (λl x=>if x.aI=k then l.set x.bq.toNat (vG x)else l) (List.replicate (b3 t.az) ⟨1,0,a8,0#64⟩)
theorem MR(t:aM)(k:Int){j:Nat}(ad:j<t.init.length):sP t k (j+1)=if(t.init.getD j default).aI=k then(sP t k j).set (t.init.getD j default).bq.toNat (vG (t.init.getD j default))else sP t k j:=by unfold sP;rw[ang,getD_some ad,an3];rfl
theorem He(t:aM)(k:Int):∀j,j<=t.init.length->(sP t k j).length=b3 t.az
 | 0,_=>by unfold sP;simp
 | j+1,h=>by
  rw[MR t k (by omega)];split
  ·rw[amQ,He t k j (by omega)]
  exact He t k j (by omega)
theorem ae8(t:aM)(g:l2)(vs:List Value)(k:Nat)(z:im)(w:World)(G:ir t)(hk:k<t.code.length)(bp:gz an w g.aj g.ae g.ak vs t)(ag:aD g.lv/\aD g.e9/\aD z.aN/\aD z.bv/\aD z.aK/\aD z.aX/\aD z.ae/\aD g.tt/\aD g.bE): eH prog 117 [.agg (cQ t g.aj g.ae g.ak).toArray,.agg #[g.lv,g.e9,z.aN,z.bv,z.aK,z.aX,z.ae,g.tt,g.bE],.int .i64 k] w λ_ v es _=>∃rg,aD rg/\v=.agg (gp t g k {z with rg:=rg} 0#64 false false).toArray/\es=[.own rg 133 4 gi (sP t k t.init.length)]:=by
 obtain⟨t1,t2,t3⟩:=bp.iF;obtain⟨s1,s2,cy,dq,dd,ep,dP,ff,fy⟩:=ag;have hIn:=bp.init;have IC:=G.yr;refine zq func117 ntmps117 ?_;refine eQ λdR=>?_;refine eQ λcO=>?_;refine dH λcS=>?_;refine dH λeb=>?_;have mj:∀rg,aD rg->ku g {z with rg:=rg}:=λrg h=>⟨t1,t2,t3,s1,s2,ff,fy,h,cy,dq,dd,ep,dP⟩;refine ao (bD 0 (h1:=iD (mj U cZ) t k (0#64) false false) (ab:=af ?_));refine h7 (λ_:Unit=>True) (λ_=>[(8,true,.int .i64 (b3 t.az:Nat)),(7,true,ax eb),(6,true,ax cS),(3,true,ax dR),(2,true,.int .i64 k)]) (λ_=>Mem [(w,an)] [.box eb (gp t g k {z with rg:=U} 0#64 false false) 129,.box cS (gp ⟨0,ByteArray.empty,ByteArray.empty,[],[],0,default⟩ ⟨U,U,U,U,U,U,U⟩ 0 ⟨U,U,U,U,U,U⟩ 0#64 false false) 129,.box dR (cQ t g.aj g.ae g.ak) 32,.own U 133 4 gi []]) ?_ ?_
 ·refine dZ 133 4 gi ?_;refine bA (λh2=>?_) λh2=>?_
  ·rw[aq]at h2;refine af ?_;exact bZ () trivial ⟨by unfold b3;rw[amo h2];rfl,rfl,rfl,rfl,rfl,trivial⟩ (bV [1,2,4,0])
  rw[ar]at h2;refine af ?_;exact bZ () trivial ⟨by unfold b3;rw[amn h2];rfl,rfl,rfl,rfl,rfl,trivial⟩ (bV [1,2,4,0])
 rintro⟨⟩ _;have EX:b3 t.az<=32:=by unfold b3;split<;>omega
 refine af ?_;refine b9 (λz:Nat×Value=>z.1<=b3 t.az/\aD z.2) (λy=>[(9,true,.int .i64 y.1),(8,true,.int .i64 (b3 t.az:Nat)),(7,true,ax eb),(6,true,ax cS),(3,true,ax dR),(2,true,.int .i64 k)]) (λy=>Mem [(w,an)] [.box eb (gp t g k {z with rg:=y.2} 0#64 false false) 129,.box cS (gp ⟨0,ByteArray.empty,ByteArray.empty,[],[],0,default⟩ ⟨U,U,U,U,U,U,U⟩ 0 ⟨U,U,U,U,U,U⟩ 0#64 false false) 129,.box dR (cQ t g.aj g.ae g.ak) 32,.own y.2 133 4 gi (List.replicate y.1 (⟨1,0,a8,0#64⟩:fO))]) (λy=>b3 t.az-y.1) (0,U) ⟨amz _,cZ⟩ ?_
 rintro⟨i,rg⟩ ⟨hi,kk⟩;dsimp only at hi kk⊢;have eP:(List.replicate i (⟨1,0,a8,0#64⟩:fO)).length=i:=amS;refine di (λh1=>?_) λh1=>?_
 ·have cb:i<b3 t.az:=by rw[aq]at h1;omega
  refine af ?_;refine ao (eA gi NH (e:=133) (sz:=4) (len:=1) (dF:=[(0,gi ⟨1,0,a8,0#64⟩)]) (ab:=λUj Z4=>af ?_));refine ao (e6 4 (hm:=aL) (hk:=rfl) (bG:=by simp only[amD,amI,amW];omega) (ab:=λv28 PW=>af ?_));refine c0 1 ?_;refine bt (i+1,v28) ⟨cb,PW⟩ (show b3 t.az-(i+1)<b3 t.az-i by omega) (hA:=λ_ h=>?_);have vy:List.replicate (i+1) (⟨1,0,a8,0#64⟩:fO)=List.replicate i (⟨1,0,a8,0#64⟩:fO)++[⟨1,0,a8,0#64⟩]:=aoz;dsimp only;rw[vy];exact h.cm [1,2,3,4]
 have cb:i=b3 t.az:=by rw[ar]at h1;omega
 subst cb;refine af ?_;refine b9 (λj:Nat=>j<=t.init.length) (λj=>[(10,true,.int .i64 j),(7,true,ax eb),(6,true,ax cS),(3,true,ax dR),(2,true,.int .i64 k)]) (λj=>Mem [(w,an)] [.box eb (gp t g k {z with rg:=rg} 0#64 false false) 129,.box cS (gp ⟨0,ByteArray.empty,ByteArray.empty,[],[],0,default⟩ ⟨U,U,U,U,U,U,U⟩ 0 ⟨U,U,U,U,U,U⟩ 0#64 false false) 129,.box dR (cQ t g.aj g.ae g.ak) 32,.own rg 133 4 gi (sP t k j)]) (λj=>t.init.length-j) 0 (amz _) ?_
 intro j ad;have lj:=He t k j ad;refine di (λh2=>?_) λh2=>?_
 ·have bF:j<t.init.length:=by rw[aq]at h2;omega
  have k5:(t.init.getD j default)∈t.init:=er bF;have eg:=MR t (k:Int) bF;refine af ?_;refine dH λxC=>?_;refine c0 0 ?_;by_cases dj:(t.init.getD j default).aI=(k:Int)
  ·obtain⟨_,o1,_,⟨Jp,Jq⟩,_⟩:=G.vI k5 (by omega);rw[amo dj]at eg;refine bA (λh3=>?_) λh3=>?_
   ·have dw:¬(t.init.getD j default).value.loc=a8:=by rw[ami,amk,ar]at h3;exact h3.2
    have hy:vG (t.init.getD j default)=⟨2,0,(t.init.getD j default).value.loc,0#64⟩:=by unfold vG;rw[amn dw]
    refine af ?_;refine ao (fB 4 rfl (⟨2,0,(t.init.getD j default).value.loc,0#64⟩:fO) (ab:=af ?_));exact bt (j+1) bF (by omega) (hA:=λ_ h=>by rw[eg,hy];exact h.tail)
   have dw:(t.init.getD j default).value.loc=a8:=by rw[amx,ar,amm,aq]at h3;exact h3.resolve_left λq=>q dj
   have hy:vG (t.init.getD j default)=⟨1,(t.init.getD j default).value.n,a8,0#64⟩:=by unfold vG;rw[amo dw]
   refine af ?_;refine cK rfl (λ_=>?_) (λh=>by rw[ar]at h;exact absurd dj h);refine af ?_;refine ao (fB 4 rfl (⟨1,(t.init.getD j default).value.n,a8,0#64⟩:fO) (ab:=af ?_));exact bt (j+1) bF (by omega) (hA:=λ_ h=>by rw[eg,hy];exact h.tail)
  rw[amn dj]at eg;refine cK rfl (λh3=>by rw[ami,aq]at h3;exact absurd h3.1 dj) λ_=>?_;refine af ?_;refine cK rfl (λh=>by rw[aq]at h;exact absurd h dj) λ_=>?_;refine af ?_;exact bt (j+1) bF (by omega) (hA:=λ_ h=>by rw[eg];exact h.tail)
 have bF:j=t.init.length:=by rw[ar]at h2;omega
 subst bF;refine af ?_;refine ao (bD 1 (h1:=iD (mj rg kk) t k (0#64) false false) (ab:=af ?_));exact eR rfl (.c1 rfl ds rfl) [.own rg 133 4 gi (sP t k t.init.length)] [3] λI hw=>⟨rg,kk,rfl,rfl⟩
def bW(a:Nat)(x:eD):fO:=match x.has with
 | .num n=>⟨1,n,a8,x.on<<<a⟩
 | .kb s=>⟨2,0,s,x.on<<<a⟩
 | .told i=>⟨3,((a+i:Nat):Int),a8,x.on<<<a⟩
 | .hid=>⟨4,0,a8,x.on<<<a⟩
def dN(a:Nat)(A:jM)(s:b6):jM:=⟨A.J++s.J,A.bars++s.bars,A.addr++s.addr.map (nw a),A.data++s.data.map (nw a),A.ba++s.dB.map (nw a)⟩
theorem afl(on:BitVec 64)(a:Nat)(au:a<=64)(h:∀j,on.getLsbD j=true->a+j<64):(List.range 64).filter (λr=>(on<<<a).getLsbD r)=((List.range 64).filter λr=>on.getLsbD r).map (a+·):=by
 obtain⟨b,hb⟩:∃b,64=a+b:=⟨64-a,by omega⟩;have bC:List.range 64=List.range a++(List.range b).map (a+·):=by rw[hb,List.range_add]
 have cd:List.range 64=List.range b++(List.range a).map (b+·):=by rw[show(64:Nat)=b+a by omega,List.range_add]
 conv=>lhs;rw[bC]
 conv=>rhs;rw[cd]
 rw[anc,anc];have f1:(List.range a).filter (λr=>(on<<<a).getLsbD r)=[]:=by rw[anN];intro r aH;rw[amH]at aH;rw[anQ];simp[aH]
 have f2:((List.range a).map (b+·)).filter (λr=>on.getLsbD r)=[]:=by rw[anN];intro r aH p4;obtain⟨x,_,rfl⟩:=am1.1 aH;have:=h _ p4;omega
 rw[f1,f2,anf,amB,List.filter_map];congr 1;refine List.filter_congr λr aH=>?_;rw[amH]at aH;show(on<<<a).getLsbD (a+r)=_;rw[anQ];simp;omega
theorem IN(on:BitVec 64)(a i:Nat)(au:a<=64)(h:∀j,on.getLsbD j=true->a+j<64):nP (on<<<a) 64 ((a+i:Nat):Int)=(hS on i).map (nw a):=by unfold nP hS l4;rw[afl on a au h,aoP,aoP];refine an0 λr _=>?_;simp only[Function.comp,nw,Int.natCast_add]
theorem CR{l:List ByteArray}{s:ByteArray}(h:s∈l):xl l s=(dp l s:Int):=by unfold xl;rw[amo (qb h)]
theorem Aw(az:Int)(a:Nat)(ah:List eD)(d:Int)(x:eD):yN az (ah.map (bW a)) d (bW a x)=(gJ az ah d x).map (bW a):=by
 unfold yN gJ;split
 ·rfl
 rw[List.map_set]
theorem BV(a:Nat)(n:Int)(on:BitVec 64):bW a ⟨.num n,on⟩=⟨1,n,a8,on<<<a⟩:=rfl
theorem Io(a:Nat)(x:eD):((bW a x).k=1)↔(hn x.has).2=true:=by obtain⟨h,on⟩:=x;cases h<;>simp[bW,hn]
theorem Yx{a:Nat}{x:eD}(h:(hn x.has).2=true):(bW a x).n=(hn x.has).1:=by obtain⟨q,on⟩:=x;cases q<;>first | rfl | simp[hn]at h
theorem BU(a:Nat)(x:eD):((bW a x).k=2)↔(jy x.has).2=true:=by obtain⟨h,on⟩:=x;cases h<;>simp[bW,jy]
theorem Ip{a:Nat}{x:eD}(h:(jy x.has).2=true):(bW a x).loc=(jy x.has).1:=by obtain⟨q,on⟩:=x;cases q<;>first | rfl | simp[jy]at h
theorem wZ(a:Nat)(x:eD):(bW a x).on=x.on<<<a:=by obtain⟨h,on⟩:=x;cases h<;>rfl
theorem BS{a:Nat}{s:b6}{n:Int}(h:n.toNat<s.ah.length):(s.ah.map (bW a)).getD n.toNat default=bW a (bJ s n):=by unfold bJ;rw[aml,amZ,aml,amp h];rfl
theorem rZ{cx:fa}{J:List eL}{a:Nat}{x:eD}(h:lH cx J x.has)(au:a+J.length<=64): -2147483648<=(bW a x).n/\(bW a x).n<=2147483647:=by
 obtain⟨q,on⟩:=x;cases q with
 | num n=>have h:eJ n=true:=h;unfold eJ at h;simp at h;show -2147483648<=n/\n<=2147483647;omega
 | kb s=>show -2147483648<=(0:Int)/\(0:Int)<=2147483647;decide
 | told i=>have h:i<J.length/\_:=h;show -2147483648<=((a+i:Nat):Int)/\((a+i:Nat):Int)<=2147483647;omega
 | hid=>show -2147483648<=(0:Int)/\(0:Int)<=2147483647;decide
theorem Rl{n:Int}(h: -2147483648<=n/\n<=2147483647):(BitVec.ofInt 32 n).toInt=n:=by rw[aoN];unfold Int.bmod;simp;omega
theorem J6(op:Int)(bm:op=8\/op=9\/op=10)(a:Nat)(x y:eD)(hx: -2147483648<=(bW a x).n/\(bW a x).n<=2147483647)(aR: -2147483648<=(bW a y).n/\(bW a y).n<=2147483647): vQ op (bW a x) (bW a y)=bW a ⟨pF op x.has y.has,x.on||| y.on⟩:=by
 have p4:((bW a x).on||| (bW a y).on)=(x.on||| y.on)<<<a:=by rw[wZ,wZ,BitVec.shiftLeft_or_distrib]
 unfold vQ;rw[p4];obtain⟨p,lx⟩:=x;obtain⟨q,ly⟩:=y;cases p with
 | num m=>
  cases q with
  | num n=>
   have hx: -2147483648<=m/\m<=2147483647:=hx;have aR: -2147483648<=n/\n<=2147483647:=aR;show({k7 op ⟨1,m,a8,lx<<<a⟩ ⟨1,n,a8,ly<<<a⟩with on:=(lx||| ly)<<<a}:fO)=⟨1,o7 op m n,a8,(lx||| ly)<<<a⟩;have aY:∀k:Int,∀on:BitVec 64,n3 ⟨1,k,a8,on⟩=decide (k=0):=λk on=>by unfold n3;simp
   have hb:mu ⟨1,m,a8,lx<<<a⟩ ⟨1,n,a8,ly<<<a⟩=true:=rfl;unfold k7;rw[aY,aY,hb,anA,anA];by_cases h0:n=0
   ·subst h0;rw[amo (by simp)];congr 1;unfold o7;rcases bm with rfl | rfl | rfl<;>simp[Rl hx]
   rw[amn (by simpa using h0)];by_cases h1:m=0
   ·subst h1;rw[amo (by simp)];congr 1;unfold o7;rcases bm with rfl | rfl | rfl<;>simp[Rl aR]
   rw[amn (by simpa using h1)];unfold o7;rcases bm with rfl | rfl | rfl
   ·simp[acV hx aR]
   ·simp[aiA hx aR]
   simp[BitVec.ofInt_add]
  | kb s=>show({k7 op ⟨1,m,a8,lx<<<a⟩ ⟨2,0,s,ly<<<a⟩with on:=(lx||| ly)<<<a}:fO)=bW a ⟨if m=0 then .kb s else .hid,lx||| ly⟩;unfold k7 n3 mu;by_cases h:m=0<;>simp[h,bW]
  | told i=>show({k7 op ⟨1,m,a8,lx<<<a⟩ ⟨3,((a+i:Nat):Int),a8,ly<<<a⟩with on:=(lx||| ly)<<<a}:fO)=bW a ⟨if m=0 then .told i else .hid,lx||| ly⟩;unfold k7 n3 mu;by_cases h:m=0<;>simp[h,bW]
  | hid=>show({k7 op ⟨1,m,a8,lx<<<a⟩ ⟨4,0,a8,ly<<<a⟩with on:=(lx||| ly)<<<a}:fO)=bW a ⟨if m=0 then .hid else .hid,lx||| ly⟩;unfold k7 n3 mu;by_cases h:m=0<;>simp[h,bW]
 | kb s=>
  cases q with
  | num n=>show({k7 op ⟨2,0,s,lx<<<a⟩ ⟨1,n,a8,ly<<<a⟩with on:=(lx||| ly)<<<a}:fO)=bW a ⟨if n=0 then .kb s else .hid,lx||| ly⟩;unfold k7 n3 mu;by_cases h:n=0<;>simp[h,bW]
  | _=>simp[k7,n3,mu,bW,pF]
 | told i=>
  cases q with
  | num n=>show({k7 op ⟨3,((a+i:Nat):Int),a8,lx<<<a⟩ ⟨1,n,a8,ly<<<a⟩with on:=(lx||| ly)<<<a}:fO)=bW a ⟨if n=0 then .told i else .hid,lx||| ly⟩;unfold k7 n3 mu;by_cases h:n=0<;>simp[h,bW]
  | _=>simp[k7,n3,mu,bW,pF]
 | hid=>
  cases q with
  | num n=>show({k7 op ⟨4,0,a8,lx<<<a⟩ ⟨1,n,a8,ly<<<a⟩with on:=(lx||| ly)<<<a}:fO)=bW a ⟨if n=0 then .hid else .hid,lx||| ly⟩;unfold k7 n3 mu;by_cases h:n=0<;>simp[h,bW]
  | _=>simp[k7,n3,mu,bW,pF]
theorem abg(a:Nat)(x y:eD):JI (bW a x) (bW a y)=!(x.has.ot||y.has.ot):=by obtain⟨p,lx⟩:=x;obtain⟨q,ly⟩:=y;cases p<;>cases q<;>rfl
theorem Qr(a:Nat)(x y:eD)(h:(x.has.ot||y.has.ot)=false):Fp (bW a x) (bW a y)=sv x.has y.has:=by obtain⟨p,lx⟩:=x;obtain⟨q,ly⟩:=y;cases p<;>cases q<;>first | (cases h;done) | (simp[Fp,bW,sv];try exact am3.2 Iff.rfl)
theorem N5(a:Nat)(A:jM)(s:b6)(hA:A.J.length=a)(au:a+s.J.length<=64)(k rG dir loc val bq:Int)(on dat ba:BitVec 64)(p4:∀j,on.getLsbD j=true->j<s.J.length)(Yu:∀j,dat.getLsbD j=true->j<s.J.length)(zK:∀j,ba.getLsbD j=true->j<s.J.length): tV (dN a A s) k ⟨0,rG,dir,loc,val,bq⟩ (on<<<a) (dat<<<a) (ba<<<a)=dN a A {s with J:=s.J++[⟨k,rG,dir,loc,val,bq⟩],addr:=s.addr++hS on s.J.length,data:=s.data++hS dat s.J.length,dB:=s.dB++hS ba s.J.length}:=by
 have aB:(dN a A s).J.length=a+s.J.length:=by unfold dN;dsimp only;rw[ams,hA]
 unfold tV;rw[aB,IN on a _ (by omega) λj ad=>by have:=p4 j ad;omega,IN dat a _ (by omega) λj ad=>by have:=Yu j ad;omega,IN ba a _ (by omega) λj ad=>by have:=zK j ad;omega];unfold dN;dsimp only;rw[ane,ane,ane,amJ,amJ,amJ,amJ]
end Go.Proofs.bK
namespace Go.bU
def sE(l:List b5):Prop:=l.Pairwise λp q=>p.B<=q.B
theorem zf{J:List eL}{w:Bool}{l:List b5}(hp:pT J w l)(h:sE l)(x:BitVec 64):sE (l++hS x J.length):=by
 unfold sE at *;rw[ano];refine⟨h,?_,λa au b hb=>?_⟩
 ·unfold hS;rw[anz];exact(am9).2 λ_ _ _ _ _=>Int.le_refl _
 unfold hS at hb;obtain⟨r,_,rfl⟩:=am1.1 hb;have:=(hp.ok a au).2.2.1;dsimp only;omega
structure wv(s:b6):Prop where
 addr:sE s.addr
 data:sE s.data
 dB:sE s.dB
theorem agE{cx:fa}{s s':b6}{k cF:Nat}(h:gy cx s k)(hb:wv s)(ay:fJ cx s k=.go s' cF):wv s':=by
 have nil:∀{x:b6} {q:Nat},oG.go x q=.go s' cF->x.addr=s.addr/\x.data=s.data/\x.dB=s.dB->wv s':=λe q=>by injection e with bC cd;subst bC;exact⟨by rw[q.1];exact hb.addr,by rw[q.2.1];exact hb.data,by rw[q.2.2];exact hb.dB⟩
 have wr:∀{loc on x},kr cx s k loc on x=.go s' cF->wv s':=λe=>by
  unfold kr at e;split at e
  ·split at e
   ·cases e
   injection e with bC cd;subst bC;exact⟨zf h.addr hb.addr _,zf h.data hb.data _,zf h.dB hb.dB _⟩
  cases e
 have rd:∀{loc on d},lT cx s k loc on d=.go s' cF->wv s':=λe=>by
  unfold lT at e;split at e
  ·cases e
  injection e with bC cd;subst bC;exact⟨zf h.addr hb.addr _,zf h.data hb.data _,zf h.dB hb.dB _⟩
 unfold fJ at ay;dsimp only at ay;split at ay;exact wr ay;split at ay;exact wr ay;split at ay;exact rd ay;split at ay;exact nil ay ⟨rfl,rfl,rfl⟩;split at ay;exact nil ay ⟨rfl,rfl,rfl⟩;split at ay
 ·split at ay
  ·exact rd ay
  cases ay
 split at ay
 ·split at ay
  ·exact wr ay
  cases ay
 split at ay;exact nil ay ⟨rfl,rfl,rfl⟩;split at ay
 ·unfold qp at ay;dsimp only at ay;split at ay
  ·split at ay
   ·exact nil ay ⟨rfl,rfl,rfl⟩
   cases ay
  split at ay<;>exact nil ay ⟨rfl,rfl,rfl⟩
 split at ay<;>exact nil ay ⟨rfl,rfl,rfl⟩
theorem Rd.b{cx:fa}(C:lG cx){db s:b6}{k:Nat}(h0:gy cx db 0)(hb:wv db)(h:Rd cx db s k):wv s:=by
 induction h with
 | zero=>exact hb
 | step q hk ay bH=>exact agE (q.ok C h0) bH ay
theorem Om{α:Type}(p q:α->Bool):∀(l:List α),(∀x,x∈l->p x=true->q x=false)->(l.filter p++l.filter q).Perm (l.filter λx=>p x||q x)
 | [],_=>List.Perm.nil
 | x::l,h=>by
  have bH:=Om p q l λy aR=>h y (.tail _ aR);cases hp:p x with
  | true=>have aZ:=h x aL hp;rw[anX (by simpa using hp),anI (by simp[aZ]),anX (by simp[hp])];exact bH.cons x
  | false=>
   cases aZ:q x with
   | true=>rw[anI (by simp[hp]),anX (by simpa using aZ),anX (by simp[aZ])];exact List.perm_middle.trans (bH.cons x)
   | false=>rw[anI (by simp[hp]),anI (by simp[aZ]),anI (by simp[hp,aZ])];exact bH
end Go.bU
namespace Go.Proofs.bK
theorem Lr(l:List b5):∀n:Nat,(qi l n).Perm (l.filter λp=>decide (0<=p.A)&&decide (p.A<(n:Int)))
 | 0=>by rw[show qi l 0=[]from rfl,anN.2 λp _=>by simp]
 | n+1=>by
  rw[Gs];refine((Lr l n).append_right _).trans ((Om _ _ l λx _ h=>?_).trans ?_)
  ·rw[ami,amj,amj]at h;exact amy (by omega)
  refine List.Perm.of_eq (List.filter_congr λx _=>?_);rw[amN];simp only[amr,ami,amj];omega
theorem TD(l:List b5)(h:sE l):∀n:Nat,(qi l n).Pairwise λa b=>kI a b=true
 | 0=>List.Pairwise.nil
 | n+1=>by
  rw[Gs,ano];refine⟨TD l h n,?_,λa au b hb=>?_⟩
  ·have h1:=anC (λp=>decide (p.A=(n:Int))) h;refine anR (λ{a b} au hb q=>?_) h1;have h2:=(am5.1 au).2;have h3:=(am5.1 hb).2;rw[amj]at h2 h3;unfold kI;simp only[amr,ami,amj];exact .inr ⟨by omega,q⟩
  have h1:=((Lr l n).mem_iff).1 au;have h2:=(am5.1 h1).2;have h3:=(am5.1 hb).2;rw[ami,amj,amj]at h2;rw[amj]at h3;unfold kI;simp only[amr,ami,amj];exact .inl (by omega)
theorem abV{a b:b5}(h:pQ a b):kI a b=true:=by unfold pQ jh at h;unfold kI;simp only[amr,ami,amj]at *;omega
theorem Ls{l m:List b5}(hp:m.Perm l)(hb:sE l)(hA:∀p,p∈l->0<=p.A/\p.A<64)(hm:m.Pairwise pQ):qi l 64=m:=by
 refine Kq Qs _ _ ((Lr l 64).trans ?_) (TD l hb 64) (hm.imp abV);rw[List.filter_eq_self.2 λp hp=>by have:=hA p hp;rw[ami,amj,amj];exact this]
 exact hp.symm
structure y5(n:Nat)(l m:List b5):Prop where
 perm:m.Perm l
 up:sE l
 lt:∀p,p∈l->0<=p.A/\p.A<n/\p.B<n
theorem y5.step{n:Nat}{l m q:List b5}{J:List eL}{w:Bool}(h:y5 n l m)(hp:pT J w q)(hb:sE q):y5 (n+J.length) (l++q.map (nw n)) (m++h4 q n) where
 perm:=h.perm.append (aoe _ _)
 up:=by
  unfold sE
  rw[ano]
  refine⟨h.up,?_,λa au b hb=>?_⟩
  ·rw[anz]
   exact hb.imp λ{a b} q=>by unfold nw;dsimp only;omega
  obtain⟨r,aH,rfl⟩:=am1.1 hb
  have h1:=h.lt a au
  have h2:=hp.ok r aH
  unfold nw;dsimp only;omega
 lt:=λp r8=>by
  rcases amA.1 r8 with q | q
  ·have:=h.lt p q;omega
  obtain⟨r,aH,rfl⟩:=am1.1 q
  have h2:=hp.ok r aH
  unfold nw;dsimp only;omega
structure sF(A:jM)(a:Acc):Prop where
 J:A.J=a.J
 bars:A.bars=a.bars
 addr:y5 a.J.length A.addr a.addr
 data:y5 a.J.length A.data a.data
 ba:y5 a.J.length A.ba a.ba
theorem sF.zero(e:List gG):sF ⟨[],[],[],[],[]⟩ ⟨[],[],[],[],[],e⟩:=⟨rfl,rfl,⟨List.Perm.nil,List.Pairwise.nil,λ_ h=>(by cases h)⟩,⟨List.Perm.nil,List.Pairwise.nil,λ_ h=>(by cases h)⟩,⟨List.Perm.nil,List.Pairwise.nil,λ_ h=>(by cases h)⟩⟩
theorem sF.step{A:jM}{a:Acc}{cx:fa}{s:b6}{k:Nat}(h:sF A a)(S:gy cx s k)(hb:wv s)(e:List gG): sF (dN a.J.length A s) ⟨a.J++s.J,a.bars++s.bars,a.addr++h4 s.addr a.J.length,a.data++h4 s.data a.J.length,a.ba++h4 s.dB a.J.length,e⟩:=by
 have aB:(a.J++s.J).length=a.J.length+s.J.length:=ams;unfold dN;refine⟨by dsimp only;rw[h.J],by dsimp only;rw[h.bars],?_,?_,?_⟩<;>dsimp only<;>rw[aB]
 ·exact h.addr.step S.addr hb.addr
 ·exact h.data.step S.data hb.data
 exact h.ba.step S.dB hb.dB
theorem ac9{m:List b5}(hm:m.Pairwise pQ)(h:∀p,p∈m->0<=p.A/\p.A<64/\0<=p.B/\p.B<64):m.length<=4096:=by
 have:=CD 4096 (m.map λp=>p.A* 64+p.B) (by
  rw[anz];refine anR (λ{a b} au hb q=>?_) hm;have h1:=h a au;have h2:=h b hb;unfold pQ jh at q;simp only[amr,ami,amj]at q;omega) (λx hx=>by
  obtain⟨p,hp,rfl⟩:=am1.1 hx;have h1:=h p hp;omega)
 rwa[amD]at this
theorem Vp{t:aM}{k:Nat}{a:Acc}(h:Du t k a):a.addr.length<=4096/\a.data.length<=4096/\a.ba.length<=4096:=by
 have bh:=h.n;have aux:∀{w:Bool} {l:List b5},l.Pairwise pQ/\(∀p,p∈l->tL a.J w p)->l.length<=4096:=λq=>ac9 q.1 λp hp=>by have:=(q.2 p hp).lt;omega
 exact⟨aux h.addr,aux h.data,aux h.ba⟩
theorem sF.len{t:aM}{k:Nat}{A:jM}{a:Acc}(h:sF A a)(g:Du t k a):A.addr.length<=4096/\A.data.length<=4096/\A.ba.length<=4096:=by obtain⟨h1,h2,h3⟩:=Vp g;rw[<-h.addr.perm.length_eq,<-h.data.perm.length_eq,<-h.ba.perm.length_eq];exact⟨h1,h2,h3⟩
theorem sF.agn{t:aM}{k:Nat}{A:jM}{a:Acc}(h:sF A a)(g:Du t k a):qi A.addr 64=a.addr/\qi A.data 64=a.data/\qi A.ba 64=a.ba:=by
 have bh:=g.n;exact⟨Ls h.addr.perm h.addr.up (λp hp=>by have:=h.addr.lt p hp;omega) g.addr.1,Ls h.data.perm h.data.up (λp hp=>by have:=h.data.lt p hp;omega) g.data.1,Ls h.ba.perm h.ba.up (λp hp=>by have:=h.ba.lt p hp;omega) g.ba.1⟩
theorem W6(a:Nat)(x:eD):xN (bW a x)=vd a x.has:=by obtain⟨h,on⟩:=x;cases h<;>rfl
end Go.Proofs.bK
