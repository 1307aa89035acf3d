/- Lemmas for the law WholeSound. -/
import Derived.Test.YtiknadellddjhaaGreatDoorS20
import Derived.Test.YtiknadellddjhaaGreatDoorS33
import Derived.Test.YtiknadellddjhaaGreatDoorS34
set_option linter.all false
open Go.Proofs.Tryz
set_option maxHeartbeats 12800000
open Go Go.cc Go.bU Go.gH Go.eV
attribute [local irreducible] Go.wpList Go.Code.wp Go.bodyPost Go.Exit.then Go.Exit.inBlock Go.Calls
namespace Go.Proofs.bK
section
variable {t:aM} (h:du t=0) {m:cu} {log:List Nat} {b:Nat->List Nat} (M:kt t m log b)
include h M
theorem kt.yS{k:Nat}(hk:k<t.code.length):qW (b3 t.az) (m.av.getD k default).ah/\(t.az=2->(m.av.getD k default).ah.getD 0 default=gF):=by obtain⟨s,T⟩:=M.av k hk;obtain⟨C,h0,_⟩:=qj h hk;have S:=T.rd.ok C h0;have aB:s.ah.length=b3 t.az:=S.lA;refine⟨⟨by rw[T.tm.len,aB],λi hi=>Ka (T.tm.bq i (by omega)) (S.ah i (by omega)).1⟩,λau=>?_⟩;have:=T.tm.bq 0 (by rw[aB];unfold b3;split<;>omega);rw[S.zero au]at this;exact this
theorem kt.KF{k:Nat}(hk:k<t.code.length)(au:t.az=1)(dO:(m.av.getD k default).at'<(cj t k).length)(bm:((cj t k).getD (m.av.getD k default).at' default).op=2): ((m.av.getD k default).ah.getD ((cj t k).getD (m.av.getD k default).at' default).a.toNat default).loc=a8:=by
 obtain⟨s,T⟩:=M.av k hk;obtain⟨C,h0,_⟩:=qj h hk;obtain⟨c3,kl⟩:=(mT h hk).1;have S:=T.rd.ok C h0;obtain⟨s',cF,ay⟩:=Sw C h0 kl T.rd dO;have G:=kf h;have bN:=Fh G.az (G.ins _ (er hk) _ (er dO));have hi:(jj t k).code.getD (m.av.getD k default).at' default=(cj t k).getD (m.av.getD k default).at' default:=rfl;unfold fJ at ay;dsimp only at ay;rw[hi,amn (by omega),amo bm]at ay;change qU t.az ((cj t k).getD (m.av.getD k default).at' default)at bN;obtain⟨n,aH⟩:∃n,(bJ s ((cj t k).getD (m.av.getD k default).at' default).a).has=.num n:=by
  unfold kr at ay;split at ay
  ·rename_i n e;exact⟨n,e⟩
  cases ay
 have aZ:((cj t k).getD (m.av.getD k default).at' default).a.toNat<s.ah.length:=by rw[S.lA];have h1:=bN.a.1;have h2:=bN.a.2;show _<b3 t.az;omega
 have:=T.tm.bq _ aZ;unfold bJ at aH;rw[aH]at this;exact(amC dY.loc this)
theorem kt.Hq{k:Nat}(hk:k<t.code.length):(t.az=1->∀i,i<(cj t k).length->j7 ((cj t k).getD i default)=true)/\(t.az=2->lp (cj t k)=0)/\(cj t k).length<=256:=by
 have G:=kf h;have ai:=er (l:=t.code) hk;have aB:=G.len _ ai;refine⟨λau i hi=>?_,λau=>?_,aB⟩
 ·have:=G.ins _ ai _ (er hi);unfold mJ at this;rwa[amo au]at this
 have hi:∀i,i<(t.code.getD k default).length->kG ((t.code.getD k default).getD i default)=true:=λi hi=>by have:=G.ins _ ai _ (er hi);unfold mJ at this;rwa[amn (by omega)]at this
 unfold lp;rw[amn (by show ¬256<(t.code.getD k default).length;omega),amo,amo]
 ·exact fX.2 λi hi=>G.cN au _ ai i hi
 rw[ank];intro x hx;obtain⟨i,ED,rfl⟩:=o6 hx;exact hi i ED
end
theorem Rg{t:aM}{m:cu}{k:Nat}(hb:m.cT.getD k default=[]):ux t m k=if(m.av.getD k default).at'<(cj t k).length then [⟨1,(k:Int)⟩]else []:=by
 unfold ux kR sy;dsimp only;rw[hb];show(if(decide ((m.av.getD k default).at'<(cj t k).length)&&true)=true then [(⟨1,(k:Int)⟩:lf)]else [])++[]=_;rw[amB];by_cases h:(m.av.getD k default).at'<(cj t k).length
 ·rw[amo (by rw[amq h];rfl),amo h]
 rw[amn (by rw[amy h];simp),amn h]
theorem CG(t:aM)(m:cu)(n:Nat):o8 t m (n+1)=o8 t m n++ux t m n:=by unfold o8;rw[am6,am4,aoM]
theorem yG(t:aM)(m:cu):∀n,(o8 t m n).length<=2* n
 | 0=>amK _
 | n+1=>by
  have:=yG t m n;rw[CG,ams];have:(ux t m n).length<=2:=by unfold ux;rw[ams];split<;>split<;>simp
  omega
theorem Ks{x n:Int}(bh:0<n):(if x.tmod n<0 then x.tmod n+n else x.tmod n)=x.emod n:=by
 have h1:=Int.tmod_eq_emod (a:=x) (b:=n);have h2:=aoE x (show n≠0 by omega);have h3:=aox x bh;show _=x % n;rw[h1];by_cases q:0<=x\/n ∣ x
 ·rw[amo q,amn (by omega)];omega
 rw[amn q,amo (by omega)];omega
theorem agA{t:aM}{m:cu}{k:Nat}(hb:m.cT.getD k default=[]): (eK t (al t) false m k).av=m.av.set k (match(stepT t k (m.av.getD k default)).2 with
  | .rd s r=>⟨fD t.az (stepT t k (m.av.getD k default)).1.ah r ⟨a8,m.mem.getD (dp (al t).bb s) default⟩,(stepT t k (m.av.getD k default)).1.at'⟩
  | _=>(stepT t k (m.av.getD k default)).1)/\
 (eK t (al t) false m k).mem=(match(stepT t k (m.av.getD k default)).2 with
  | .wr s v=>m.mem.set (dp (al t).bb s) v
  | _=>m.mem)/\(eK t (al t) false m k).cT=m.cT:=by
 unfold eK;dsimp only;rcases h:(stepT t k (m.av.getD k default)).2 with _ | ⟨s,r⟩ | ⟨s,v⟩ | f
 ·exact⟨rfl,rfl,rfl⟩
 ·refine⟨?_,rfl,rfl⟩;dsimp only;unfold mP;rw[hb];rfl
 ·exact⟨rfl,rfl,rfl⟩
 exact⟨rfl,rfl,rfl⟩
def lU(t:aM)(bc:Nat)(j:Nat):List eD:=(t.init.take j).foldl (λl x=>if x.aI=(bc:Int)then l.set x.bq.toNat (oq x)else l) (List.replicate (b3 t.az) ⟨.num 0,0#64⟩)
theorem K5(t:aM)(bc:Nat){j:Nat}(ad:j<t.init.length):lU t bc (j+1)=if(t.init.getD j default).aI=(bc:Int)then(lU t bc j).set (t.init.getD j default).bq.toNat (oq (t.init.getD j default))else lU t bc j:=by unfold lU;rw[ang,getD_some ad,an3];rfl
theorem afj(t:aM)(bc:Nat):lU t bc t.init.length=sn t (bc:Int):=by unfold lU sn;rw[amU]
theorem K3(t:aM)(bc:Nat):∀j,j<=t.init.length->(lU t bc j).length=b3 t.az
 | 0,_=>by unfold lU;simp
 | j+1,h=>by
  rw[K5 t bc (by omega)];split
  ·rw[amQ,K3 t bc j (by omega)]
  exact K3 t bc j (by omega)
theorem K4(t:aM)(bc:Nat):∀j,j<=t.init.length->∀i,((lU t bc j).getD i default).on=0#64
 | 0,_,i=>by unfold lU;rw[List.take_zero,List.foldl_nil,aml,anb];split<;>rfl
 | j+1,h,i=>by
  rw[K5 t bc (by omega)];split
  ·rw[fL];split
   ·rfl
   exact K4 t bc j (by omega) i
  exact K4 t bc j (by omega) i
def UU(t:aM)(aj ae ak:Value)(bc:Nat)(lv:Value)(ahead:Nat):Nat->Value->List aA->World->Prop:=λ_ r es _=>∃(aO:Nat) (q:jL),jL.ok q/\r=ax aO/\es=cG aO t aj ae ak (bc:Int) lv ahead q (fg t bc) false
theorem ahh(t:aM)(aj ae ak:Value)(vs:List Value)(bc:Nat)(lv:Value)(ahead:Nat)(w:World)(te:aD lv)(bp:gz an w aj ae ak vs t)(G:∀x,x∈t.init->x.aI=(bc:Int)->0<=x.bq/\x.bq<b3 t.az): eH prog 23 [.agg (cQ t aj ae ak).toArray,.int .i64 (bc:Int),lv,.int .i64 (ahead:Int)] w (UU t aj ae ak bc lv ahead):=by
 obtain⟨s1,s2,cy⟩:=bp.iF;have fi:=bp.init;have hle:=fi.le;refine zq func23 ntmps23 ?_;refine eQ λaT=>?_;refine h7 (λn:Nat=>n=b3 t.az) (λn=>[(9,true,.int .i64 (n:Int)),(4,true,ax aT),(3,true,.int .i64 (ahead:Int)),(2,true,lv),(1,true,.int .i64 (bc:Int))]) (λ_=>Mem [(w,an)] [.box aT (cQ t aj ae ak) 32]) ?_ ?_
 ·refine bA (λh1=>?_) λh1=>?_
  ·rw[aq]at h1;refine af ?_;exact bZ 32 (by unfold b3;rw[amo h1])
  rw[ar]at h1;refine af ?_;exact bZ 15 (by unfold b3;rw[amn h1])
 rintro n rfl;have I1:b3 t.az<=32:=by unfold b3;split<;>omega
 refine af ?_;refine cV [0,1,2,3,5,4,6,7,8] mixed ?_;refine bI ?_;refine bL _ (h:=ix eX NK 165 5 _ _ (n:=(b3 t.az:Int)) (m:=(b3 t.az:Int)) (ab:=?_));intro v21 Cg;rw[amw];refine aF (bI ?_) iG;refine bL _ (h:=q5 ?_);intro aO;refine aF (bI ?_) λ_ h=>h.tail.tail;refine cJ (Mem [(w,an)] [.box aO (gE t aj ae ak (bc:Int) lv ⟨v21,U,U,U,U,U⟩ 0#64 ahead false) 85,.own v21 165 5 eX (List.replicate (b3 t.az) (.nilIface,0#64)),.box aT (cQ t aj ae ak) 32]) (λ_ h=>h) (af ?_);refine b9 (λi:Nat=>i<=b3 t.az) (λi=>[(30,true,.int .i64 i),(29,true,.int .i64 (List.replicate (b3 t.az) ((.nilIface,0#64):Value×BitVec 64)).length),(10,true,ax aO),(4,true,ax aT),(1,true,.int .i64 (bc:Int))]) (λi=>Mem [(w,an)] [.box aO (gE t aj ae ak (bc:Int) lv ⟨v21,U,U,U,U,U⟩ 0#64 ahead false) 85,.own v21 165 5 eX ((List.replicate i (⟨.num 0,0#64⟩:eD)).map c8++List.replicate (b3 t.az-i) (.nilIface,0#64)),.box aT (cQ t aj ae ak) 32]) (λi=>b3 t.az-i) 0 (amz _) ?_
 intro i hi;have ja:(List.replicate (b3 t.az) ((.nilIface,0#64):Value×BitVec 64)).length=b3 t.az:=amS;have eE:((List.replicate i (⟨.num 0,0#64⟩:eD)).map c8++List.replicate (b3 t.az-i) (Value.nilIface,0#64)).length=b3 t.az:=by rw[ams,amD,amS,amS];omega
 refine di (λh1=>?_) λh1=>?_
 ·have cb:i<b3 t.az:=by rw[aq,ja]at h1;omega
  refine af ?_;refine dg (vR (bY rfl)) (ab:=af ?_);have ay:((List.replicate i (⟨.num 0,0#64⟩:eD)).map c8++List.replicate (b3 t.az-i) (Value.nilIface,0#64)).getD i default=(Value.nilIface,0#64):=by rw[aml,amL (by simp),amD,amS,aoS,anb,amo (by omega)];rfl
  refine ao (fB 1 rfl (iI (.num 0),(((List.replicate i (⟨.num 0,0#64⟩:eD)).map c8++List.replicate (b3 t.az-i) (Value.nilIface,0#64)).getD i default).2) (ab:=af ?_));refine bt (i+1) cb (by omega) (hA:=λ_ h=>?_);have e:((List.replicate i (⟨.num 0,0#64⟩:eD)).map c8++List.replicate (b3 t.az-i) (Value.nilIface,0#64)).set i (iI (.num 0),(((List.replicate i (⟨.num 0,0#64⟩:eD)).map c8++List.replicate (b3 t.az-i) (Value.nilIface,0#64)).getD i default).2)=(List.replicate (i+1) (⟨.num 0,0#64⟩:eD)).map c8++List.replicate (b3 t.az-(i+1)) (Value.nilIface,0#64):=by rw[ay,List.set_append_right _ _ (by simp),amD,amS,aoS,show b3 t.az-i=(b3 t.az-(i+1))+1 by omega,aoF,List.set_cons_zero,aoz,ane,amJ];rfl
  rw[<-e];exact h
 have cb:i=b3 t.az:=by rw[ar,ja]at h1;omega
 subst cb;rw[aoS,List.replicate_zero,amB];refine af ?_;refine b9 (λj:Nat=>j<=t.init.length) (λj=>[(45,true,.int .i64 j),(44,true,.int .i64 t.init.length),(43,true,aj),(10,true,ax aO),(1,true,.int .i64 (bc:Int))]) (λj=>Mem [(w,an)] [.box aO (gE t aj ae ak (bc:Int) lv ⟨v21,U,U,U,U,U⟩ 0#64 ahead false) 85,.own v21 165 5 eX ((lU t bc j).map c8)]) (λj=>t.init.length-j) 0 (amz _) ?_ ⟨rfl,rfl,rfl,rfl,rfl,trivial⟩ (bV [0,1])
 intro j ad;have eP:=K3 t bc j ad;have w2:((lU t bc j).map c8).length=b3 t.az:=by rw[amD,eP]
 refine di (λh2=>?_) λh2=>?_
 ·have bF:j<t.init.length:=by rw[aq]at h2;omega
  have eg:=K5 t bc bF;refine af ?_;refine dH λcW=>?_;refine c0 0 ?_;refine bA (λh3=>?_) λh3=>?_
  ·rw[amk,ar]at h3;rw[amn h3]at eg;refine af ?_;exact bt (j+1) (by omega) (by omega) (hA:=λ_ h=>by rw[eg];exact h.cm [1,2])
  rw[amm,aq]at h3;rw[amo h3]at eg;have kk:=G _ (er bF) h3;have Iz:((lU t bc j).map c8).getD (t.init.getD j default).bq.toNat default=c8 ((lU t bc j).getD (t.init.getD j default).bq.toNat default):=wb (by omega);refine af ?_;refine cV [0,1,2,3,4,5,6,7,8,9,10,11,12] mixed ?_;refine bI ?_;refine jb (h:=vR (bY rfl)) (ab:=?_);refine bI ?_;have p4:=K4 t bc j (by omega) (t.init.getD j default).bq.toNat;have Iw:(((lU t bc j).map c8).getD (t.init.getD j default).bq.toNat default).2=0#64:=by rw[Iz];exact p4
  refine eG (λ_=>True) (h:=fB 2 rfl (iI (.num (t.init.getD j default).value.n),(((lU t bc j).map c8).getD (t.init.getD j default).bq.toNat default).2) (ab:=?_));rw[Iw];refine aF (aP ?_) dx;refine di (λaC=>?_) λaC=>?_
  ·rw[amk,ar]at aC;have aC:¬(t.init.getD j default).value.loc=a8:=aC;have ig:(((lU t bc j).map c8).set (t.init.getD j default).bq.toNat (iI (.num (t.init.getD j default).value.n),0#64)).length=b3 t.az:=by rw[amQ,w2]
   have YM:((((lU t bc j).map c8).set (t.init.getD j default).bq.toNat (iI (.num (t.init.getD j default).value.n),0#64)).getD (t.init.getD j default).bq.toNat default).2=0#64:=by rw[fL,amo ⟨rfl,by omega⟩]
   refine af ?_;refine cV [0,1,2,3,4,5,6,7,8,9,10,11,12] mixed ?_;refine bI ?_;refine jb (h:=acm (bY rfl)) (ab:=?_);refine bI ?_;refine eG (λ_=>True) (h:=fB 2 rfl (iI (.kb (t.init.getD j default).value.loc),((((lU t bc j).map c8).set (t.init.getD j default).bq.toNat (iI (.num (t.init.getD j default).value.n),0#64)).getD (t.init.getD j default).bq.toNat default).2) (ab:=?_));rw[YM];refine aF (aP ?_) dx;refine af ?_;refine bt (j+1) (by omega) (by omega) (hA:=λ_ h=>?_);have e:(lU t bc (j+1)).map c8=(((lU t bc j).map c8).set (t.init.getD j default).bq.toNat (iI (.num (t.init.getD j default).value.n),0#64)).set (t.init.getD j default).bq.toNat (iI (.kb (t.init.getD j default).value.loc),0#64):=by rw[eg,List.set_set,List.map_set];unfold oq;rw[amn aC];rfl
   rw[e];exact h.cm [1,2]
  rw[amm,aq]at aC;have aC:(t.init.getD j default).value.loc=a8:=aC;refine af ?_;refine bt (j+1) (by omega) (by omega) (hA:=λ_ h=>?_);have e:(lU t bc (j+1)).map c8=((lU t bc j).map c8).set (t.init.getD j default).bq.toNat (iI (.num (t.init.getD j default).value.n),0#64):=by rw[eg,List.map_set];unfold oq;rw[amo aC];rfl
  rw[e];exact h.cm [1,2]
 have bF:j=t.init.length:=by rw[ar]at h2;omega
 subst bF;rw[afj];refine af ?_;refine dZ 138 6 ec ?_;refine dZ 140 3 fE ?_;refine dZ 178 2 bz ?_;refine dZ 178 2 bz ?_;refine dZ 178 2 bz ?_;exact eR rfl (.t1 rfl) (cG aO t aj ae ak (bc:Int) lv ahead ⟨v21,U,U,U,U,U⟩ (fg t bc) false) [5,6,4,3,2,1,0] λI hw=>⟨aO,_,⟨Cg,cZ,cZ,cZ,cZ,cZ⟩,rfl,rfl⟩
def sc(t:aM)(j:Nat):List Int:=(t.init.take j).foldl (λv x=>if x.aI= -1 then v.set (dp (b2 t) x.loc) x.value.n else v) (List.replicate (b2 t).length 0)
theorem JE(t:aM){j:Nat}(ad:j<t.init.length):sc t (j+1)=if(t.init.getD j default).aI= -1 then(sc t j).set (dp (b2 t) (t.init.getD j default).loc) (t.init.getD j default).value.n else sc t j:=by unfold sc;rw[ang,getD_some ad,an3];rfl
theorem P9(t:aM):sc t t.init.length=nR t:=by unfold sc nR;rw[amU]
theorem Fj(t:aM):∀j,j<=t.init.length->(sc t j).length=(b2 t).length
 | 0,_=>by unfold sc;simp
 | j+1,h=>by
  rw[JE t (by omega)];split
  ·rw[amQ,Fj t j (by omega)]
  exact Fj t j (by omega)
def G3(t:aM):Nat->Value->World->Prop:=λn v I=>∃(lv aj aN bv aK aX ae aU bE:Value) (k:Int),v=.tuple #[.agg #[lv,aj,aN,bv,aK,aX,ae,aU,bE],.int .i64 (du t),.int .i64 k]/\ (aD lv/\aD aj/\aD aN/\aD bv/\aD aK/\aD aX/\aD ae/\aD aU/\aD bE)/\(du t=0->ha (Fr n) I lv aj aN bv aK aX ae aU bE (al t))
theorem ahq{t:aM}{bu:List cE}{e:Int}{k:Nat}(h:iT t bu k=.bad e):∀m,k<=m->iT t bu m=.bad e:=λm hm=>by
 induction hm with
 | refl=>exact h
 | step _ bH=>unfold iT;rw[bH]
theorem AW{t:aM}(h0:pL t=0){e:Int}{k:Nat}(hk:k<=t.code.length)(h:iT t (bk t) k=.bad e):du t=e:=by unfold du;rw[amo h0,ahq h _ hk]
theorem FM{t:aM}{n:Nat}{I:World}{e k:Int}(he:du t=e)(h0:e≠0):G3 t n (.tuple #[.agg #[U,U,U,U,U,U,U,U,U],.int .i64 e,.int .i64 k]) I:=⟨_,_,_,_,_,_,_,_,_,k,by rw[he],⟨cZ,cZ,cZ,cZ,cZ,cZ,cZ,cZ,cZ⟩,λz=>absurd (he.symm.trans z) h0⟩
theorem aeX{cx:fa}(C:lG cx){db s:b6}{k:Nat}(h0:gy cx db 0)(aY:mo cx db 0)(h:Rd cx db s k):mo cx s k:=by
 induction h with
 | zero=>exact aY
 | step q hk ay bH=>exact Gx bH (Nat.le_of_lt (wj C (q.ok C h0) hk ay).1) ay
theorem NU{cw:List cE}{k first:Nat}{ah:List eD}{x:cE}(hx:x∈cw)(hk:x.aI=(k:Int))(h:(nc first ah x).isSome=false):tT cw k first ah=false:=by unfold tT;rw[List.all_eq_false];exact⟨x,hx,by rw[hk,amq rfl,h];simp⟩
theorem NT{cw:List cE}{k first:Nat}{ah:List eD}(h:∀j,j<cw.length->(cw.getD j default).aI=(k:Int)->(nc first ah (cw.getD j default)).isSome=true):tT cw k first ah=true:=by
 unfold tT;rw[ank];intro x hx;obtain⟨j,ad,rfl⟩:=o6 hx;by_cases q:(cw.getD j default).aI=(k:Int)
 ·rw[h j ad q,aoR]
 rw[amy q];rfl
def Fp(a b:fO):Bool:=!decide (a.k=b.k)||!decide (a.n=b.n)||!decide (a.loc=b.loc)
def JI(a b:fO):Bool:=(decide (a.k=1)||decide (a.k=2))&&(decide (b.k=1)||decide (b.k=2))
theorem afa(a b:fO)(w:World):bj prog 204 [.agg (gi a).toArray,.agg (gi b).toArray] w λ_ v _=>v=.tuple #[.bool (Fp a b),.bool (JI a b)]:=by refine gP func204 ntmps204 ?_;refine eQ λdy=>?_;refine eQ λdR=>?_;refine bP rfl (.tmp rfl (.t1 rfl)) λI hw=>?_;unfold Fp JI;simp only[<-ch];rfl
end Go.Proofs.bK
