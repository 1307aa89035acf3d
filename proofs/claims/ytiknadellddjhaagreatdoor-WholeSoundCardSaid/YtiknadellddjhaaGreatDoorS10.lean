/- Lemmas for the law WholeSound. -/
import Derived.Shelf.Lays
import Derived.Shelf.Sort.Plain
import Derived.Shelf.SlSortCmp.WholeK
import Derived.Shelf.Small.Strs
import Derived.Test.YtiknadellddjhaaGreatDoorS06
import Derived.Test.YtiknadellddjhaaGreatDoorS09
set_option linter.all false
open Go.Proofs.Tryz
open Go Go.cc Go.gH
attribute [local irreducible] Go.wpList Go.Code.wp Go.bodyPost Go.Exit.then Go.Exit.inBlock Go.Calls
namespace Go.bU
theorem CD:∀(n:Nat) (l:List Int),l.Pairwise (· <·)->(∀x,x∈l->0<=x/\x<n)->l.length<=n
 | 0,[],_,_=>amK _
 | 0,x::_,_,h=>by have:=h x aL;omega
 | n+1,l,hp,h=>by
  by_cases hm:(n:Int)∈l
  ·obtain⟨a,b,rfl⟩:=List.append_of_mem hm;rw[ano]at hp;have hb:b=[]:=by
    cases b with
    | nil=>rfl
    | cons y b=>have h1:=(am2.1 hp.2.1).1 y aL;have h2:=h y (by simp);omega
   subst hb;have:=CD n a hp.1 λx hx=>by have h1:=h x (by simp[hx]);have h2:=hp.2.2 x hx _ aL;omega
   simp;omega
  have:=CD n l hp λx hx=>by have h1:=h x hx;have h2:x≠n:=λe=>hm (e▸hx);omega
  omega
theorem s7{α:Type}[Inhabited α]{f:Nat->α}{n i:Nat}(hi:i<n):((List.range n).map f).getD i default=f i:=by rw[aml,amZ,ann hi];rfl
structure Mi(t:aM)(k:Nat)(x:eL):Prop where
 bu:0<=x.aI/\x.aI<k
 place:0<=x.place/\x.place<256
 loc:0<=x.loc/\x.loc<(b2 t).length
 num:eJ x.value=true
 bq:0<=x.bq/\x.bq<32
 dir:(x.dir=1/\x.value=0)\/(x.dir=2/\x.bq=0)
structure tL(J:List eL)(w:Bool)(p:b5):Prop where
 lt:0<=p.A/\p.A<p.B/\p.B<J.length
 rd:(J.getD p.A.toNat default).dir=1
 bu:(J.getD p.A.toNat default).aI=(J.getD p.B.toNat default).aI
 wr:w=true->(J.getD p.B.toNat default).dir=2
def Be(J:List eL)(x:cE)(e:gG):Prop:=(e.kind=1/\eJ e.n=true)\/(e.kind=2/\0<=e.n/\e.n<J.length/\(J.getD e.n.toNat default).dir=1/\(J.getD e.n.toNat default).aI=x.aI)
structure Du(t:aM)(k:Nat)(a:Acc):Prop where
 J:∀x,x∈a.J->Mi t k x
 rR:a.J.Pairwise λx y=>jh x.aI x.place y.aI y.place=true
 n:a.J.length<=64
 bars:∀b,b∈a.bars->(0<=b.aI/\b.aI<k)/\(0<=b.place/\b.place<256)/\1<=b.dE/\b.dE<=11
 qZ:a.bars.Pairwise λx y=>jh x.aI x.place y.aI y.place=true
 Bp:a.bars.length<=256* k
 off:∀b,b∈a.bars->∀x,x∈a.J->x.aI=b.aI->x.place≠b.place
 addr:a.addr.Pairwise pQ/\∀p,p∈a.addr->tL a.J false p
 data:a.data.Pairwise pQ/\∀p,p∈a.data->tL a.J true p
 ba:a.ba.Pairwise pQ/\∀p,p∈a.ba->tL a.J false p
 NR:a.ends.length=(bk t).length
 ends:∀i,i<(bk t).length->0<=((bk t).getD i default).aI->((bk t).getD i default).aI<k->Be a.J ((bk t).getD i default) (a.ends.getD i default)
theorem tL.more{J m:List eL}{w:Bool}{p:b5}(h:tL J w p):tL (J++m) w p:=by
 obtain⟨⟨h1,h2,h3⟩,aC,aW,cM⟩:=h;have au:p.A.toNat<J.length:=by omega
 have hb:p.B.toNat<J.length:=by omega
 exact⟨⟨h1,h2,by rw[ams];omega⟩,by rw[kA au];exact aC,by rw[kA au,kA hb];exact aW,λq=>by rw[kA hb];exact cM q⟩
theorem Be.more{J m:List eL}{x:cE}{e:gG}(h:Be J x e):Be (J++m) x e:=by
 rcases h with h | ⟨h1,h2,h3,aC,aW⟩
 ·exact .inl h
 have hb:e.n.toNat<J.length:=by omega
 exact .inr ⟨h1,h2,by rw[ams];omega,by rw[kA hb];exact aC,by rw[kA hb];exact aW⟩
theorem tZ{α:Type}[Inhabited α]{l m:List α}{i:Nat}(h:l.length<=i):(l++m).getD i default=m.getD (i-l.length) default:=by rw[aml,aml,amL h]
theorem Kz{t:aM}{k:Nat}{cx:fa}{a:List eL}{s:b6}{c3:Nat}(S:gy cx s c3)(aE:cx.aI=(k:Int)){w:Bool}{l m:List b5}(aB:l.Pairwise pQ/\∀p,p∈l->tL a w p)(hm:pT s.J w m): (l++h4 m a.length).Pairwise pQ/\∀p,p∈l++h4 m a.length->tL (a++s.J) w p:=by
 refine⟨?_,λp hp=>?_⟩
 ·rw[ano];refine⟨aB.1,acr hm.nodup _,λx hx y aR=>?_⟩;obtain⟨q,aZ,rfl⟩:=Q6.1 aR;have h1:=(aB.2 x hx).lt;have h2:=(hm.ok q aZ).1;unfold pQ jh nw;dsimp only;rw[amr,amj];exact .inl (by omega)
 rcases amA.1 hp with hp | hp
 ·exact(aB.2 p hp).more
 obtain⟨q,aZ,rfl⟩:=Q6.1 hp;obtain⟨h1,h2,h3,aC,aW⟩:=hm.ok q aZ;have s0:((a.length:Int)+q.A).toNat-a.length=q.A.toNat:=by omega
 have wN:((a.length:Int)+q.B).toNat-a.length=q.B.toNat:=by omega
 have hA:=S.J _ (er (show q.A.toNat<s.J.length by omega));have hB:=S.J _ (er (show q.B.toNat<s.J.length by omega));unfold nw;refine⟨by dsimp only;rw[ams];omega,?_,?_,λhw=>?_⟩
 ·dsimp only;rw[tZ (by omega),s0];exact aC
 ·dsimp only;rw[tZ (by omega),tZ (by omega),s0,wN,hA.aI,hB.aI]
 dsimp only;rw[tZ (by omega),wN];exact aW hw
section
variable {t:aM} (G:ir t)
include G
theorem ir.acc:∀{k:Nat} {a:Acc},k<=t.code.length->iT t (bk t) k=.ok a->Du t k a
 | 0,a,_,h=>by unfold iT at h;injection h with h;subst h;exact⟨λ_ h=>(by cases h),List.Pairwise.nil,amz _,λ_ h=>(by cases h),List.Pairwise.nil,amz _,λ_ h=>(by cases h),⟨List.Pairwise.nil,λ_ h=>(by cases h)⟩,⟨List.Pairwise.nil,λ_ h=>(by cases h)⟩,⟨List.Pairwise.nil,λ_ h=>(by cases h)⟩,by simp,λi _ h1 h2=>by omega⟩
 | k+1,dI,hk,h=>by
  obtain⟨a,s,c3,au,ag,he,rfl⟩:=LJ h;have A:=ir.acc (by omega) au;obtain⟨b8,Y0,S⟩:=G.av (show k<t.code.length by omega) ag;have bG:(t.code.getD k default).length<=256:=G.len _ (er (by omega));have vp:(ek t k a.J.length).aI=(k:Int):=rfl;have aH:(b3 t.az:Int)<=32:=by unfold b3;split<;>omega
  have hle:c3<=(t.code.getD k default).length:=S.le;have YD:∀x,x∈s.J->Mi t (k+1) x:=λx hx=>by have E:=S.J x hx;have h1:=E.bq;have h2:(ek t k a.J.length).az=t.az:=rfl;rw[h2]at h1;exact⟨by rw[E.aI,vp];omega,by have:=E.place;omega,E.loc,E.num,by omega,E.dir⟩
  have Ib:∀b,b∈s.bars->b.aI=(k:Int)/\(0<=b.place/\b.place<256)/\1<=b.dE/\b.dE<=11:=λb hb=>by have B:=S.bars b hb;exact⟨B.aI,by have:=B.place;omega,B.D8⟩
  refine⟨λx hx=>?_,?_,?_,λb hb=>?_,?_,?_,λb hb x hx e=>?_,Kz (t:=t) S vp A.addr S.addr,Kz (t:=t) S vp A.data S.data,Kz (t:=t) S vp A.ba S.dB,?_,λi hi h0 h1=>?_⟩
  ·rcases amA.1 hx with hx | hx
   ·have E:=A.J x hx;exact⟨by have:=E.bu;omega,E.place,E.loc,E.num,E.bq,E.dir⟩
   exact YD x hx
  ·rw[ano];refine⟨A.rR,?_,λx hx y aR=>?_⟩
   ·refine anR (λ{x y} hx aR q=>?_) S.rR;unfold jh;rw[(S.J x hx).aI,(S.J y aR).aI];simp[q]
   have h1:=(A.J x hx).bu;have h2:=(S.J y aR).aI;unfold jh;rw[h2,vp,amq (by omega)];rfl
  ·have:=b8.Hn (by show a.J.length+0<=64;have:=A.n;omega);rw[ams];exact this
  ·rcases amA.1 hb with hb | hb
   ·obtain⟨cq,bn⟩:=A.bars b hb;exact⟨by omega,bn⟩
   obtain⟨cq,bn⟩:=Ib b hb;exact⟨by omega,bn⟩
  ·rw[ano];refine⟨A.qZ,?_,λx hx y aR=>?_⟩
   ·refine anR (λ{x y} hx aR q=>?_) S.qZ;unfold jh;rw[(S.bars x hx).aI,(S.bars y aR).aI];simp[q]
   have h1:=(A.bars x hx).1;have h2:=(S.bars y aR).aI;unfold jh;rw[h2,vp,amq (by omega)];rfl
  ·have h1:s.bars.length<=256:=by
    have:=CD 256 (s.bars.map (·.place)) (by rw[anz];exact S.qZ) λx hx=>by obtain⟨b,hb,rfl⟩:=am1.1 hx;exact(Ib b hb).2.1
    simpa using this
   have:=A.Bp;rw[ams];omega
  ·rcases amA.1 hb with hb | hb<;>rcases amA.1 hx with hx | hx
   ·exact A.off b hb x hx e
   ·have:=(A.bars b hb).1;have:=(S.J x hx).aI;rw[vp]at this;omega
   ·have:=(A.J x hx).bu;have:=(Ib b hb).1;omega
   intro q;have m1:=(S.J x hx).mem;have m2:=(S.bars b hb).mem;rw[q]at m1;dsimp only at m1 m2;omega
  ·simp[rO]
  show Be (a.J++s.J) _ ((rO (bk t) a.ends k a.J.length s.ah).getD i default);unfold rO;rw[s7 hi];split
  ·rename_i e;unfold tT at he;have:=ank.1 he _ (er hi);rw[amr,amk,amu]at this;obtain⟨iZ,eI⟩:=am7.1 (this.resolve_left λq=>q e);rw[eI];simp only[anE];have dj:=G.uL (er hi);have oj:0<=((bk t).getD i default).bq/\((bk t).getD i default).bq<b3 t.az:=by unfold k9 at dj;rw[amn (by omega)]at dj;simp only[ami,amj]at dj;refine⟨dj.1.1.2,?_⟩;have aW:=dj.1.2;unfold b3;rcases G.az with q | q<;>rw[q]at aW⊢ <;>simpa using aW
   have kk:=S.ah ((bk t).getD i default).bq.toNat (by rw[S.lA];show _<b3 t.az;omega);unfold nc at eI;revert eI;generalize hH:(s.ah.getD ((bk t).getD i default).bq.toNat default).has=H at kk;intro eI;unfold vd at eI;split at eI
   ·rename_i n;injection eI with eI;subst eI;exact .inl ⟨rfl,kk.1⟩
   ·rename_i j;injection eI with eI;subst eI;obtain⟨cq,bn⟩:=kk.1;refine .inr ⟨rfl,by dsimp only;omega,by dsimp only;rw[ams];omega,?_,?_⟩
    ·dsimp only;rw[amw,tZ (by omega),aom];exact bn
    dsimp only;rw[amw,tZ (by omega),aom,(S.J _ (er cq)).aI];exact e.symm
   cases eI
  rename_i e;exact(A.ends i hi h0 (by omega)).more
theorem ir.aav:(nR t).length=(b2 t).length:=by
 unfold nR;have:∀(l:List l0) (v:List Int),(l.foldl (λv x=>if x.aI= -1 then v.set (dp (b2 t) x.loc) x.value.n else v) v).length=v.length:=by
  intro l
  induction l with
  | nil=>intro v;rfl
  | cons x l bH=>intro v;rw[anJ,bH];split<;>simp
 rw[this,amS]
theorem ir.aaw{i:Nat}(hi:i<(b2 t).length):eJ ((nR t).getD i default)=true:=by
 unfold nR;have:∀(l:List l0) (v:List Int),(∀x,x∈l->x∈t.init)->(∀i,i<v.length->eJ (v.getD i default)=true)->∀i,i<v.length->eJ ((l.foldl (λv x=>if x.aI= -1 then v.set (dp (b2 t) x.loc) x.value.n else v) v).getD i default)=true:=by
  intro l
  induction l with
  | nil=>intro v _ h;exact h
  | cons x l bH=>
   intro v aB h i hi;rw[anJ];refine bH _ (λy aR=>aB y (.tail _ aR)) (λj ad=>?_) i (by split<;>simpa using hi);split
   ·rename_i e;rw[fL];split
    ·exact(G.Ff (aB x aL) e).2.2.1
    rename_i q;rw[amo e,amQ]at ad;exact h j ad
   rename_i e;rw[amn e]at ad;exact h j ad
 refine this _ _ (λ_ h=>h) (λj ad=>?_) i (by rw[amS];exact hi);rw[amS]at ad;rw[aml,anb,amo ad];decide
theorem ir.acG{s:ByteArray}(ag:s∈b2 t):eC s=true:=by
 obtain⟨h1,h2⟩:=uw.1 ag;unfold mM at h1;rw[amA,amA]at h1;rcases h1 with(h1 | h1) | h1
 ·obtain⟨x,hx,hm⟩:=ana.1 h1;have ki:s=x.loc\/s=x.value.loc:=by simpa using hm
  by_cases e:x.aI= -1
  ·obtain⟨cq,_,_,bn⟩:=G.Ff hx e;rcases ki with rfl | rfl
   ·exact cq
   exact absurd bn h2
  obtain⟨_,_,cq,_,_,bn⟩:=G.vI hx e;rcases ki with rfl | rfl
  ·exact absurd cq h2
  rcases bn with⟨bn,_⟩ | ⟨_,_,bn,_⟩
  ·exact absurd bn h2
  exact bn
 ·obtain⟨c,ai,hm⟩:=ana.1 h1;obtain⟨i,hi,rfl⟩:=am1.1 hm;have bN:=G.ins c ai i hi;unfold mJ at bN;split at bN
  ·have F:=JB bN;have:=F.Ap rfl;by_cases q:i.op=1\/i.op=2\/i.op=3
   ·exact F.loc q
   exfalso;unfold j7 at bN;rw[ami,amj]at bN;have e:=amC Instr.loc bN.2;unfold rF at e;rw[amn (by omega),amn (by omega),amn (by omega)]at e;split at e<;>exact h2 e.symm
  exact absurd (yu bN).2 h2
 obtain⟨x,hx,rfl⟩:=am1.1 h1;rcases wk.1 (Gz (G.uL hx)).1 with⟨_,_,q⟩ | ⟨_,_,_,_,q⟩
 ·exact q
 exact absurd q h2
end
theorem Gy{t:aM}(h:du t=0):pL t=0/\∃a,iT t (bk t) t.code.length=.ok a:=by
 unfold du at h;split at h
 ·rename_i h1;refine⟨h1,?_⟩;split at h
  ·rename_i a au;exact⟨a,au⟩
  rename_i e he;exfalso;subst h;have:∀k,iT t (bk t) k≠.bad 0:=by
   intro k
   induction k with
   | zero=>unfold iT;simp
   | succ k bH=>
    unfold iT;split
    ·rename_i e q;intro bn;rw[bn]at q;exact bH q
    split
    ·simp
    ·simp
    split<;>simp
  exact this _ he
 rename_i h1;exact absurd h h1
theorem GG{t:aM}(h1:pL t=0){a:Acc}(au:iT t (bk t) t.code.length=.ok a):al t=⟨b2 t,nR t,a.J,a.bars,a.addr,a.data,a.ba,bk t,xO t (bk t) a.ends⟩:=by unfold al;rw[amo h1,au]
theorem CT{α:Type}[Inhabited α]{r:α->α->Prop}{l:List α}(h:l.Pairwise r){i:Nat}(h0:0<i)(hi:i<l.length):r (l.getD (i-1) default) (l.getD i default):=by have:=am9.1 h (i-1) i (by omega) hi (by omega);rw[aml,aml,amp hi,amp (show i-1<l.length by omega)];exact this
theorem abS{l:List ByteArray}{s:ByteArray}(h:s∈l):l.findIdx? (λx=>decide (x=s))=some (dp l s):=by rw[List.findIdx?_eq_some_iff_findIdx_eq];exact⟨qb h,rfl⟩
theorem Kv{t:a1}{w:Bool}{l:List b5}(h:l.Pairwise pQ/\∀p,p∈l->tL t.J w p):pa t l w=true:=by
 unfold pa;rw[fX];intro i hi;obtain⟨h1,h2,h3,aC⟩:=h.2 _ (er hi);unfold vX CP bU.aN;rw[ami];constructor
 ·rw[amq h1.1,amq h1.2.1,amq h1.2.2,amq h2,amq h3];cases w with
  | false=>rfl
  | true=>rw[amq (aC rfl)];rfl
 by_cases q:i=0
 ·rw[amq q];rfl
 rw[show jh _ _ _ _=true from CT h.1 (by omega) hi,aoR]
theorem jv{t:aM}(h:du t=0):gL (al t)=true:=by
 obtain⟨cP,a,au⟩:=Gy h;have G:=BJ cP;have A:=G.acc (amK _) au;have bh:t.code.length<=16:=G.n16;rw[GG cP au];unfold gL;simp only[ami];refine⟨⟨⟨⟨⟨⟨?_,?_⟩,?_⟩,Kv A.addr⟩,Kv A.data⟩,Kv A.ba⟩,?_⟩
 ·unfold o4;rw[ami,ami,amj,amj,fX];refine⟨⟨G.vS,G.aav⟩,λi hi=>?_⟩;unfold yC;rw[ami,ami];refine⟨⟨G.acG (er hi),?_⟩,G.aaw hi⟩;by_cases q:i=0
  ·rw[amq q];rfl
  rw[show gT _ _=true from CT (xg t) (by omega) hi,aoR]
 ·unfold oP;rw[ami,amj,fX];refine⟨A.n,λi hi=>?_⟩;have E:=A.J _ (er hi);unfold pY vg tz DX;rw[ami];constructor
  ·have bC:=E.bu;have cd:=E.place;have hY:=E.loc;have k0:=E.bq;have rN:=E.num;dsimp only;rw[amq bC.1,amq (show _<(16:Int) by omega),amq cd.1,amq cd.2,amq hY.1,amq hY.2,rN,amq k0.1,amq (show _<=(31:Int) by omega)];rcases E.dir with⟨cq,bn⟩ | ⟨cq,bn⟩
   ·rw[amq cq,amq bn];rfl
   rw[amq cq,amq bn];simp
  by_cases q:i=0
  ·rw[amq q];rfl
  rw[show jh _ _ _ _=true from CT A.rR (by omega) hi,aoR]
 ·unfold q1;rw[ami,amj,fX];refine⟨by have:=A.Bp;dsimp only;omega,λi hi=>?_⟩;obtain⟨hJ,dy,dR⟩:=A.bars _ (er hi);unfold sO tz;simp only[ami];refine⟨⟨⟨⟨?_,amq dR.1⟩,amq dR.2⟩,?_⟩,?_⟩
  ·exact⟨⟨⟨amq hJ.1,amq (by omega)⟩,amq dy.1⟩,amq dy.2⟩
  ·by_cases q:i=0
   ·rw[amq q];rfl
   rw[show jh _ _ _ _=true from CT A.qZ (by omega) hi,aoR]
  unfold Hc;rw[fX];intro k hk;rw[amk,amx,amu,amu];by_cases q:(a.J.getD k default).aI=(a.bars.getD i default).aI
  ·exact .inr (A.off _ (er hi) _ (er hk) q)
  exact .inl q
 have lk:(xO t (bk t) a.ends).length=(bk t).length:=by simp[xO]
 unfold uK;rw[ami,ami,amj,amj,fX];refine⟨⟨lk.symm,G.LA⟩,λi hi=>?_⟩;have hm:(bk t).getD i default∈bk t:=er hi;have dj:=(Gz (G.uL hm)).1;unfold AX;rw[ami];constructor
 ·dsimp only;unfold xO;rw[s7 hi];unfold tD;rcases wk.1 dj with⟨cq,bn,e8⟩ | ⟨cq,bn,e8,ih,j9⟩
  ·rw[amo cq,amo cq];have ni:((bk t).getD i default).loc∈b2 t:=by refine uw.2 ⟨?_,sf e8⟩;unfold mM;rw[amA];exact .inr (am1.2 ⟨_,hm,rfl⟩)
   unfold CE;dsimp only;rw[abS ni];dsimp only;rw[amq bn,amq rfl,amq rfl];rfl
  rw[amn (by omega),amn (by omega),amq cq,amq bn,amq e8,amq (show _<=(31:Int) by omega),amq (show _=ByteArray.empty from j9)];have:=A.ends i hi cq (by exact G.Ly _ hm);unfold zt bU.aN;dsimp only;rcases this with⟨bC,cd⟩ | ⟨bC,cd,hY,k0,rN⟩
  ·rw[amq bC,cd];rfl
  rw[amq bC,amq cd,amq hY,amq k0,amq rN];simp
 by_cases q:i=0
 ·rw[amq q];rfl
 rw[show iv _ _=true from CT G.TX.1 (by omega) hi,aoR]
end Go.bU
namespace Go.gH
theorem V3(rows:List W)(i:Nat)(r:W)(a b:Nat)(hi:i<rows.length):aT (rows.set i r) a b=if a=i then r.getLsbD b else aT rows a b:=by
 unfold aT;rw[aml,aoC];by_cases h:i=a
 ·subst h;simp[hi]
 rw[amn h,amn λe=>h e.symm,<-aml]
theorem WG(k:Nat)(rows:List W)(i a b:Nat)(hi:i<rows.length):aT (sZ k rows i) a b=(aT rows a b||(decide (a=i)&&aT rows i k&&aT rows k b)):=by
 unfold sZ;by_cases h:(rows.getD i default).getLsbD k=true
 ·rw[amo h,V3 _ _ _ _ _ hi,anW];have cr:aT rows i k=true:=h;by_cases au:a=i
  ·subst au;simp[cr];rfl
  simp[au]
 rw[amn h];have cr:aT rows i k=false:=by simpa[aT]using h
 simp[cr]
theorem WD(k:Nat)(rows:List W)(n:Nat)(bh:n<=rows.length):((List.range n).foldl (sZ k) rows).length=rows.length/\∀a b,aT ((List.range n).foldl (sZ k) rows) a b=(aT rows a b||(decide (a<n)&&aT rows a k&&aT rows k b)):=by
 induction n with
 | zero=>simp
 | succ n bH=>
  obtain⟨aB,bH⟩:=bH (by omega);rw[foldl_succ];refine⟨by rw[NF,aB],λa b=>?_⟩;rw[WG _ _ _ _ _ (by omega),bH,bH,bH];by_cases au:a=n
  ·subst au;simp only[aow,aoQ,anT,aoU,decide_true,anA,anF];cases aT rows a b<;>cases aT rows a k<;>cases aT rows k b<;>cases aT rows k k<;>simp
  rw[show decide (a<n+1)=decide (a<n)from am3.2 (by omega)];simp[au]
theorem WC(m k:Nat)(rows:List W)(hm:rows.length=m)(a b:Nat):aT (wL m rows k) a b=(aT rows a b||(aT rows a k&&aT rows k b)):=by
 unfold wL;rw[(WD k rows m (by omega)).2];by_cases au:a<m
 ·simp[au]
 rw[Nd rows a k (by omega)];simp
inductive l1(p:Nat->Nat->Bool):Nat->Nat->Prop where
 | one {a b:Nat}:p a b=true->l1 p a b
 | more {a b c:Nat}:l1 p a b->p b c=true->l1 p a c
theorem l1.trans{p:Nat->Nat->Bool}{a b c:Nat}(h:l1 p a b)(h2:l1 p b c):l1 p a c:=by
 induction h2 with
 | one h3=>exact .more h h3
 | more _ h3 bH=>exact .more bH h3
theorem l1.within{p q:Nat->Nat->Bool}(Pv:∀a b,p a b=true->q a b=true)(aE:∀a b c,q a b=true->q b c=true->q a c=true){a b:Nat}(h:l1 p a b):q a b=true:=by
 induction h with
 | one h3=>exact Pv _ _ h3
 | more _ h3 bH=>exact aE _ _ _ bH (Pv _ _ h3)
def qR(m:Nat)(rows:List W)(n:Nat):List W:=(List.range n).foldl (wL m) rows
theorem Uu(m:Nat)(rows:List W)(n:Nat):(qR m rows n).length=rows.length:=HR _ (λr k=>ND m k r) _ _
theorem L0(m:Nat)(rows:List W)(n:Nat)(hm:rows.length=m)(a b:Nat):aT (qR m rows (n+1)) a b=(aT (qR m rows n) a b||(aT (qR m rows n) a n&&aT (qR m rows n) n b)):=by show aT ((List.range (n+1)).foldl (wL m) rows) a b=_;rw[foldl_succ,show(List.range n).foldl (wL m) rows=qR m rows n from rfl,WC m n _ ((Uu m rows n).trans hm)]
theorem ah7(m:Nat)(rows:List W)(hm:rows.length=m)(n a b:Nat)(h:aT (qR m rows n) a b=true):l1 (aT rows) a b:=by
 induction n generalizing a b with
 | zero=>exact .one h
 | succ n bH=>
  rw[L0 m rows n hm,amr,ami]at h;rcases h with h | ⟨h1,h2⟩
  ·exact bH a b h
  exact(bH _ _ h1).trans (bH _ _ h2)
theorem ah6(m:Nat)(rows:List W)(hm:rows.length=m)(n a b:Nat)(h:aT rows a b=true):aT (qR m rows n) a b=true:=by
 induction n with
 | zero=>exact h
 | succ n bH=>rw[L0 m rows n hm,bH];rfl
theorem ah8(m:Nat)(rows:List W)(hm:rows.length=m)(n k:Nat)(hk:k<n)(a b:Nat)(h1:aT (qR m rows n) a k=true)(h2:aT (qR m rows n) k b=true):aT (qR m rows n) a b=true:=by
 induction n generalizing k a b with
 | zero=>omega
 | succ n bH=>
  rw[L0 m rows n hm,amr,ami]at h1 h2⊢;by_cases gY:k=n
  ·subst gY;have bC:aT (qR m rows k) a k=true:=by rcases h1 with h | ⟨h,_⟩<;>exact h
   have cd:aT (qR m rows k) k b=true:=by rcases h2 with h | ⟨_,h⟩<;>exact h
   exact .inr ⟨bC,cd⟩
  have fe:k<n:=by omega
  rcases h1 with h1 | ⟨h1,cb⟩
  ·rcases h2 with h2 | ⟨h2,bF⟩
   ·exact .inl (bH k fe a b h1 h2)
   exact .inr ⟨bH k fe a n h1 h2,bF⟩
  rcases h2 with h2 | ⟨h2,bF⟩
  ·exact .inr ⟨h1,bH k fe n b cb h2⟩
  exact .inr ⟨h1,bF⟩
theorem Bz{m:Nat}{rows:List W}(h:fx m rows=true)(a b:Nat):aT (tQ m rows) a b=true↔l1 (aT rows) a b:=by
 obtain⟨m',ki,hok⟩:=(Gc _ _).1 h;obtain rfl:m=m':=by omega
 have hm:=hok.len;refine⟨ah7 m rows hm m a b,λaH=>?_⟩;refine l1.within (q:=aT (qR m rows m)) (λa b h=>ah6 m rows hm m a b h) (λa k b h1 h2=>?_) aH;by_cases hk:k<m
 ·exact ah8 m rows hm m k hk a b h1 h2
 rw[Nd _ k b (by rw[Uu];omega)]at h2;cases h2
def left(m:Nat)(V:Nat->Bool):Nat:=(List.range m).countP λb=>!V b
end Go.gH
namespace Go.Proofs.bK
def ints(ts:List Nat):List Int:=ts.map λ(t:Nat)=>(t:Int)
end Go.Proofs.bK
namespace Go.gH
def GH(m:Nat)(a b:List W):List W:=bT m λi j=>aT a i j||aT b i j
theorem N1{m:Nat}{a b:List W}(Al:fx m a=true)(xi:fx m b=true):od m a m b=0:=by unfold od;simp[Al,xi]
theorem uE(m:Nat)(p:Nat->Nat->Bool)(h:m<=64)(i j:Nat)(hi:i<m)(ad:j<m):aT (bT m p) i j=p i j:=by rw[AH m p h];simp[hi,ad]
end Go.gH
namespace Go.Proofs.bK
section
variable {m:Nat} {fI fl:Value} {a b:List W} {w:World} (Al:fx m a=true) (xi:fx m b=true) (au:aV an w fA 1 fI a) (hb:aV an w fA 1 fl b)
include Al xi au hb
theorem A2:eH prog 98 [.agg #[.int .i64 m,fI],.agg #[.int .i64 m,fl]] w (tM m (GH m a b) 0):=by have:=ahA m fI a m fl b w au hb;unfold FF at this;rw[N1 Al xi]at this;exact this
end
end Go.Proofs.bK
namespace Go.Proofs.bK
open Go Go.Proofs Go.Shelf
def abt:Go.Shelf.Ren:=⟨λ| 190=>142 | 125=>157 | 258=>231 | 128=>243 | 129=>244 | 302=>301 | 303=>302 | 304=>303 | 305=>304 | 306=>305 | 307=>306 | 308=>67 | 309=>307 | 310=>308 | 333=>364 | 329=>319 | 330=>320 | 334=>365 | 335=>366 | 336=>144 | 344=>394 | n=>n,λ| 31=>34 | 9=>9 | 3=>3 | 46=>156 | 0=>0 | 51=>336 | 53=>81 | 4=>4 | 183=>330 | 182=>329 | 131=>73 | 5=>5 | 218=>389 | 222=>393 | 228=>413 | 229=>414 | n=>n,λ| n=>n⟩
theorem Qq:Go.Proofs.Lays.n190 prog abt:={
 mixed:=by kernel_rfl
 f125:=func157.trans (amC some (by kernel_rfl))
 f128:=func243.trans (amC some (by kernel_rfl))
 f129:=func244.trans (amC some (by kernel_rfl))
 f190:=func142.trans (amC some (by kernel_rfl))
 f258:=func231.trans (amC some (by kernel_rfl))
 f302:=func301.trans (amC some (by kernel_rfl))
 f303:=func302.trans (amC some (by kernel_rfl))
 f304:=func303.trans (amC some (by kernel_rfl))
 f305:=func304.trans (amC some (by kernel_rfl))
 f306:=func305.trans (amC some (by kernel_rfl))
 f307:=func306.trans (amC some (by kernel_rfl))
 f308:=func67.trans (amC some (by kernel_rfl))
 f309:=func307.trans (amC some (by kernel_rfl))
 f310:=func308.trans (amC some (by kernel_rfl))
 f329:=func319.trans (amC some (by kernel_rfl))
 f330:=func320.trans (amC some (by kernel_rfl))
 f333:=func364.trans (amC some (by kernel_rfl))
 f334:=func365.trans (amC some (by kernel_rfl))
 f335:=func366.trans (amC some (by kernel_rfl))
 f336:=func144.trans (amC some (by kernel_rfl))
 f344:=func394.trans (amC some (by kernel_rfl))
 t0:=underlying0
 a0:=Tryz.isAgg0
 z0:=Tryz.sizeOf0
 v0:=Tryz.zeroValue0
 t3:=underlying3
 a3:=Tryz.isAgg3
 z3:=Tryz.sizeOf3
 v3:=Tryz.zeroValue3
 t4:=underlying4
 a4:=Tryz.isAgg4
 z4:=Tryz.sizeOf4
 v4:=Tryz.zeroValue4
 t5:=underlying5
 a5:=Tryz.isAgg5
 z5:=Tryz.sizeOf5
 v5:=Tryz.zeroValue5
 t9:=underlying9
 a9:=Tryz.isAgg9
 z9:=Tryz.sizeOf9
 v9:=Tryz.zeroValue9
 t31:=underlying34
 a31:=Tryz.isAgg34
 z31:=Tryz.sizeOf34
 v31:=Tryz.zeroValue34
 t46:=underlying156
 a46:=Tryz.isAgg156
 z46:=Tryz.sizeOf156
 v46:=Tryz.zeroValue156
 t51:=underlying336
 a51:=Tryz.isAgg336
 z51:=Tryz.sizeOf336
 v51:=Tryz.zeroValue336
 t53:=underlying81
 a53:=Tryz.isAgg81
 z53:=Tryz.sizeOf81
 v53:=Tryz.zeroValue81
 t131:=underlying73
 a131:=Tryz.isAgg73
 z131:=Tryz.sizeOf73
 v131:=Tryz.zeroValue73
 t182:=underlying329
 a182:=Tryz.isAgg329
 z182:=Tryz.sizeOf329
 v182:=Tryz.zeroValue329
 t183:=underlying330
 a183:=Tryz.isAgg330
 z183:=Tryz.sizeOf330
 v183:=Tryz.zeroValue330
 t218:=underlying389
 a218:=Tryz.isAgg389
 z218:=Tryz.sizeOf389
 v218:=Tryz.zeroValue389
 t222:=underlying393
 a222:=Tryz.isAgg393
 z222:=Tryz.sizeOf393
 v222:=Tryz.zeroValue393
 t228:=underlying413
 a228:=Tryz.isAgg413
 z228:=Tryz.sizeOf413
 v228:=Tryz.zeroValue413
 t229:=underlying414
 a229:=Tryz.isAgg414
 z229:=Tryz.sizeOf414
 v229:=Tryz.zeroValue414}
def abq:Go.Shelf.Ren:=⟨λ| 106=>233 | 213=>317 | 265=>370 | n=>n,λ| 9=>9 | 3=>3 | n=>n,λ| n=>n⟩
theorem abp:Go.Proofs.Lays.n106 prog abq:={
 mixed:=by kernel_rfl
 f106:=func233.trans (amC some (by kernel_rfl))
 f213:=func317.trans (amC some (by kernel_rfl))
 f265:=func370.trans (amC some (by kernel_rfl))
 t3:=underlying3
 a3:=Tryz.isAgg3
 z3:=Tryz.sizeOf3
 v3:=Tryz.zeroValue3
 t9:=underlying9
 a9:=Tryz.isAgg9
 z9:=Tryz.sizeOf9
 v9:=Tryz.zeroValue9}
def abx:Go.Shelf.Ren:=⟨λ| 6=>147 | 15=>157 | 14=>232 | 28=>243 | 29=>244 | 20=>309 | 21=>310 | 22=>311 | 23=>312 | 24=>313 | 25=>314 | 26=>315 | 27=>316 | 46=>367 | 47=>319 | 48=>320 | 49=>368 | 50=>369 | 57=>395 | n=>n,λ| 22=>38 | 24=>25 | 25=>244 | 3=>3 | 39=>156 | 0=>0 | 53=>336 | 55=>81 | 4=>4 | 46=>330 | 45=>329 | 50=>73 | 5=>5 | 9=>9 | 66=>389 | 70=>393 | 76=>413 | 77=>414 | n=>n,λ| n=>n⟩
theorem abw:Go.Proofs.SlLaysF0.n6 prog abx:={
 mixed:=by kernel_rfl
 f6:=⟨ "slices.SortFunc[[]alembic/api.Thing,alembic/api.Thing]",by decide,func147.trans (amC some (by kernel_rfl))⟩
 f14:=⟨ "slices.pdqsortCmpFunc[alembic/api.Thing]",by decide,func232.trans (amC some (by kernel_rfl))⟩
 f15:=func157.trans (amC some (by kernel_rfl))
 f20:=⟨ "slices.insertionSortCmpFunc[alembic/api.Thing]",by decide,func309.trans (amC some (by kernel_rfl))⟩
 f21:=⟨ "slices.heapSortCmpFunc[alembic/api.Thing]",by decide,func310.trans (amC some (by kernel_rfl))⟩
 f22:=⟨ "slices.breakPatternsCmpFunc[alembic/api.Thing]",by decide,func311.trans (amC some (by kernel_rfl))⟩
 f23:=⟨ "slices.choosePivotCmpFunc[alembic/api.Thing]",by decide,func312.trans (amC some (by kernel_rfl))⟩
 f24:=⟨ "slices.reverseRangeCmpFunc[alembic/api.Thing]",by decide,func313.trans (amC some (by kernel_rfl))⟩
 f25:=⟨ "slices.partialInsertionSortCmpFunc[alembic/api.Thing]",by decide,func314.trans (amC some (by kernel_rfl))⟩
 f26:=⟨ "slices.partitionEqualCmpFunc[alembic/api.Thing]",by decide,func315.trans (amC some (by kernel_rfl))⟩
 f27:=⟨ "slices.partitionCmpFunc[alembic/api.Thing]",by decide,func316.trans (amC some (by kernel_rfl))⟩
 f28:=func243.trans (amC some (by kernel_rfl))
 f29:=func244.trans (amC some (by kernel_rfl))
 f46:=⟨ "slices.siftDownCmpFunc[alembic/api.Thing]",by decide,func367.trans (amC some (by kernel_rfl))⟩
 f47:=func319.trans (amC some (by kernel_rfl))
 f48:=func320.trans (amC some (by kernel_rfl))
 f49:=⟨ "slices.medianAdjacentCmpFunc[alembic/api.Thing]",by decide,func368.trans (amC some (by kernel_rfl))⟩
 f50:=⟨ "slices.medianCmpFunc[alembic/api.Thing]",by decide,func369.trans (amC some (by kernel_rfl))⟩
 f57:=⟨ "slices.order2CmpFunc[alembic/api.Thing]",by decide,func395.trans (amC some (by kernel_rfl))⟩
 t0:=underlying0
 a0:=Tryz.isAgg0
 z0:=Tryz.sizeOf0
 v0:=Tryz.zeroValue0
 t3:=underlying3
 a3:=Tryz.isAgg3
 z3:=Tryz.sizeOf3
 v3:=Tryz.zeroValue3
 t4:=underlying4
 a4:=Tryz.isAgg4
 z4:=Tryz.sizeOf4
 v4:=Tryz.zeroValue4
 t5:=underlying5
 a5:=Tryz.isAgg5
 z5:=Tryz.sizeOf5
 v5:=Tryz.zeroValue5
 t9:=underlying9
 a9:=Tryz.isAgg9
 z9:=Tryz.sizeOf9
 v9:=Tryz.zeroValue9
 t22:=underlying38
 a22:=Tryz.isAgg38
 z22:=Tryz.sizeOf38
 v22:=Tryz.zeroValue38
 t25:=underlying244
 a25:=Tryz.isAgg244
 z25:=Tryz.sizeOf244
 v25:=Tryz.zeroValue244
 t39:=underlying156
 a39:=Tryz.isAgg156
 z39:=Tryz.sizeOf156
 v39:=Tryz.zeroValue156
 t45:=underlying329
 a45:=Tryz.isAgg329
 z45:=Tryz.sizeOf329
 v45:=Tryz.zeroValue329
 t46:=underlying330
 a46:=Tryz.isAgg330
 z46:=Tryz.sizeOf330
 v46:=Tryz.zeroValue330
 t50:=underlying73
 a50:=Tryz.isAgg73
 z50:=Tryz.sizeOf73
 v50:=Tryz.zeroValue73
 t53:=underlying336
 a53:=Tryz.isAgg336
 z53:=Tryz.sizeOf336
 v53:=Tryz.zeroValue336
 t55:=underlying81
 a55:=Tryz.isAgg81
 z55:=Tryz.sizeOf81
 v55:=Tryz.zeroValue81
 t66:=underlying389
 a66:=Tryz.isAgg389
 z66:=Tryz.sizeOf389
 v66:=Tryz.zeroValue389
 t70:=underlying393
 a70:=Tryz.isAgg393
 z70:=Tryz.sizeOf393
 v70:=Tryz.zeroValue393
 t76:=underlying413
 a76:=Tryz.isAgg413
 z76:=Tryz.sizeOf413
 v76:=Tryz.zeroValue413
 t77:=underlying414
 a77:=Tryz.isAgg414
 z77:=Tryz.sizeOf414
 v77:=Tryz.zeroValue414}
def abv:Go.Shelf.Ren:=⟨λ| 6=>77 | 15=>157 | 14=>156 | 28=>243 | 29=>244 | 20=>235 | 21=>236 | 22=>237 | 23=>238 | 24=>239 | 25=>240 | 26=>241 | 27=>242 | 46=>318 | 47=>319 | 48=>320 | 49=>321 | 50=>322 | 57=>371 | n=>n,λ| 22=>37 | 24=>178 | 25=>180 | 3=>3 | 39=>156 | 0=>0 | 53=>336 | 55=>81 | 4=>4 | 46=>330 | 45=>329 | 50=>73 | 5=>5 | 9=>9 | 66=>389 | 70=>393 | 76=>413 | 77=>414 | n=>n,λ| n=>n⟩
theorem abu:Go.Proofs.SlLaysF0.n6 prog abv:={
 mixed:=by kernel_rfl
 f6:=⟨ "slices.SortFunc[[]alembic/api.Pair,alembic/api.Pair]",by decide,func77.trans (amC some (by kernel_rfl))⟩
 f14:=⟨ "slices.pdqsortCmpFunc[alembic/api.Pair]",by decide,func156.trans (amC some (by kernel_rfl))⟩
 f15:=func157.trans (amC some (by kernel_rfl))
 f20:=⟨ "slices.insertionSortCmpFunc[alembic/api.Pair]",by decide,func235.trans (amC some (by kernel_rfl))⟩
 f21:=⟨ "slices.heapSortCmpFunc[alembic/api.Pair]",by decide,func236.trans (amC some (by kernel_rfl))⟩
 f22:=⟨ "slices.breakPatternsCmpFunc[alembic/api.Pair]",by decide,func237.trans (amC some (by kernel_rfl))⟩
 f23:=⟨ "slices.choosePivotCmpFunc[alembic/api.Pair]",by decide,func238.trans (amC some (by kernel_rfl))⟩
 f24:=⟨ "slices.reverseRangeCmpFunc[alembic/api.Pair]",by decide,func239.trans (amC some (by kernel_rfl))⟩
 f25:=⟨ "slices.partialInsertionSortCmpFunc[alembic/api.Pair]",by decide,func240.trans (amC some (by kernel_rfl))⟩
 f26:=⟨ "slices.partitionEqualCmpFunc[alembic/api.Pair]",by decide,func241.trans (amC some (by kernel_rfl))⟩
 f27:=⟨ "slices.partitionCmpFunc[alembic/api.Pair]",by decide,func242.trans (amC some (by kernel_rfl))⟩
 f28:=func243.trans (amC some (by kernel_rfl))
 f29:=func244.trans (amC some (by kernel_rfl))
 f46:=⟨ "slices.siftDownCmpFunc[alembic/api.Pair]",by decide,func318.trans (amC some (by kernel_rfl))⟩
 f47:=func319.trans (amC some (by kernel_rfl))
 f48:=func320.trans (amC some (by kernel_rfl))
 f49:=⟨ "slices.medianAdjacentCmpFunc[alembic/api.Pair]",by decide,func321.trans (amC some (by kernel_rfl))⟩
 f50:=⟨ "slices.medianCmpFunc[alembic/api.Pair]",by decide,func322.trans (amC some (by kernel_rfl))⟩
 f57:=⟨ "slices.order2CmpFunc[alembic/api.Pair]",by decide,func371.trans (amC some (by kernel_rfl))⟩
 t0:=underlying0
 a0:=Tryz.isAgg0
 z0:=Tryz.sizeOf0
 v0:=Tryz.zeroValue0
 t3:=underlying3
 a3:=Tryz.isAgg3
 z3:=Tryz.sizeOf3
 v3:=Tryz.zeroValue3
 t4:=underlying4
 a4:=Tryz.isAgg4
 z4:=Tryz.sizeOf4
 v4:=Tryz.zeroValue4
 t5:=underlying5
 a5:=Tryz.isAgg5
 z5:=Tryz.sizeOf5
 v5:=Tryz.zeroValue5
 t9:=underlying9
 a9:=Tryz.isAgg9
 z9:=Tryz.sizeOf9
 v9:=Tryz.zeroValue9
 t22:=underlying37
 a22:=Tryz.isAgg37
 z22:=Tryz.sizeOf37
 v22:=Tryz.zeroValue37
 t25:=underlying180
 a25:=Tryz.isAgg180
 z25:=Tryz.sizeOf180
 v25:=Tryz.zeroValue180
 t39:=underlying156
 a39:=Tryz.isAgg156
 z39:=Tryz.sizeOf156
 v39:=Tryz.zeroValue156
 t45:=underlying329
 a45:=Tryz.isAgg329
 z45:=Tryz.sizeOf329
 v45:=Tryz.zeroValue329
 t46:=underlying330
 a46:=Tryz.isAgg330
 z46:=Tryz.sizeOf330
 v46:=Tryz.zeroValue330
 t50:=underlying73
 a50:=Tryz.isAgg73
 z50:=Tryz.sizeOf73
 v50:=Tryz.zeroValue73
 t53:=underlying336
 a53:=Tryz.isAgg336
 z53:=Tryz.sizeOf336
 v53:=Tryz.zeroValue336
 t55:=underlying81
 a55:=Tryz.isAgg81
 z55:=Tryz.sizeOf81
 v55:=Tryz.zeroValue81
 t66:=underlying389
 a66:=Tryz.isAgg389
 z66:=Tryz.sizeOf389
 v66:=Tryz.zeroValue389
 t70:=underlying393
 a70:=Tryz.isAgg393
 z70:=Tryz.sizeOf393
 v70:=Tryz.zeroValue393
 t76:=underlying413
 a76:=Tryz.isAgg413
 z76:=Tryz.sizeOf413
 v76:=Tryz.zeroValue413
 t77:=underlying414
 a77:=Tryz.isAgg414
 z77:=Tryz.sizeOf414
 v77:=Tryz.zeroValue414}
end Go.Proofs.bK
