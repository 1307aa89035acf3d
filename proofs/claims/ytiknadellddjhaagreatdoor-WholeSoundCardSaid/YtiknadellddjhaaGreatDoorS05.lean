/- Lemmas for the law WholeSound. -/
import Derived.Test.YtiknadellddjhaaGreatDoorS03
import Derived.Test.YtiknadellddjhaaGreatDoorS04
set_option linter.all false
open Go Go.cc
namespace Go.bU
def ql(a b:ByteArray):Prop:=gT a b=true
theorem JU(a b:ByteArray):gT a b=true\/a=b\/gT b a=true:=by
 rcases M9 a.toList b.toList with h | h | h
 ·exact .inl h
 ·refine .inr (.inl ?_);have:=D2 a b;rw[h,beq_self_eq_true]at this;have:=this.symm;rw[aq]at this;exact this
 exact .inr (.inr h)
theorem J3{s x:ByteArray}:∀{l:List ByteArray},x∈kX s l↔x=s\/x∈l
 | []=>by simp[kX]
 | y::r=>by
  unfold kX;split
  ·rename_i e;subst e;simp
  split
  ·simp
  rw[amG,J3,amG];constructor
  ·rintro(h | h | h)
   ·exact .inr (.inl h)
   ·exact .inl h
   exact .inr (.inr h)
  rintro(h | h | h)
  ·exact .inr (.inl h)
  ·exact .inl h
  exact .inr (.inr h)
theorem Ud{s:ByteArray}:∀{l:List ByteArray},l.Pairwise ql->(kX s l).Pairwise ql
 | [],_=>by simp[kX]
 | y::r,h=>by
  rw[am2]at h;unfold kX;split
  ·exact am2.2 h
  rename_i dC;split
  ·rename_i aB;refine am2.2 ⟨λz aY=>?_,am2.2 h⟩;rcases amG.1 aY with rfl | aY
   ·exact aB
   exact xe aB (h.1 z aY)
  rename_i aB;refine am2.2 ⟨λz aY=>?_,Ud h.2⟩;rcases J3.1 aY with rfl | aY
  ·rcases JU z y with q | q | q
   ·exact absurd q aB
   ·exact absurd q dC
   exact q
  exact h.1 z aY
theorem aca{s x:ByteArray}{l:List ByteArray}:x∈qK l s↔(x=s/\s≠a8)\/x∈l:=by
 unfold qK;split
 ·rename_i e;simp[e]
 rename_i e;rw[J3];simp[e]
theorem Uc{s:ByteArray}{l:List ByteArray}(h:l.Pairwise ql):(qK l s).Pairwise ql:=by
 unfold qK;split
 ·exact h
 exact Ud h
theorem HQ:∀(l m:List ByteArray),m.Pairwise ql->(l.foldl qK m).Pairwise ql/\∀x,x∈l.foldl qK m↔(x∈l/\x≠a8)\/x∈m
 | [],m,h=>⟨h,λx=>by simp⟩
 | s::l,m,h=>by
  obtain⟨h1,h2⟩:=HQ l (qK m s) (Uc h);refine⟨h1,λx=>?_⟩;rw[anJ,h2,aca,amG];constructor
  ·rintro(⟨q,bn⟩ | ⟨rfl,q⟩ | q)
   ·exact .inl ⟨.inr q,bn⟩
   ·exact .inl ⟨.inl rfl,q⟩
   exact .inr q
  rintro(⟨rfl | q,bn⟩ | q)
  ·exact .inr (.inl ⟨rfl,bn⟩)
  ·exact .inl ⟨q,bn⟩
  exact .inr (.inr q)
theorem xg(t:aM):(b2 t).Pairwise ql:=(HQ _ [] List.Pairwise.nil).1
theorem uw{t:aM}{x:ByteArray}:x∈b2 t↔x∈mM t/\x≠a8:=by unfold b2;rw[(HQ _ [] List.Pairwise.nil).2];simp
theorem akN(t:aM):(b2 t).Nodup:=anV (λ{a b} h e=>by unfold ql at h;rw[e,vN]at h;cases h) (xg t)
def iu(x:cE):Prop:=k9 2 x=true
theorem wk{x:cE}:iu x↔(x.aI= -1/\x.bq=0/\eC x.loc=true)\/(0<=x.aI/\x.aI<16/\0<=x.bq/\x.bq<32/\x.loc=a8):=by
 unfold iu k9;by_cases h:x.aI= -1
 ·rw[amo h,ami,amj];constructor
  ·rintro⟨h1,h2⟩;exact .inl ⟨h,h1,h2⟩
  rintro(⟨_,h1,h2⟩ | ⟨h1,_⟩)
  ·exact⟨h1,h2⟩
  omega
 rw[amn h];simp only[ami,amj];rw[amn (by decide)];constructor
 ·rintro⟨⟨⟨⟨h1,h2⟩,h3⟩,aC⟩,aW⟩;exact .inr ⟨h1,h2,h3,aC,aW⟩
 rintro(⟨h1,_⟩ | ⟨h1,h2,h3,aC,aW⟩)
 ·exact absurd h1 h
 exact⟨⟨⟨⟨h1,h2⟩,h3⟩,aC⟩,aW⟩
def uU(a b:cE):Prop:=iv a b=true
theorem zb{a b:cE}(au:iu a)(hb:iu b):iv a b=true↔(a.aI≠ -1/\b.aI= -1)\/(a.aI= -1/\b.aI= -1/\gT a.loc b.loc=true)\/ (a.aI≠ -1/\b.aI≠ -1/\(a.aI<b.aI\/(a.aI=b.aI/\a.bq<b.bq))):=by
 unfold iv;by_cases h1:a.aI= -1
 ·rw[amo (.inl h1)];simp only[h1,decide_true,aoT,anU,ami,amj];constructor
  ·rintro⟨cq,bn⟩;exact .inr (.inl ⟨trivial,cq,bn⟩)
  rintro(⟨q,_⟩ | ⟨_,cq,bn⟩ | ⟨q,_⟩)
  ·exact absurd rfl q
  ·exact⟨cq,bn⟩
  exact absurd rfl q
 by_cases h2:b.aI= -1
 ·rw[amo (.inr h2),amy h1];simp[h1,h2]
 rw[amn λq=>q.elim h1 h2];split
 ·rename_i e;rw[amj];constructor
  ·intro q;exact .inr (.inr ⟨h1,h2,.inr ⟨e,q⟩⟩)
  rintro(⟨_,q⟩ | ⟨q,_⟩ | ⟨_,_,q | ⟨_,q⟩⟩)
  ·exact absurd q h2
  ·exact absurd q h1
  ·omega
  exact q
 rename_i e;rw[amj];constructor
 ·intro q;exact .inr (.inr ⟨h1,h2,.inl q⟩)
 rintro(⟨_,q⟩ | ⟨q,_⟩ | ⟨_,_,q | ⟨q,_⟩⟩)
 ·exact absurd q h2
 ·exact absurd q h1
 ·exact q
 exact absurd q e
theorem DF{a:cE}(au:iu a):¬iv a a=true:=by
 rw[zb au au];rintro(⟨h,h2⟩ | ⟨_,_,h⟩ | ⟨_,_,h⟩)
 ·exact h h2
 ·rw[vN]at h;cases h
 omega
theorem Bn{a b c:cE}(au:iu a)(hb:iu b)(ai:iu c)(h1:iv a b=true)(h2:iv b c=true):iv a c=true:=by
 rw[zb au hb]at h1;rw[zb hb ai]at h2;rw[zb au ai];rcases h1 with⟨p,q⟩ | ⟨p,q,r⟩ | ⟨p,q,r⟩<;>rcases h2 with⟨mO,q'⟩ | ⟨mO,q',ij⟩ | ⟨mO,q',ij⟩
 ·exact absurd q mO
 ·exact .inl ⟨p,q'⟩
 ·exact absurd q mO
 ·exact absurd q mO
 ·exact .inr (.inl ⟨p,q',xe r ij⟩)
 ·exact absurd q mO
 ·exact .inl ⟨p,q'⟩
 ·exact absurd mO q
 exact .inr (.inr ⟨p,q',by omega⟩)
theorem G8{a b:cE}(au:iu a)(hb:iu b):iv a b=true\/a=b\/iv b a=true:=by
 rw[zb au hb,zb hb au];obtain⟨at',e5,dQ⟩:=a;obtain⟨aT,aO,cW⟩:=b;rcases wk.1 au with⟨dG,a2,_⟩ | ⟨dG,a2,a3,a4,a5⟩<;>rcases wk.1 hb with⟨hJ,dy,_⟩ | ⟨hJ,dy,dR,cO,ea⟩<;>dsimp only at *
 ·rcases JU dQ cW with q | q | q
  ·exact .inl (.inr (.inl ⟨dG,hJ,q⟩))
  ·exact .inr (.inl (by rw[dG,hJ,a2,dy,q]))
  exact .inr (.inr (.inr (.inl ⟨hJ,dG,q⟩)))
 ·exact .inr (.inr (.inl ⟨by omega,dG⟩))
 ·exact .inl (.inl ⟨by omega,hJ⟩)
 by_cases h1:at'<aT
 ·exact .inl (.inr (.inr ⟨by omega,by omega,.inl h1⟩))
 by_cases h2:aT<at'
 ·exact .inr (.inr (.inr (.inr ⟨by omega,by omega,.inl h2⟩)))
 by_cases h3:e5<aO
 ·exact .inl (.inr (.inr ⟨by omega,by omega,.inr ⟨by omega,h3⟩⟩))
 by_cases aC:aO<e5
 ·exact .inr (.inr (.inr (.inr ⟨by omega,by omega,.inr ⟨by omega,aC⟩⟩)))
 exact .inr (.inl (by rw[show at'=aT by omega,show e5=aO by omega,a5,ea]))
theorem FB{s x:cE}:∀{l:List cE},x∈h5 s l↔x=s\/x∈l
 | []=>by simp[h5]
 | y::r=>by
  unfold h5;split
  ·rename_i e;subst e;simp
  split
  ·simp
  rw[amG,FB,amG];constructor
  ·rintro(h | h | h)
   ·exact .inr (.inl h)
   ·exact .inl h
   exact .inr (.inr h)
  rintro(h | h | h)
  ·exact .inr (.inl h)
  ·exact .inl h
  exact .inr (.inr h)
theorem Ue{s:cE}(ag:iu s):∀{l:List cE},(∀x,x∈l->iu x)->l.Pairwise uU->(h5 s l).Pairwise uU
 | [],_,_=>by simp[h5]
 | y::r,bm,h=>by
  rw[am2]at h;unfold h5;split
  ·exact am2.2 h
  rename_i dC;split
  ·rename_i aB;refine am2.2 ⟨λz aY=>?_,am2.2 h⟩;rcases amG.1 aY with rfl | aY
   ·exact aB
   exact Bn ag (bm _ aL) (bm z (.tail _ aY)) aB (h.1 z aY)
  rename_i aB;refine am2.2 ⟨λz aY=>?_,Ue ag (λx hx=>bm x (.tail _ hx)) h.2⟩;rcases FB.1 aY with rfl | aY
  ·rcases G8 ag (bm _ aL)with q | q | q
   ·exact absurd q aB
   ·exact absurd q dC
   exact q
  exact h.1 z aY
theorem Ed:∀(l m:List cE),(∀x,x∈l->iu x)->(∀x,x∈m->iu x)->m.Pairwise uU->(l.foldl (λl x=>h5 x l) m).Pairwise uU/\∀x,x∈l.foldl (λl x=>h5 x l) m↔x∈l\/x∈m
 | [],m,_,_,h=>⟨h,λx=>by simp⟩
 | s::l,m,aB,hm,h=>by
  have ag:=aB s aL;obtain⟨h1,h2⟩:=Ed l (h5 s m) (λx hx=>aB x (.tail _ hx)) (λx hx=>(FB.1 hx).elim (λe=>e▸ag) (hm x)) (Ue ag hm h);refine⟨h1,λx=>?_⟩;rw[anJ,h2,FB,amG];constructor
  ·rintro(q | q | q)
   ·exact .inl (.inr q)
   ·exact .inl (.inl q)
   exact .inr q
  rintro((q | q) | q)
  ·exact .inr (.inl q)
  ·exact .inl q
  exact .inr (.inr q)
theorem Gz{x:cE}{a:Int}(h:k9 a x=true):iu x/\(a=1->x.aI≠ -1->x.bq<15):=by
 rw[wk];unfold k9 at h;by_cases h1:x.aI= -1
 ·rw[amo h1,ami,amj]at h;exact⟨.inl ⟨h1,h.1,h.2⟩,λ_ q=>absurd h1 q⟩
 rw[amn h1]at h;simp only[ami,amj]at h;obtain⟨⟨⟨⟨h2,h3⟩,aC⟩,aW⟩,cM⟩:=h;split at aW
 ·exact⟨.inr ⟨h2,h3,aC,by omega,cM⟩,λ_ _=>aW⟩
 rename_i bh;exact⟨.inr ⟨h2,h3,aC,aW,cM⟩,λe=>absurd e bh⟩
theorem acL{n:eU}{a:Int}(h:vT a n=true):vT 2 n=true:=by
 unfold vT at h⊢;split at h
 ·rename_i hk;rw[amo hk];simp only[ami]at h⊢;exact⟨⟨h.1.1,(Gz h.1.2).1⟩,h.2⟩
 rename_i hk;rw[amn hk];exact h
mutual
theorem UA{a:Int}:∀(n:eU) (m d:Nat),(il a n m d).2=0->il 2 n m d=il a n m d
 | .mk k x v l,m,d=>by
  intro h;unfold il at h⊢;split at h
  ·cases h
  rename_i h1;rw[amn h1,amn h1];split at h
  ·rename_i h2;rw[amo h2,amo (acL h2)];exact Ux l _ _ h
  cases h
theorem Ux{a:Int}:∀(l:List eU) (m d:Nat),(mV a l m d).2=0->mV 2 l m d=mV a l m d
 | [],m,d=>by intro _;unfold mV;rfl
 | n::r,m,d=>by
  intro h;unfold mV at h⊢;split at h
  ·rename_i h1;rw[UA n m d h1,amo h1,amo h1];exact Ux r _ _ h
  rename_i h1;exact absurd h h1
end
mutual
theorem wq{a:Int}:∀(n:eU) (m d:Nat),(il a n m d).2=0->(∀x,x∈jz n->k9 a x=true)/\(jz n).length+m<=(il a n m d).1/\(il a n m d).1<=max m 1024
 | .mk k x v l,m,d=>by
  intro h;unfold il at h⊢;split at h
  ·cases h
  rename_i h1;split at h
  ·rename_i h2;rw[amn h1,amo h2];obtain⟨g1,g2,g3⟩:=Uv l _ _ h;unfold jz;refine⟨λy aR=>?_,?_,by omega⟩
   ·rcases amA.1 aR with aR | aR
    ·split at aR
     ·rename_i hk;rw[amv]at aR;subst aR;unfold vT at h2;rw[amo (show(eU.mk k y v l).kind=2 from hk)]at h2;simp only[ami]at h2;exact h2.1.2
     cases aR
    exact g1 y aR
   rw[ams];split<;>simp<;>omega
  cases h
theorem Uv{a:Int}:∀(l:List eU) (m d:Nat),(mV a l m d).2=0->(∀x,x∈pn l->k9 a x=true)/\(pn l).length+m<=(mV a l m d).1/\(mV a l m d).1<=max m 1024
 | [],m,d=>by intro _;unfold mV pn;exact⟨λ_ h=>(by cases h),by simp,by simp;omega⟩
 | n::r,m,d=>by
  intro h;unfold mV at h⊢;split at h
  ·rename_i h1;rw[amo h1];obtain⟨g1,g2,g3⟩:=wq n m d h1;obtain⟨mK,mL,Qc⟩:=Uv r _ d h;unfold pn;refine⟨λy aR=>?_,by rw[ams];omega,by omega⟩;rcases amA.1 aR with aR | aR
   ·exact g1 y aR
   exact mK y aR
  rename_i h1;exact absurd h h1
end
structure ir(t:aM):Prop where
 az:t.az=1\/t.az=2
 bx:1<=t.code.length
 n16:t.code.length<=16
 len:∀c,c∈t.code->c.length<=256
 ins:∀c,c∈t.code->∀i,i∈c->mJ t.az i=true
 cN:t.az=2->∀c,c∈t.code->∀k,k<c.length->kH c k=true
 yr:t.init.length<=1024
 aat:∀i,i<t.init.length->tr t i=true
 cond:oL t.az t.dD t.node=0
 Ly:∀x,x∈bk t->x.aI<t.code.length
 vS:(b2 t).length<=64
theorem HL:∀{l:List Int},kS l=0↔∀x,x∈l->x=0
 | []=>by simp[kS]
 | e::r=>by
  unfold kS;split
  ·rename_i h;rw[HL];simp[h]
  rename_i h;simp[h]
theorem BJ{t:aM}(h:pL t=0):ir t:=by
 unfold pL at h;split at h
 ·rename_i au;split at h
  ·rw[HL]at h;have h1:=h (pW t) (by simp);have h2:=h (vH t) (by simp);have h3:=h (sM t) (by simp);have aC:=h (if 64<(b2 t).length then 2 else 0) (by simp);unfold pW at h1;split at h1
   ·cases h1
   rename_i g1;split at h1
   ·cases h1
   rename_i g2;rw[HL]at h1;unfold vH at h2;split at h2
   ·cases h2
   rename_i g3;split at h2
   ·rename_i g4;unfold sM at h3;split at h3
    ·rename_i g5;split at h3
     ·cases h3
     rename_i g6;have mD:∀c,c∈t.code->q3 t.az c=0:=λc ai=>h1 _ (am1.2 ⟨c,ai,rfl⟩);have bS:∀c,c∈t.code->c.all (mJ t.az)=true/\(t.az=2->lp c=0):=λc ai=>by
      have:=mD c ai;unfold q3 at this;split at this
      ·rename_i q;refine⟨q,λe=>?_⟩;rw[amo e]at this;exact this
      cases this
     refine⟨au,by omega,by omega,λc ai=>?_,λc ai i hi=>?_,λe c ai k hk=>?_,by omega,λi hi=>?_,g5,λx hx=>?_,?_⟩
     ·apply amT;intro q;exact g2 (anl.2 ⟨c,ai,amq (by omega)⟩)
     ·exact ank.1 (bS c ai).1 i hi
     ·have:=(bS c ai).2 e;unfold lp at this;split at this
      ·cases this
      split at this
      ·split at this
       ·rename_i q;exact fX.1 q k hk
       cases this
      cases this
     ·exact fX.1 g4 i hi
     ·apply amT;intro q;exact g6 (anl.2 ⟨x,hx,amq (by omega)⟩)
     by_cases q:64<(b2 t).length
     ·rw[amo q]at aC;cases aC
     omega
    rename_i q;exact absurd h3 q
   cases h2
  cases h
 cases h
section
variable {t:aM} (G:ir t)
include G
theorem ir.walk:(il t.az t.node 0 0).2=0:=by
 have h:=G.cond;unfold oL at h;rw[amo G.az]at h;split at h
 ·cases h
 exact h
theorem ir.Nz:oL 2 t.dD t.node=0:=by
 have h:=G.cond;unfold oL at h⊢;rw[amo G.az]at h;rw[amo (.inr rfl)];split at h
 ·cases h
 rename_i q;rw[amn q,UA _ _ _ h];exact h
theorem ir.TX:(bk t).Pairwise uU/\∀x,x∈bk t↔x∈jz t.node:=by unfold bk fK;rw[amo G.Nz];obtain⟨h1,h2⟩:=Ed (jz t.node) [] (λx hx=>(Gz ((wq t.node 0 0 G.walk).1 x hx)).1) (λ_ h=>(by cases h)) List.Pairwise.nil;exact⟨h1,λx=>(h2 x).trans (by simp)⟩
theorem ir.uL{x:cE}(hx:x∈bk t):k9 t.az x=true:=(wq t.node 0 0 G.walk).1 x ((G.TX.2 x).1 hx)
theorem ir.LA:(bk t).length<=1024:=by
 have h1:=wq t.node 0 0 G.walk;have h2:∀l m:List cE,(l.foldl (λl x=>h5 x l) m).length<=l.length+m.length:=by
  have hp:∀(s:cE) (m:List cE),(h5 s m).length<=m.length+1:=by
   intro s m
   induction m with
   | nil=>simp[h5]
   | cons y r bH=>unfold h5;split<;>(try split)<;>simp<;>omega
  intro l
  induction l with
  | nil=>intro m;simp
  | cons s l bH=>intro m;rw[anJ,amI];have:=bH (h5 s m);have:=hp s m;omega
 unfold bk fK;rw[amo G.Nz];have:=h2 (jz t.node) [];simp only[amW]at this;omega
end
theorem qb{l:List ByteArray}{s:ByteArray}(h:s∈l):dp l s<l.length:=List.findIdx_lt_length_of_exists ⟨s,h,amq rfl⟩
structure qU(az:Int)(i:Instr):Prop where
 d:0<=i.d/\i.d<b3 az
 a:0<=i.a/\i.a<b3 az
 b:0<=i.b/\i.b<b3 az
 cY:eJ i.cY=true
 loc:i.op=1\/i.op=2\/i.op=3->eC i.loc=true
 D8:i.op=13->2<=i.dE/\i.dE<=11
 Ap:az=1->1<=i.op/\i.op<=5
 Ki:az=2->6<=i.op/\i.op<=13
theorem JB{i:Instr}(h:j7 i=true):qU 1 i:=by
 unfold j7 at h;rw[ami,amj]at h;obtain⟨h1,h2⟩:=h;obtain⟨op,d,a,b,cY,loc,label,dE⟩:=i;unfold qG mS at h1;unfold rF at h2;dsimp only at h1 h2;have Sq:b3 1=15:=rfl;have lR:eJ 0=true:=by decide
 split at h1
 ·rename_i e;subst e;rw[amo rfl]at h2;simp only[Instr.mk.injEq]at h2;simp only[ami,amj]at h1;obtain⟨-,rfl,rfl,rfl,-,-,-,-⟩:=h2;exact⟨by dsimp only;omega,by dsimp only;omega,by dsimp only;omega,h1.2,λ_=>h1.1,λq=>by simp at q,λ_=>by simp,λq=>by simp at q⟩
 split at h1
 ·rename_i _ e;subst e;rw[amn (by decide),amo rfl]at h2;simp only[Instr.mk.injEq]at h2;simp only[ami,amj]at h1;obtain⟨-,rfl,-,rfl,rfl,-,-,-⟩:=h2;exact⟨by dsimp only;omega,by dsimp only;omega,by dsimp only;omega,lR,λ_=>h1.1,λq=>by simp at q,λ_=>by simp,λq=>by simp at q⟩
 split at h1
 ·rename_i _ _ e;subst e;rw[amn (by decide),amn (by decide),amo rfl]at h2;simp only[Instr.mk.injEq]at h2;simp only[ami,amj]at h1;obtain⟨-,-,rfl,rfl,rfl,-,-,-⟩:=h2;exact⟨by dsimp only;omega,by dsimp only;omega,by dsimp only;omega,lR,λ_=>h1.1,λq=>by simp at q,λ_=>by simp,λq=>by simp at q⟩
 split at h1
 ·rename_i _ _ _ e;subst e;rw[amn (by decide),amn (by decide),amn (by decide),amo rfl]at h2;simp only[Instr.mk.injEq]at h2;simp only[ami,amj]at h1;obtain⟨-,-,rfl,rfl,-,-,-,-⟩:=h2;exact⟨by dsimp only;omega,by dsimp only;omega,by dsimp only;omega,h1.2,λq=>by simp at q,λq=>by simp at q,λ_=>by simp,λq=>by simp at q⟩
 rw[amj]at h1;subst h1;rw[amn (by decide),amn (by decide),amn (by decide),amn (by decide)]at h2;simp only[Instr.mk.injEq]at h2;obtain⟨-,rfl,rfl,rfl,rfl,-,-,-⟩:=h2;exact⟨by dsimp only;omega,by dsimp only;omega,by dsimp only;omega,lR,λq=>by simp at q,λq=>by simp at q,λ_=>by simp,λq=>by simp at q⟩
theorem yu{i:Instr}(h:kG i=true):qU 2 i/\i.loc=a8:=by
 unfold kG nv at h;simp only[ami,amj]at h;obtain⟨⟨⟨⟨h1,h2⟩,hd⟩,au⟩,hb⟩:=h;obtain⟨op,d,a,b,cY,loc,label,dE⟩:=i;unfold aoZ at h1;unfold pP at h2;dsimp only at h1 h2 hd au hb;have AD:b3 2=32:=rfl;have lR:eJ 0=true:=by decide
 have key:eJ cY=true/\loc=a8/\(op=13->2<=dE/\dE<=11)/\6<=op/\op<=13:=by
  split at h1
  ·rename_i q;have mb:6<=op/\op<=13/\op≠8/\op≠13:=by omega
   refine⟨?_,?_,λe=>absurd e mb.2.2.2,mb.1,mb.2.1⟩
   ·rcases q with rfl | rfl | rfl | rfl<;>simp at h2<;>rw[show cY=0 by omega]<;>exact lR
   rcases q with rfl | rfl | rfl | rfl<;>simp at h2<;>simp[h2]
  split at h1
  ·rename_i _ q;subst q;simp only[ami,amj]at h1;simp at h2;refine⟨by unfold eJ;rw[ami,amj,amj];omega,by simp[h2],λe=>by omega,by omega,by omega⟩
  split at h1
  ·rename_i _ _ q;refine⟨?_,?_,λe=>by omega,by omega,by omega⟩
   ·rcases q with rfl | rfl<;>simp at h2<;>rw[show cY=0 by omega]<;>exact lR
   rcases q with rfl | rfl<;>simp at h2<;>simp[h2]
  split at h1
  ·rename_i _ _ _ q;subst q;simp only[ami,amj]at h1;simp at h2;exact⟨by rw[show cY=0 by omega];exact lR,by simp[h2],λ_=>h1,by omega,by omega⟩
  cases h1
 obtain⟨mK,mL,Qc,vJ,aaU⟩:=key;exact⟨⟨by dsimp only;omega,by dsimp only;omega,by dsimp only;omega,mK,λq=>by dsimp only at q;omega,Qc,λq=>by omega,λ_=>⟨vJ,aaU⟩⟩,mL⟩
theorem Fh{az:Int}(au:az=1\/az=2){i:Instr}(h:mJ az i=true):qU az i:=by
 unfold mJ at h;rcases au with rfl | rfl
 ·rw[amo rfl]at h;exact JB h
 rw[amn (by decide)]at h;exact(yu h).1
structure lG(cx:fa):Prop where
 az:cx.az=1\/cx.az=2
 ins:∀i,i∈cx.code->qU cx.az i
 cN:cx.az=2->∀k,k<cx.code.length->kH cx.code k=true
 loc:∀i,i∈cx.code->i.op=1\/i.op=2\/i.op=3->i.loc∈cx.bb
def lH(cx:fa)(J:List eL):jK->Prop
 | .num n=>eJ n=true
 | .kb l=>eC l=true/\l∈cx.bb
 | .told i=>i<J.length/\(J.getD i default).dir=1
 | .hid=>True
def fo(J:List eL)(x:BitVec 64):Prop:=∀i,x.getLsbD i=true->i<J.length/\(J.getD i default).dir=1
structure Dw(cx:fa)(k:Nat)(x:eL):Prop where
 aI:x.aI=cx.aI
 place:0<=x.place/\x.place<k
 loc:0<=x.loc/\x.loc<cx.bb.length
 num:eJ x.value=true
 bq:0<=x.bq/\x.bq<b3 cx.az
 dir:(x.dir=1/\x.value=0)\/(x.dir=2/\x.bq=0)
 mem:let o:=(cx.code.getD x.place.toNat default).op;o=1\/o=2\/o=3\/o=6\/o=7
structure Dv(cx:fa)(k:Nat)(x:ny):Prop where
 aI:x.aI=cx.aI
 place:0<=x.place/\x.place<k
 D8:1<=x.dE/\x.dE<=11
 mem:let o:=(cx.code.getD x.place.toNat default).op;o=5\/o=13
structure pT(J:List eL)(w:Bool)(l:List b5):Prop where
 nodup:l.Nodup
 ok:∀p,p∈l->0<=p.A/\p.A<p.B/\p.B<J.length/\(J.getD p.A.toNat default).dir=1/\(w=true->(J.getD p.B.toNat default).dir=2)
structure gy(cx:fa)(s:b6)(k:Nat):Prop where
 lA:s.ah.length=b3 cx.az
 ah:∀i,i<s.ah.length->lH cx s.J (s.ah.getD i default).has/\fo s.J (s.ah.getD i default).on
 zero:cx.az=2->s.ah.getD 0 default=⟨.num 0,0#64⟩
 ba:fo s.J s.ba
 J:∀x,x∈s.J->Dw cx k x
 rR:s.J.Pairwise λa b=>a.place<b.place
 bars:∀x,x∈s.bars->Dv cx k x
 qZ:s.bars.Pairwise λa b=>a.place<b.place
 addr:pT s.J false s.addr
 data:pT s.J true s.data
 dB:pT s.J false s.dB
 le:k<=cx.code.length
theorem kA{α:Type}[Inhabited α]{l m:List α}{i:Nat}(h:i<l.length):(l++m).getD i default=l.getD i default:=by rw[aml,aml,amM h]
theorem oS{α:Type}[Inhabited α]{l:List α}{x:α}:(l++[x]).getD l.length default=x:=by rw[aml,amL (amK _)];simp
theorem lH.more{cx:fa}{J m:List eL}{h:jK}(hk:lH cx J h):lH cx (J++m) h:=by
 cases h with
 | told i=>exact⟨by rw[ams];have:=hk.1;omega,by rw[kA hk.1];exact hk.2⟩
 | _=>exact hk
theorem fo.more{J m:List eL}{x:BitVec 64}(h:fo J x):fo (J++m) x:=λi hi=>by obtain⟨h1,h2⟩:=h i hi;exact⟨by rw[ams];omega,by rw[kA h1];exact h2⟩
theorem fo.or{J:List eL}{x y:BitVec 64}(hx:fo J x)(aR:fo J y):fo J (x||| y):=λi hi=>by rw[anW,amr]at hi;exact hi.elim (hx i) (aR i)
theorem fo.zero(J:List eL):fo J 0#64:=λi hi=>by simp at hi
theorem Dw.le{cx:fa}{k cF:Nat}{x:eL}(h:Dw cx k x)(hk:k<=cF):Dw cx cF x:=⟨h.aI,⟨h.place.1,by have:=h.place.2;omega⟩,h.loc,h.num,h.bq,h.dir,h.mem⟩
theorem Dv.le{cx:fa}{k cF:Nat}{x:ny}(h:Dv cx k x)(hk:k<=cF):Dv cx cF x:=⟨h.aI,⟨h.place.1,by have:=h.place.2;omega⟩,h.D8,h.mem⟩
theorem ab9{x:BitVec 64}{i:Nat}:i∈l4 x↔x.getLsbD i=true:=by
 unfold l4;rw[am5,amH];constructor
 ·exact λh=>h.2
 exact λh=>⟨BitVec.lt_of_getLsbD h,h⟩
theorem pT.more{J:List eL}{w:Bool}{l:List b5}(h:pT J w l)(x:BitVec 64)(hx:fo J x)(e:eL)(he:w=true->e.dir=2\/x=0#64):pT (J++[e]) w (l++hS x J.length):=by
 have hp:∀p,p∈hS x J.length->p.B=J.length/\∃a:Nat,p.A=a/\x.getLsbD a=true:=λp hp=>by unfold hS at hp;obtain⟨a,au,rfl⟩:=am1.1 hp;exact⟨rfl,a,rfl,ab9.1 au⟩
 refine⟨?_,λp r8=>?_⟩
 ·rw[aoW];refine⟨h.nodup,?_,λa au b hb e=>?_⟩
  ·unfold hS;refine List.Pairwise.map _ (λa b oe q=>?_) (anC _ an7)
   ·injection q with q;omega
  subst e;have:=(hp a hb).1;have:=(h.ok a au).2.2.1;omega
 rw[ams];rcases amA.1 r8 with q | q
 ·obtain⟨h1,h2,h3,aC,aW⟩:=h.ok p q;refine⟨h1,h2,by simp;omega,by rw[kA (by omega)];exact aC,λhw=>by rw[kA (by omega)];exact aW hw⟩
 obtain⟨h1,a,h2,h3⟩:=hp p q;obtain⟨aC,aW⟩:=hx a h3;refine⟨by omega,by omega,by simp;omega,by rw[kA (by omega),h2,amw];exact aW,λhw=>?_⟩;rw[h1,amw,oS];rcases he hw with bn | bn
 ·exact bn
 subst bn;simp at h3
theorem fL{α:Type}[Inhabited α](l:List α)(i j:Nat)(x:α):(l.set i x).getD j default=if i=j/\j<l.length then x else l.getD j default:=by
 rw[aml,aoC,aml];by_cases h:i=j
 ·subst h;by_cases h2:i<l.length
  ·simp[h2]
  simp[h2]
 simp[h]
theorem Ax(az:Int)(r:List eD)(d:Int)(x:eD):(gJ az r d x).length=r.length:=by unfold gJ;split<;>simp
theorem F1(az:Int)(r:List eD)(d:Int)(x:eD)(j:Nat):(gJ az r d x).getD j default=r.getD j default\/(gJ az r d x).getD j default=x/\j=d.toNat:=by
 unfold gJ;split
 ·exact .inl rfl
 rw[fL];split
 ·rename_i h;exact .inr ⟨rfl,h.1.symm⟩
 exact .inl rfl
theorem Rm(op x y:Int):eJ (o7 op x y)=true:=by
 have key:∀b:BitVec 32,eJ b.toInt=true:=λb=>by have h1:=BitVec.le_toInt b;have h2:=BitVec.toInt_lt (x:=b);unfold eJ;rw[ami,amj,amj];simp at h1 h2;omega
 exact key _
theorem acj{cx:fa}{J:List eL}(op:Int){a b:jK}(au:lH cx J a)(hb:lH cx J b):lH cx J (pF op a b):=by
 unfold pF;split
 ·exact Rm _ _ _
 ·split
  ·exact hb
  trivial
 ·split
  ·exact au
  trivial
 trivial
section
variable {cx:fa} {s:b6} {k:Nat} (C:lG cx) (h:gy cx s k) (hk:k<cx.code.length)
include C h hk
theorem xK:qU cx.az (cx.code.getD k default):=C.ins _ (by rw[aml,amp hk];exact anx hk)
theorem gy.bq{n:Int}(h0:0<=n)(h1:n<b3 cx.az):lH cx s.J (bJ s n).has/\fo s.J (bJ s n).on:=h.ah n.toNat (by rw[h.lA];omega)
theorem gy.put{d:Int}{x:eD}(h0:0<=d)(h1:lH cx s.J x.has)(h2:fo s.J x.on):gy cx {s with ah:=gJ cx.az s.ah d x} (k+1) where
 lA:=(Ax _ _ _ _).trans h.lA
 ah i hi:=by
  rcases F1 cx.az s.ah d x i with e | ⟨e,_⟩
  ·rw[show({s with ah:=gJ cx.az s.ah d x}:b6).ah.getD i default=_ from e];exact h.ah i (by simpa[Ax]using hi)
  rw[show({s with ah:=gJ cx.az s.ah d x}:b6).ah.getD i default=_ from e];exact⟨h1,h2⟩
 zero e:=by
  rcases F1 cx.az s.ah d x 0 with q | ⟨q,bn⟩
  ·exact q.trans (h.zero e)
  show(gJ cx.az s.ah d x).getD 0 default=_
  unfold gJ
  rw[amo ⟨e,by omega⟩];exact h.zero e
 ba:=h.ba
 J x hx:=(h.J x hx).le (aoY k)
 rR:=h.rR
 bars x hx:=(h.bars x hx).le (aoY k)
 qZ:=h.qZ
 addr:=h.addr
 data:=h.data
 dB:=h.dB
 le:=hk
theorem gy.Bo{f:Int}(h1:1<=f)(h2:f<=11)(bm:(cx.code.getD k default).op=5\/(cx.code.getD k default).op=13):gy cx {s with bars:=s.bars++[⟨cx.aI,(k:Int),f⟩]} (k+1) where
 lA:=h.lA
 ah:=h.ah
 zero:=h.zero
 ba:=h.ba
 J x hx:=(h.J x hx).le (aoY k)
 rR:=h.rR
 bars x hx:=by
  rcases amA.1 hx with hx | hx
  ·exact(h.bars x hx).le (aoY k)
  rw[amv]at hx;subst hx
  exact⟨rfl,by dsimp only;omega,⟨h1,h2⟩,by dsimp only;rw[amw];exact bm⟩
 qZ:=by
  show(s.bars++_).Pairwise _
  rw[ano]
  refine⟨h.qZ,by simp,λa au b hb=>?_⟩
  rw[amv]at hb;subst hb
  have:=(h.bars a au).place;dsimp only;omega
 addr:=h.addr
 data:=h.data
 dB:=h.dB
 le:=hk
theorem gy.aN{dir val bq:Int}{loc:ByteArray}{on dat:BitVec 64}(aB:loc∈cx.bb)(aw:eJ val=true)(aH:0<=bq/\bq<b3 cx.az)(hd:(dir=1/\val=0)\/(dir=2/\bq=0)) (bm:let o:=(cx.code.getD k default).op;o=1\/o=2\/o=3\/o=6\/o=7) (h1:fo s.J on) (h2:fo s.J dat) (h3:dir=2\/dat=0#64):
 gy cx (rQ cx s k dir loc val bq on dat) (k+1)/\(rQ cx s k dir loc val bq on dat).J.getD s.J.length default=⟨cx.aI,(k:Int),dir,((dp cx.bb loc:Nat):Int),val,bq⟩/\(rQ cx s k dir loc val bq on dat).J.length=s.J.length+1:=by
 refine⟨⟨h.lA,λi hi=>⟨(h.ah i hi).1.more,(h.ah i hi).2.more⟩,h.zero,h.ba.more,λx hx=>?_,?_,λx hx=>(h.bars x hx).le (aoY k),h.qZ,h.addr.more _ h1 _ (λq=>by cases q),h.data.more _ h2 _ λ_=>h3,h.dB.more _ h.ba _ (λq=>by cases q),hk⟩,oS,by simp[rQ]⟩
 ·rcases amA.1 hx with hx | hx
  ·exact(h.J x hx).le (aoY k)
  rw[amv]at hx;subst hx;have:=qb aB;exact⟨rfl,by dsimp only;omega,by dsimp only;omega,aw,aH,hd,by dsimp only;rw[amw];exact bm⟩
 show(s.J++_).Pairwise _;rw[ano];refine⟨h.rR,by simp,λa au b hb=>?_⟩;rw[amv]at hb;subst hb;have:=(h.J a au).place;dsimp only;omega
theorem GN{loc:ByteArray}{on:BitVec 64}{x:eD}{s':b6}{cF:Nat}(ay:kr cx s k loc on x=.go s' cF)(aB:loc∈cx.bb)(bm:let o:=(cx.code.getD k default).op;o=1\/o=2\/o=3\/o=6\/o=7)(h1:fo s.J on)(h2:lH cx s.J x.has)(h3:fo s.J x.on):
 cF=k+1/\gy cx s' cF/\rU cx s=false/\∃n,x.has=.num n/\s'=rQ cx s k 2 loc n 0 on x.on:=by
 unfold kr at ay;split at ay
 ·rename_i n e;split at ay
  ·cases ay
  rename_i hf;injection ay with bC cd;subst bC;subst cd;rw[e]at h2;have aH:(0:Int)<=0/\(0:Int)<b3 cx.az:=by unfold b3;split<;>omega
  exact⟨rfl,(h.aN C hk aB h2 aH (.inr ⟨rfl,rfl⟩) bm h1 h3 (.inl rfl)).1,amP.2 hf,n,e,rfl⟩
 cases ay
theorem SC{loc:ByteArray}{on:BitVec 64}{d:Int}{s':b6}{cF:Nat}(ay:lT cx s k loc on d=.go s' cF)(aB:loc∈cx.bb)(bm:let o:=(cx.code.getD k default).op;o=1\/o=2\/o=3\/o=6\/o=7)(h1:fo s.J on)(hd:0<=d/\d<b3 cx.az):
 cF=k+1/\gy cx s' cF/\rU cx s=false/\s'={rQ cx s k 1 loc 0 d on 0#64 with ah:=gJ cx.az s.ah d ⟨.told s.J.length,1#64<<<s.J.length⟩}:=by
 unfold lT at ay;split at ay
 ·cases ay
 rename_i hf;injection ay with bC cd;subst bC;subst cd;obtain⟨g1,g2,g3⟩:=h.aN C hk (dat:=0#64) aB (by decide) hd (.inl ⟨rfl,rfl⟩) bm h1 (fo.zero _) (.inr rfl);have bh:(rQ cx s k 1 loc 0 d on 0#64).ah=s.ah:=rfl;refine⟨rfl,⟨?_,λi hi=>?_,λe=>?_,g1.ba,g1.J,g1.rR,g1.bars,g1.qZ,g1.addr,g1.data,g1.dB,hk⟩,amP.2 hf,rfl⟩
 ·exact(Ax _ _ _ _).trans h.lA
 ·rcases F1 cx.az s.ah d ⟨.told s.J.length,1#64<<<s.J.length⟩ i with e | ⟨e,_⟩
  ·dsimp only;rw[e];exact g1.ah i (by rw[bh];simpa[Ax]using hi)
  dsimp only;rw[e];refine⟨⟨by rw[g3];omega,by rw[g2]⟩,λj ad=>?_⟩;have:j=s.J.length:=by rw[anQ]at ad;simp only[ami,amj,amk,amu]at ad;have:=ad.2;rw[an4]at this;simp at this;omega
  subst this;exact⟨by rw[g3];omega,by rw[g2]⟩
 rcases F1 cx.az s.ah d ⟨.told s.J.length,1#64<<<s.J.length⟩ 0 with q | ⟨q,bn⟩
 ·exact q.trans (h.zero e)
 show(gJ cx.az s.ah d _).getD 0 default=_;unfold gJ;rw[amo ⟨e,by omega⟩];exact h.zero e
end
end Go.bU
