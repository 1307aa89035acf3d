/- Lemmas for the law WholeComplete. -/
import Derived.Test.YtiknadellddjhaaGreatDoorC03
import Derived.Test.YtiknadellddjhaaGreatDoorC04
set_option linter.all false
open Go Go.b9
namespace Go.bM
def qw(a b:ByteArray):Prop:=fL a b=true
theorem KA(a b:ByteArray):fL a b=true\/a=b\/fL b a=true:=by
 rcases HJ a.toList b.toList with h | h | h
 ·exact .inl h
 ·refine .inr (.inl ?_);have:=Ai a b;rw[h,beq_self_eq_true]at this;have:=this.symm;rw[an]at this;exact this
 exact .inr (.inr h)
theorem KL{s x:ByteArray}:∀{l:List ByteArray},x∈lj s l↔x=s\/x∈l
 | []=>by simp[lj]
 | y::r=>by
  unfold lj;split
  ·rename_i e;subst e;simp
  split
  ·simp
  rw[aoO,KL,aoO];constructor
  ·rintro(h | h | h)
   ·exact .inr (.inl h)
   ·exact .inl h
   exact .inr (.inr h)
  rintro(h | h | h)
  ·exact .inr (.inl h)
  ·exact .inl h
  exact .inr (.inr h)
theorem Vb{s:ByteArray}:∀{l:List ByteArray},l.Pairwise qw->(lj s l).Pairwise qw
 | [],_=>by simp[lj]
 | y::r,h=>by
  rw[apa]at h;unfold lj;split
  ·exact apa.2 h
  rename_i dS;split
  ·rename_i aL;refine apa.2 ⟨λz a1=>?_,apa.2 h⟩;rcases aoO.1 a1 with rfl | a1
   ·exact aL
   exact wA aL (h.1 z a1)
  rename_i aL;refine apa.2 ⟨λz a1=>?_,Vb h.2⟩;rcases KL.1 a1 with rfl | a1
  ·rcases KA z y with q | q | q
   ·exact absurd q aL
   ·exact absurd q dS
   exact q
  exact h.1 z a1
theorem adv{s x:ByteArray}{l:List ByteArray}:x∈q1 l s↔(x=s/\s≠bg)\/x∈l:=by
 unfold q1;split
 ·rename_i e;simp[e]
 rename_i e;rw[KL];simp[e]
theorem Va{s:ByteArray}{l:List ByteArray}(h:l.Pairwise qw):(q1 l s).Pairwise qw:=by
 unfold q1;split
 ·exact h
 exact Vb h
theorem Is:∀(l m:List ByteArray),m.Pairwise qw->(l.foldl q1 m).Pairwise qw/\∀x,x∈l.foldl q1 m↔(x∈l/\x≠bg)\/x∈m
 | [],m,h=>⟨h,λx=>by simp⟩
 | s::l,m,h=>by
  obtain⟨h1,h2⟩:=Is l (q1 m s) (Va h);refine⟨h1,λx=>?_⟩;rw[apR,h2,adv,aoO];constructor
  ·rintro(⟨q,bz⟩ | ⟨rfl,q⟩ | q)
   ·exact .inl ⟨.inr q,bz⟩
   ·exact .inl ⟨.inl rfl,q⟩
   exact .inr q
  rintro(⟨rfl | q,bz⟩ | q)
  ·exact .inr (.inl ⟨rfl,bz⟩)
  ·exact .inl ⟨q,bz⟩
  exact .inr (.inr q)
theorem xS(t:aV):(cc t).Pairwise qw:=(Is _ [] List.Pairwise.nil).1
theorem uY{t:aV}{x:ByteArray}:x∈cc t↔x∈ni t/\x≠bg:=by unfold cc;rw[(Is _ [] List.Pairwise.nil).2];simp
theorem amO(t:aV):(cc t).Nodup:=ap1 (λ{a b} h e=>by unfold qw at h;rw[e,tP]at h;cases h) (xS t)
def iH(x:cK):Prop:=lG 2 x=true
theorem wV{x:cK}:iH x↔(x.aH= -1/\x.bo=0/\eE x.loc=true)\/(0<=x.aH/\x.aH<16/\0<=x.bo/\x.bo<32/\x.loc=bg):=by
 unfold iH lG;by_cases h:x.aH= -1
 ·rw[aou h,aoo,aop];constructor
  ·rintro⟨h1,h2⟩;exact .inl ⟨h,h1,h2⟩
  rintro(⟨_,h1,h2⟩ | ⟨h1,_⟩)
  ·exact⟨h1,h2⟩
  omega
 rw[aot h];simp only[aoo,aop];rw[aot (by decide)];constructor
 ·rintro⟨⟨⟨⟨h1,h2⟩,h3⟩,aA⟩,a6⟩;exact .inr ⟨h1,h2,h3,aA,a6⟩
 rintro(⟨h1,_⟩ | ⟨h1,h2,h3,aA,a6⟩)
 ·exact absurd h1 h
 exact⟨⟨⟨⟨h1,h2⟩,h3⟩,aA⟩,a6⟩
def vn(a b:cK):Prop:=h6 a b=true
theorem zU{a b:cK}(ay:iH a)(hb:iH b):h6 a b=true↔(a.aH≠ -1/\b.aH= -1)\/(a.aH= -1/\b.aH= -1/\fL a.loc b.loc=true)\/ (a.aH≠ -1/\b.aH≠ -1/\(a.aH<b.aH\/(a.aH=b.aH/\a.bo<b.bo))):=by
 unfold h6;by_cases h1:a.aH= -1
 ·rw[aou (.inl h1)];simp only[h1,decide_true,Bool.not_true,ap6,aoo,aop];constructor
  ·rintro⟨cB,bz⟩;exact .inr (.inl ⟨trivial,cB,bz⟩)
  rintro(⟨q,_⟩ | ⟨_,cB,bz⟩ | ⟨q,_⟩)
  ·exact absurd rfl q
  ·exact⟨cB,bz⟩
  exact absurd rfl q
 by_cases h2:b.aH= -1
 ·rw[aou (.inr h2),aoE h1];simp[h1,h2]
 rw[aot λq=>q.elim h1 h2];split
 ·rename_i e;rw[aop];constructor
  ·intro q;exact .inr (.inr ⟨h1,h2,.inr ⟨e,q⟩⟩)
  rintro(⟨_,q⟩ | ⟨q,_⟩ | ⟨_,_,q | ⟨_,q⟩⟩)
  ·exact absurd q h2
  ·exact absurd q h1
  ·omega
  exact q
 rename_i e;rw[aop];constructor
 ·intro q;exact .inr (.inr ⟨h1,h2,.inl q⟩)
 rintro(⟨_,q⟩ | ⟨q,_⟩ | ⟨_,_,q | ⟨q,_⟩⟩)
 ·exact absurd q h2
 ·exact absurd q h1
 ·exact q
 exact absurd q e
theorem Ei{a:cK}(ay:iH a):¬h6 a a=true:=by
 rw[zU ay ay];rintro(⟨h,h2⟩ | ⟨_,_,h⟩ | ⟨_,_,h⟩)
 ·exact h h2
 ·rw[tP]at h;cases h
 omega
theorem B2{a b c:cK}(ay:iH a)(hb:iH b)(ai:iH c)(h1:h6 a b=true)(h2:h6 b c=true):h6 a c=true:=by
 rw[zU ay hb]at h1;rw[zU hb ai]at h2;rw[zU ay ai];rcases h1 with⟨p,q⟩ | ⟨p,q,r⟩ | ⟨p,q,r⟩<;>rcases h2 with⟨nk,q'⟩ | ⟨nk,q',iC⟩ | ⟨nk,q',iC⟩
 ·exact absurd q nk
 ·exact .inl ⟨p,q'⟩
 ·exact absurd q nk
 ·exact absurd q nk
 ·exact .inr (.inl ⟨p,q',wA r iC⟩)
 ·exact absurd q nk
 ·exact .inl ⟨p,q'⟩
 ·exact absurd nk q
 exact .inr (.inr ⟨p,q',by omega⟩)
theorem HC{a b:cK}(ay:iH a)(hb:iH b):h6 a b=true\/a=b\/h6 b a=true:=by
 rw[zU ay hb,zU hb ay];obtain⟨at',fa,dV⟩:=a;obtain⟨aQ,aU,cZ⟩:=b;rcases wV.1 ay with⟨ds,a2,_⟩ | ⟨ds,a2,a3,a4,a5⟩<;>rcases wV.1 hb with⟨gn,dC,_⟩ | ⟨gn,dC,dK,cO,ec⟩<;>dsimp only at *
 ·rcases KA dV cZ with q | q | q
  ·exact .inl (.inr (.inl ⟨ds,gn,q⟩))
  ·exact .inr (.inl (by rw[ds,gn,a2,dC,q]))
  exact .inr (.inr (.inr (.inl ⟨gn,ds,q⟩)))
 ·exact .inr (.inr (.inl ⟨by omega,ds⟩))
 ·exact .inl (.inl ⟨by omega,gn⟩)
 by_cases h1:at'<aQ
 ·exact .inl (.inr (.inr ⟨by omega,by omega,.inl h1⟩))
 by_cases h2:aQ<at'
 ·exact .inr (.inr (.inr (.inr ⟨by omega,by omega,.inl h2⟩)))
 by_cases h3:fa<aU
 ·exact .inl (.inr (.inr ⟨by omega,by omega,.inr ⟨by omega,h3⟩⟩))
 by_cases aA:aU<fa
 ·exact .inr (.inr (.inr (.inr ⟨by omega,by omega,.inr ⟨by omega,aA⟩⟩)))
 exact .inr (.inl (by rw[show at'=aQ by omega,show fa=aU by omega,a5,ec]))
theorem Ga{s x:cK}:∀{l:List cK},x∈ic s l↔x=s\/x∈l
 | []=>by simp[ic]
 | y::r=>by
  unfold ic;split
  ·rename_i e;subst e;simp
  split
  ·simp
  rw[aoO,Ga,aoO];constructor
  ·rintro(h | h | h)
   ·exact .inr (.inl h)
   ·exact .inl h
   exact .inr (.inr h)
  rintro(h | h | h)
  ·exact .inr (.inl h)
  ·exact .inl h
  exact .inr (.inr h)
theorem Vc{s:cK}(aj:iH s):∀{l:List cK},(∀x,x∈l->iH x)->l.Pairwise vn->(ic s l).Pairwise vn
 | [],_,_=>by simp[ic]
 | y::r,bn,h=>by
  rw[apa]at h;unfold ic;split
  ·exact apa.2 h
  rename_i dS;split
  ·rename_i aL;refine apa.2 ⟨λz a1=>?_,apa.2 h⟩;rcases aoO.1 a1 with rfl | a1
   ·exact aL
   exact B2 aj (bn _ aP) (bn z (.tail _ a1)) aL (h.1 z a1)
  rename_i aL;refine apa.2 ⟨λz a1=>?_,Vc aj (λx hx=>bn x (.tail _ hx)) h.2⟩;rcases Ga.1 a1 with rfl | a1
  ·rcases HC aj (bn _ aP)with q | q | q
   ·exact absurd q aL
   ·exact absurd q dS
   exact q
  exact h.1 z a1
theorem ES:∀(l m:List cK),(∀x,x∈l->iH x)->(∀x,x∈m->iH x)->m.Pairwise vn->(l.foldl (λl x=>ic x l) m).Pairwise vn/\∀x,x∈l.foldl (λl x=>ic x l) m↔x∈l\/x∈m
 | [],m,_,_,h=>⟨h,λx=>by simp⟩
 | s::l,m,aL,hm,h=>by
  have aj:=aL s aP;obtain⟨h1,h2⟩:=ES l (ic s m) (λx hx=>aL x (.tail _ hx)) (λx hx=>(Ga.1 hx).elim (λe=>e▸aj) (hm x)) (Vc aj hm h);refine⟨h1,λx=>?_⟩;rw[apR,h2,Ga,aoO];constructor
  ·rintro(q | q | q)
   ·exact .inl (.inr q)
   ·exact .inl (.inl q)
   exact .inr q
  rintro((q | q) | q)
  ·exact .inr (.inl q)
  ·exact .inl q
  exact .inr (.inr q)
theorem G7{x:cK}{a:Int}(h:lG a x=true):iH x/\(a=1->x.aH≠ -1->x.bo<15):=by
 rw[wV];unfold lG at h;by_cases h1:x.aH= -1
 ·rw[aou h1,aoo,aop]at h;exact⟨.inl ⟨h1,h.1,h.2⟩,λ_ q=>absurd h1 q⟩
 rw[aot h1]at h;simp only[aoo,aop]at h;obtain⟨⟨⟨⟨h2,h3⟩,aA⟩,a6⟩,cE⟩:=h;split at a6
 ·exact⟨.inr ⟨h2,h3,aA,by omega,cE⟩,λ_ _=>a6⟩
 rename_i bd;exact⟨.inr ⟨h2,h3,aA,a6,cE⟩,λe=>absurd e bd⟩
theorem ad3{n:e3}{a:Int}(h:wF a n=true):wF 2 n=true:=by
 unfold wF at h⊢;split at h
 ·rename_i hk;rw[aou hk];simp only[aoo]at h⊢;exact⟨⟨h.1.1,(G7 h.1.2).1⟩,h.2⟩
 rename_i hk;rw[aot hk];exact h
mutual
theorem VA{a:Int}:∀(n:e3) (m d:Nat),(iE a n m d).2=0->iE 2 n m d=iE a n m d
 | .mk k x v l,m,d=>by
  intro h;unfold iE at h⊢;split at h
  ·cases h
  rename_i h1;rw[aot h1,aot h1];split at h
  ·rename_i h2;rw[aou h2,aou (ad3 h2)];exact Vx l _ _ h
  cases h
theorem Vx{a:Int}:∀(l:List e3) (m d:Nat),(nv a l m d).2=0->nv 2 l m d=nv a l m d
 | [],m,d=>by intro _;unfold nv;rfl
 | n::r,m,d=>by
  intro h;unfold nv at h⊢;split at h
  ·rename_i h1;rw[VA n m d h1,aou h1,aou h1];exact Vx r _ _ h
  rename_i h1;exact absurd h h1
end
mutual
theorem wZ{a:Int}:∀(n:e3) (m d:Nat),(iE a n m d).2=0->(∀x,x∈jM n->lG a x=true)/\(jM n).length+m<=(iE a n m d).1/\(iE a n m d).1<=max m 1024
 | .mk k x v l,m,d=>by
  intro h;unfold iE at h⊢;split at h
  ·cases h
  rename_i h1;split at h
  ·rename_i h2;rw[aot h1,aou h2];obtain⟨g1,g2,g3⟩:=Vv l _ _ h;unfold jM;refine⟨λy aY=>?_,?_,by omega⟩
   ·rcases aoG.1 aY with aY | aY
    ·split at aY
     ·rename_i hk;rw[aoB]at aY;subst aY;unfold wF at h2;rw[aou (show(e3.mk k y v l).kind=2 from hk)]at h2;simp only[aoo]at h2;exact h2.1.2
     cases aY
    exact g1 y aY
   rw[aoy];split<;>simp<;>omega
  cases h
theorem Vv{a:Int}:∀(l:List e3) (m d:Nat),(nv a l m d).2=0->(∀x,x∈pB l->lG a x=true)/\(pB l).length+m<=(nv a l m d).1/\(nv a l m d).1<=max m 1024
 | [],m,d=>by intro _;unfold nv pB;exact⟨λ_ h=>(by cases h),by simp,by simp;omega⟩
 | n::r,m,d=>by
  intro h;unfold nv at h⊢;split at h
  ·rename_i h1;rw[aou h1];obtain⟨g1,g2,g3⟩:=wZ n m d h1;obtain⟨mK,nh,Ra⟩:=Vv r _ d h;unfold pB;refine⟨λy aY=>?_,by rw[aoy];omega,by omega⟩;rcases aoG.1 aY with aY | aY
   ·exact g1 y aY
   exact mK y aY
  rename_i h1;exact absurd h h1
end
structure iS(t:aV):Prop where
 aC:t.aC=1\/t.aC=2
 bx:1<=t.code.length
 n16:t.code.length<=16
 len:∀c,c∈t.code->c.length<=256
 ins:∀c,c∈t.code->∀i,i∈c->ng t.aC i=true
 cT:t.aC=2->∀c,c∈t.code->∀k,k<c.length->kX c k=true
 AO:t.init.length<=1024
 abH:∀i,i<t.init.length->tM t i=true
 cond:o4 t.aC t.dH t.node=0
 Mq:∀x,x∈br t->x.aH<t.code.length
 wE:(cc t).length<=64
theorem Ip:∀{l:List Int},lf l=0↔∀x,x∈l->x=0
 | []=>by simp[lf]
 | e::r=>by
  unfold lf;split
  ·rename_i h;rw[Ip];simp[h]
  rename_i h;simp[h]
theorem E1{t:aV}(h:pT t=0):iS t:=by
 unfold pT at h;split at h
 ·rename_i ay;split at h
  ·rw[Ip]at h;have h1:=h (p2 t) (by simp);have h2:=h (wu t) (by simp);have h3:=h (s6 t) (by simp);have aA:=h (if 64<(cc t).length then 2 else 0) (by simp);unfold p2 at h1;split at h1
   ·cases h1
   rename_i g1;split at h1
   ·cases h1
   rename_i g2;rw[Ip]at h1;unfold wu at h2;split at h2
   ·cases h2
   rename_i g3;split at h2
   ·rename_i g4;unfold s6 at h3;split at h3
    ·rename_i g5;split at h3
     ·cases h3
     rename_i g6;have na:∀c,c∈t.code->rq t.aC c=0:=λc ai=>h1 _ (ao9.2 ⟨c,ai,rfl⟩);have bG:∀c,c∈t.code->c.all (ng t.aC)=true/\(t.aC=2->lQ c=0):=λc ai=>by
      have:=na c ai;unfold rq at this;split at this
      ·rename_i q;refine⟨q,λe=>?_⟩;rw[aou e]at this;exact this
      cases this
     refine⟨ay,by omega,by omega,λc ai=>?_,λc ai i hi=>?_,λe c ai k hk=>?_,by omega,λi hi=>?_,g5,λx hx=>?_,?_⟩
     ·apply ao0;intro q;exact g2 (apH.2 ⟨c,ai,aow (by omega)⟩)
     ·exact apt.1 (bG c ai).1 i hi
     ·have:=(bG c ai).2 e;unfold lQ at this;split at this
      ·cases this
      split at this
      ·split at this
       ·rename_i q;exact fT.1 q k hk
       cases this
      cases this
     ·exact fT.1 g4 i hi
     ·apply ao0;intro q;exact g6 (apH.2 ⟨x,hx,aow (by omega)⟩)
     by_cases q:64<(cc t).length
     ·rw[aou q]at aA;cases aA
     omega
    rename_i q;exact absurd h3 q
   cases h2
  cases h
 cases h
section
variable {t:aV} (G:iS t)
include G
theorem iS.walk:(iE t.aC t.node 0 0).2=0:=by
 have h:=G.cond;unfold o4 at h;rw[aou G.aC]at h;split at h
 ·cases h
 exact h
theorem iS.Oy:o4 2 t.dH t.node=0:=by
 have h:=G.cond;unfold o4 at h⊢;rw[aou G.aC]at h;rw[aou (.inr rfl)];split at h
 ·cases h
 rename_i q;rw[aot q,VA _ _ _ h];exact h
theorem iS.UU:(br t).Pairwise vn/\∀x,x∈br t↔x∈jM t.node:=by unfold br fS;rw[aou G.Oy];obtain⟨h1,h2⟩:=ES (jM t.node) [] (λx hx=>(G7 ((wZ t.node 0 0 G.walk).1 x hx)).1) (λ_ h=>(by cases h)) List.Pairwise.nil;exact⟨h1,λx=>(h2 x).trans (by simp)⟩
theorem iS.vc{x:cK}(hx:x∈br t):lG t.aC x=true:=(wZ t.node 0 0 G.walk).1 x ((G.UU.2 x).1 hx)
theorem iS.Ms:(br t).length<=1024:=by
 have h1:=wZ t.node 0 0 G.walk;have h2:∀l m:List cK,(l.foldl (λl x=>ic x l) m).length<=l.length+m.length:=by
  have hp:∀(s:cK) (m:List cK),(ic s m).length<=m.length+1:=by
   intro s m
   induction m with
   | nil=>simp[ic]
   | cons y r bP=>unfold ic;split<;>(try split)<;>simp<;>omega
  intro l
  induction l with
  | nil=>intro m;simp
  | cons s l bP=>intro m;rw[apR,aoN];have:=bP (ic s m);have:=hp s m;omega
 unfold br fS;rw[aou G.Oy];have:=h2 (jM t.node) [];simp only[ao1]at this;omega
end
theorem qi{l:List ByteArray}{s:ByteArray}(h:s∈l):dr l s<l.length:=List.findIdx_lt_length_of_exists ⟨s,h,aow rfl⟩
structure ri(aC:Int)(i:Instr):Prop where
 d:0<=i.d/\i.d<cn aC
 a:0<=i.a/\i.a<cn aC
 b:0<=i.b/\i.b<cn aC
 c3:eF i.c3=true
 loc:i.op=1\/i.op=2\/i.op=3->eE i.loc=true
 EM:i.op=13->2<=i.dA/\i.dA<=11
 A8:aC=1->1<=i.op/\i.op<=5
 K1:aC=2->6<=i.op/\i.op<=13
theorem Ke{i:Instr}(h:kn i=true):ri 1 i:=by
 unfold kn at h;rw[aoo,aop]at h;obtain⟨h1,h2⟩:=h;obtain⟨op,d,a,b,c3,loc,label,dA⟩:=i;unfold qW nr at h1;unfold rX at h2;dsimp only at h1 h2;have aga:cn 1=15:=rfl;have mj:eF 0=true:=by decide
 split at h1
 ·rename_i e;subst e;rw[aou rfl]at h2;simp only[Instr.mk.injEq]at h2;simp only[aoo,aop]at h1;obtain⟨-,rfl,rfl,rfl,-,-,-,-⟩:=h2;exact⟨by dsimp only;omega,by dsimp only;omega,by dsimp only;omega,h1.2,λ_=>h1.1,λq=>by simp at q,λ_=>by simp,λq=>by simp at q⟩
 split at h1
 ·rename_i _ e;subst e;rw[aot (by decide),aou rfl]at h2;simp only[Instr.mk.injEq]at h2;simp only[aoo,aop]at h1;obtain⟨-,rfl,-,rfl,rfl,-,-,-⟩:=h2;exact⟨by dsimp only;omega,by dsimp only;omega,by dsimp only;omega,mj,λ_=>h1.1,λq=>by simp at q,λ_=>by simp,λq=>by simp at q⟩
 split at h1
 ·rename_i _ _ e;subst e;rw[aot (by decide),aot (by decide),aou rfl]at h2;simp only[Instr.mk.injEq]at h2;simp only[aoo,aop]at h1;obtain⟨-,-,rfl,rfl,rfl,-,-,-⟩:=h2;exact⟨by dsimp only;omega,by dsimp only;omega,by dsimp only;omega,mj,λ_=>h1.1,λq=>by simp at q,λ_=>by simp,λq=>by simp at q⟩
 split at h1
 ·rename_i _ _ _ e;subst e;rw[aot (by decide),aot (by decide),aot (by decide),aou rfl]at h2;simp only[Instr.mk.injEq]at h2;simp only[aoo,aop]at h1;obtain⟨-,-,rfl,rfl,-,-,-,-⟩:=h2;exact⟨by dsimp only;omega,by dsimp only;omega,by dsimp only;omega,h1.2,λq=>by simp at q,λq=>by simp at q,λ_=>by simp,λq=>by simp at q⟩
 rw[aop]at h1;subst h1;rw[aot (by decide),aot (by decide),aot (by decide),aot (by decide)]at h2;simp only[Instr.mk.injEq]at h2;obtain⟨-,rfl,rfl,rfl,rfl,-,-,-⟩:=h2;exact⟨by dsimp only;omega,by dsimp only;omega,by dsimp only;omega,mj,λq=>by simp at q,λq=>by simp at q,λ_=>by simp,λq=>by simp at q⟩
theorem y6{i:Instr}(h:kW i=true):ri 2 i/\i.loc=bg:=by
 unfold kW nO at h;simp only[aoo,aop]at h;obtain⟨⟨⟨⟨h1,h2⟩,hd⟩,ay⟩,hb⟩:=h;obtain⟨op,d,a,b,c3,loc,label,dA⟩:=i;unfold arh at h1;unfold pV at h2;dsimp only at h1 h2 hd ay hb;have DD:cn 2=32:=rfl;have mj:eF 0=true:=by decide
 have key:eF c3=true/\loc=bg/\(op=13->2<=dA/\dA<=11)/\6<=op/\op<=13:=by
  split at h1
  ·rename_i q;have mG:6<=op/\op<=13/\op≠8/\op≠13:=by omega
   refine⟨?_,?_,λe=>absurd e mG.2.2.2,mG.1,mG.2.1⟩
   ·rcases q with rfl | rfl | rfl | rfl<;>simp at h2<;>rw[show c3=0 by omega]<;>exact mj
   rcases q with rfl | rfl | rfl | rfl<;>simp at h2<;>simp[h2]
  split at h1
  ·rename_i _ q;subst q;simp only[aoo,aop]at h1;simp at h2;refine⟨by unfold eF;rw[aoo,aop,aop];omega,by simp[h2],λe=>by omega,by omega,by omega⟩
  split at h1
  ·rename_i _ _ q;refine⟨?_,?_,λe=>by omega,by omega,by omega⟩
   ·rcases q with rfl | rfl<;>simp at h2<;>rw[show c3=0 by omega]<;>exact mj
   rcases q with rfl | rfl<;>simp at h2<;>simp[h2]
  split at h1
  ·rename_i _ _ _ q;subst q;simp only[aoo,aop]at h1;simp at h2;exact⟨by rw[show c3=0 by omega];exact mj,by simp[h2],λ_=>h1,by omega,by omega⟩
  cases h1
 obtain⟨mK,nh,Ra,wx,ab7⟩:=key;exact⟨⟨by dsimp only;omega,by dsimp only;omega,by dsimp only;omega,mK,λq=>by dsimp only at q;omega,Ra,λq=>by omega,λ_=>⟨wx,ab7⟩⟩,nh⟩
theorem FR{aC:Int}(ay:aC=1\/aC=2){i:Instr}(h:ng aC i=true):ri aC i:=by
 unfold ng at h;rcases ay with rfl | rfl
 ·rw[aou rfl]at h;exact Ke h
 rw[aot (by decide)]at h;exact(y6 h).1
structure l1(cx:fg):Prop where
 aC:cx.aC=1\/cx.aC=2
 ins:∀i,i∈cx.code->ri cx.aC i
 cT:cx.aC=2->∀k,k<cx.code.length->kX cx.code k=true
 loc:∀i,i∈cx.code->i.op=1\/i.op=2\/i.op=3->i.loc∈cx.aO
def l2(cx:fg)(J:List eV):jZ->Prop
 | .num n=>eF n=true
 | .ks l=>eE l=true/\l∈cx.aO
 | .told i=>i<J.length/\(J.getD i default).dir=1
 | .hid=>True
def fx(J:List eV)(x:BitVec 64):Prop:=∀i,x.getLsbD i=true->i<J.length/\(J.getD i default).dir=1
structure Ea(cx:fg)(k:Nat)(x:eV):Prop where
 aH:x.aH=cx.aH
 place:0<=x.place/\x.place<k
 loc:0<=x.loc/\x.loc<cx.aO.length
 num:eF x.value=true
 bo:0<=x.bo/\x.bo<cn cx.aC
 dir:(x.dir=1/\x.value=0)\/(x.dir=2/\x.bo=0)
 mem:let o:=(cx.code.getD x.place.toNat default).op;o=1\/o=2\/o=3\/o=6\/o=7
structure D8(cx:fg)(k:Nat)(x:nx):Prop where
 aH:x.aH=cx.aH
 place:0<=x.place/\x.place<k
 EM:1<=x.dA/\x.dA<=11
 mem:let o:=(cx.code.getD x.place.toNat default).op;o=5\/o=13
structure pY(J:List eV)(w:Bool)(l:List ca):Prop where
 nodup:l.Nodup
 ok:∀p,p∈l->0<=p.A/\p.A<p.B/\p.B<J.length/\(J.getD p.A.toNat default).dir=1/\(w=true->(J.getD p.B.toNat default).dir=2)
structure gH(cx:fg)(s:cg)(k:Nat):Prop where
 lW:s.ag.length=cn cx.aC
 ag:∀i,i<s.ag.length->l2 cx s.J (s.ag.getD i default).has/\fx s.J (s.ag.getD i default).on
 zero:cx.aC=2->s.ag.getD 0 default=⟨.num 0,0#64⟩
 bh:fx s.J s.bh
 J:∀x,x∈s.J->Ea cx k x
 sc:s.J.Pairwise λa b=>a.place<b.place
 bars:∀x,x∈s.bars->D8 cx k x
 rn:s.bars.Pairwise λa b=>a.place<b.place
 addr:pY s.J false s.addr
 data:pY s.J true s.data
 dF:pY s.J false s.dF
 le:k<=cx.code.length
theorem kR{α:Type}[Inhabited α]{l m:List α}{i:Nat}(h:i<l.length):(l++m).getD i default=l.getD i default:=by rw[aor,aor,aoT h]
theorem o9{α:Type}[Inhabited α]{l:List α}{x:α}:(l++[x]).getD l.length default=x:=by rw[aor,aoS (aoL _)];simp
theorem l2.more{cx:fg}{J m:List eV}{h:jZ}(hk:l2 cx J h):l2 cx (J++m) h:=by
 cases h with
 | told i=>exact⟨by rw[aoy];have:=hk.1;omega,by rw[kR hk.1];exact hk.2⟩
 | _=>exact hk
theorem fx.more{J m:List eV}{x:BitVec 64}(h:fx J x):fx (J++m) x:=λi hi=>by obtain⟨h1,h2⟩:=h i hi;exact⟨by rw[aoy];omega,by rw[kR h1];exact h2⟩
theorem fx.or{J:List eV}{x y:BitVec 64}(hx:fx J x)(aY:fx J y):fx J (x||| y):=λi hi=>by rw[ap2,aox]at hi;exact hi.elim (hx i) (aY i)
theorem fx.zero(J:List eV):fx J 0#64:=λi hi=>by simp at hi
theorem Ea.le{cx:fg}{k c4:Nat}{x:eV}(h:Ea cx k x)(hk:k<=c4):Ea cx c4 x:=⟨h.aH,⟨h.place.1,by have:=h.place.2;omega⟩,h.loc,h.num,h.bo,h.dir,h.mem⟩
theorem D8.le{cx:fg}{k c4:Nat}{x:nx}(h:D8 cx k x)(hk:k<=c4):D8 cx c4 x:=⟨h.aH,⟨h.place.1,by have:=h.place.2;omega⟩,h.EM,h.mem⟩
theorem adu{x:BitVec 64}{i:Nat}:i∈my x↔x.getLsbD i=true:=by
 unfold my;rw[apd,aoQ];constructor
 ·exact λh=>h.2
 exact λh=>⟨BitVec.lt_of_getLsbD h,h⟩
theorem pY.more{J:List eV}{w:Bool}{l:List ca}(h:pY J w l)(x:BitVec 64)(hx:fx J x)(e:eV)(he:w=true->e.dir=2\/x=0#64):pY (J++[e]) w (l++hV x J.length):=by
 have hp:∀p,p∈hV x J.length->p.B=J.length/\∃a:Nat,p.A=a/\x.getLsbD a=true:=λp hp=>by unfold hV at hp;obtain⟨a,ay,rfl⟩:=ao9.1 hp;exact⟨rfl,a,rfl,adu.1 ay⟩
 refine⟨?_,λp sr=>?_⟩
 ·rw[ard];refine⟨h.nodup,?_,λa ay b hb e=>?_⟩
  ·unfold hV;refine List.Pairwise.map _ (λa b l8 q=>?_) (apL _ aqd)
   ·injection q with q;omega
  subst e;have:=(hp a hb).1;have:=(h.ok a ay).2.2.1;omega
 rw[aoy];rcases aoG.1 sr with q | q
 ·obtain⟨h1,h2,h3,aA,a6⟩:=h.ok p q;refine⟨h1,h2,by simp;omega,by rw[kR (by omega)];exact aA,λhw=>by rw[kR (by omega)];exact a6 hw⟩
 obtain⟨h1,a,h2,h3⟩:=hp p q;obtain⟨aA,a6⟩:=hx a h3;refine⟨by omega,by omega,by simp;omega,by rw[kR (by omega),h2,aoF];exact a6,λhw=>?_⟩;rw[h1,aoF,o9];rcases he hw with bz | bz
 ·exact bz
 subst bz;simp at h3
theorem fU{α:Type}[Inhabited α](l:List α)(i j:Nat)(x:α):(l.set i x).getD j default=if i=j/\j<l.length then x else l.getD j default:=by
 rw[aor,aqV,aor];by_cases h:i=j
 ·subst h;by_cases h2:i<l.length
  ·simp[h2]
  simp[h2]
 simp[h]
theorem Bf(aC:Int)(r:List eO)(d:Int)(x:eO):(gP aC r d x).length=r.length:=by unfold gP;split<;>simp
theorem Gv(aC:Int)(r:List eO)(d:Int)(x:eO)(j:Nat):(gP aC r d x).getD j default=r.getD j default\/(gP aC r d x).getD j default=x/\j=d.toNat:=by
 unfold gP;split
 ·exact .inl rfl
 rw[fU];split
 ·rename_i h;exact .inr ⟨rfl,h.1.symm⟩
 exact .inl rfl
theorem Sj(op x y:Int):eF (pk op x y)=true:=by
 have key:∀b:BitVec 32,eF b.toInt=true:=λb=>by have h1:=BitVec.le_toInt b;have h2:=BitVec.toInt_lt (x:=b);unfold eF;rw[aoo,aop,aop];simp at h1 h2;omega
 exact key _
theorem adD{cx:fg}{J:List eV}(op:Int){a b:jZ}(ay:l2 cx J a)(hb:l2 cx J b):l2 cx J (pO op a b):=by
 unfold pO;split
 ·exact Sj _ _ _
 ·split
  ·exact hb
  trivial
 ·split
  ·exact ay
  trivial
 trivial
section
variable {cx:fg} {s:cg} {k:Nat} (C:l1 cx) (h:gH cx s k) (hk:k<cx.code.length)
include C h hk
theorem yj:ri cx.aC (cx.code.getD k default):=C.ins _ (by rw[aor,aov hk];exact apC hk)
theorem gH.bo{n:Int}(h0:0<=n)(h1:n<cn cx.aC):l2 cx s.J (bS s n).has/\fx s.J (bS s n).on:=h.ag n.toNat (by rw[h.lW];omega)
theorem gH.put{d:Int}{x:eO}(h0:0<=d)(h1:l2 cx s.J x.has)(h2:fx s.J x.on):gH cx {s with ag:=gP cx.aC s.ag d x} (k+1) where
 lW:=(Bf _ _ _ _).trans h.lW
 ag i hi:=by
  rcases Gv cx.aC s.ag d x i with e | ⟨e,_⟩
  ·rw[show({s with ag:=gP cx.aC s.ag d x}:cg).ag.getD i default=_ from e];exact h.ag i (by simpa[Bf]using hi)
  rw[show({s with ag:=gP cx.aC s.ag d x}:cg).ag.getD i default=_ from e];exact⟨h1,h2⟩
 zero e:=by
  rcases Gv cx.aC s.ag d x 0 with q | ⟨q,bz⟩
  ·exact q.trans (h.zero e)
  show(gP cx.aC s.ag d x).getD 0 default=_
  unfold gP
  rw[aou ⟨e,by omega⟩];exact h.zero e
 bh:=h.bh
 J x hx:=(h.J x hx).le (arf k)
 sc:=h.sc
 bars x hx:=(h.bars x hx).le (arf k)
 rn:=h.rn
 addr:=h.addr
 data:=h.data
 dF:=h.dF
 le:=hk
theorem gH.B3{f:Int}(h1:1<=f)(h2:f<=11)(bn:(cx.code.getD k default).op=5\/(cx.code.getD k default).op=13):gH cx {s with bars:=s.bars++[⟨cx.aH,(k:Int),f⟩]} (k+1) where
 lW:=h.lW
 ag:=h.ag
 zero:=h.zero
 bh:=h.bh
 J x hx:=(h.J x hx).le (arf k)
 sc:=h.sc
 bars x hx:=by
  rcases aoG.1 hx with hx | hx
  ·exact(h.bars x hx).le (arf k)
  rw[aoB]at hx;subst hx
  exact⟨rfl,by dsimp only;omega,⟨h1,h2⟩,by dsimp only;rw[aoF];exact bn⟩
 rn:=by
  show(s.bars++_).Pairwise _
  rw[apz]
  refine⟨h.rn,by simp,λa ay b hb=>?_⟩
  rw[aoB]at hb;subst hb
  have:=(h.bars a ay).place;dsimp only;omega
 addr:=h.addr
 data:=h.data
 dF:=h.dF
 le:=hk
theorem gH.aI{dir val bo:Int}{loc:ByteArray}{on dat:BitVec 64}(aL:loc∈cx.aO)(ax:eF val=true)(aM:0<=bo/\bo<cn cx.aC)(hd:(dir=1/\val=0)\/(dir=2/\bo=0)) (bn:let o:=(cx.code.getD k default).op;o=1\/o=2\/o=3\/o=6\/o=7) (h1:fx s.J on) (h2:fx s.J dat) (h3:dir=2\/dat=0#64):
 gH cx (sb cx s k dir loc val bo on dat) (k+1)/\(sb cx s k dir loc val bo on dat).J.getD s.J.length default=⟨cx.aH,(k:Int),dir,((dr cx.aO loc:Nat):Int),val,bo⟩/\(sb cx s k dir loc val bo on dat).J.length=s.J.length+1:=by
 refine⟨⟨h.lW,λi hi=>⟨(h.ag i hi).1.more,(h.ag i hi).2.more⟩,h.zero,h.bh.more,λx hx=>?_,?_,λx hx=>(h.bars x hx).le (arf k),h.rn,h.addr.more _ h1 _ (λq=>by cases q),h.data.more _ h2 _ λ_=>h3,h.dF.more _ h.bh _ (λq=>by cases q),hk⟩,o9,by simp[sb]⟩
 ·rcases aoG.1 hx with hx | hx
  ·exact(h.J x hx).le (arf k)
  rw[aoB]at hx;subst hx;have:=qi aL;exact⟨rfl,by dsimp only;omega,by dsimp only;omega,ax,aM,hd,by dsimp only;rw[aoF];exact bn⟩
 show(s.J++_).Pairwise _;rw[apz];refine⟨h.sc,by simp,λa ay b hb=>?_⟩;rw[aoB]at hb;subst hb;have:=(h.J a ay).place;dsimp only;omega
theorem Hj{loc:ByteArray}{on:BitVec 64}{x:eO}{s':cg}{c4:Nat}(az:kJ cx s k loc on x=.go s' c4)(aL:loc∈cx.aO)(bn:let o:=(cx.code.getD k default).op;o=1\/o=2\/o=3\/o=6\/o=7)(h1:fx s.J on)(h2:l2 cx s.J x.has)(h3:fx s.J x.on):
 c4=k+1/\gH cx s' c4/\sf cx s=false/\∃n,x.has=.num n/\s'=sb cx s k 2 loc n 0 on x.on:=by
 unfold kJ at az;split at az
 ·rename_i n e;split at az
  ·cases az
  rename_i hf;injection az with bu b2;subst bu;subst b2;rw[e]at h2;have aM:(0:Int)<=0/\(0:Int)<cn cx.aC:=by unfold cn;split<;>omega
  exact⟨rfl,(h.aI C hk aL h2 aM (.inr ⟨rfl,rfl⟩) bn h1 h3 (.inl rfl)).1,aoW.2 hf,n,e,rfl⟩
 cases az
theorem TA{loc:ByteArray}{on:BitVec 64}{d:Int}{s':cg}{c4:Nat}(az:mm cx s k loc on d=.go s' c4)(aL:loc∈cx.aO)(bn:let o:=(cx.code.getD k default).op;o=1\/o=2\/o=3\/o=6\/o=7)(h1:fx s.J on)(hd:0<=d/\d<cn cx.aC):
 c4=k+1/\gH cx s' c4/\sf cx s=false/\s'={sb cx s k 1 loc 0 d on 0#64 with ag:=gP cx.aC s.ag d ⟨.told s.J.length,1#64<<<s.J.length⟩}:=by
 unfold mm at az;split at az
 ·cases az
 rename_i hf;injection az with bu b2;subst bu;subst b2;obtain⟨g1,g2,g3⟩:=h.aI C hk (dat:=0#64) aL (by decide) hd (.inl ⟨rfl,rfl⟩) bn h1 (fx.zero _) (.inr rfl);have bd:(sb cx s k 1 loc 0 d on 0#64).ag=s.ag:=rfl;refine⟨rfl,⟨?_,λi hi=>?_,λe=>?_,g1.bh,g1.J,g1.sc,g1.bars,g1.rn,g1.addr,g1.data,g1.dF,hk⟩,aoW.2 hf,rfl⟩
 ·exact(Bf _ _ _ _).trans h.lW
 ·rcases Gv cx.aC s.ag d ⟨.told s.J.length,1#64<<<s.J.length⟩ i with e | ⟨e,_⟩
  ·dsimp only;rw[e];exact g1.ag i (by rw[bd];simpa[Bf]using hi)
  dsimp only;rw[e];refine⟨⟨by rw[g3];omega,by rw[g2]⟩,λj ae=>?_⟩;have:j=s.J.length:=by rw[apX]at ae;simp only[aoo,aop,aoq,aoA]at ae;have:=ae.2;rw[aqa]at this;simp at this;omega
  subst this;exact⟨by rw[g3];omega,by rw[g2]⟩
 rcases Gv cx.aC s.ag d ⟨.told s.J.length,1#64<<<s.J.length⟩ 0 with q | ⟨q,bz⟩
 ·exact q.trans (h.zero e)
 show(gP cx.aC s.ag d _).getD 0 default=_;unfold gP;rw[aou ⟨e,by omega⟩];exact h.zero e
end
theorem FZ{code:List Instr}{s:ByteArray}{k j:Nat}(h:lC code s k=some j):k<=j/\j<code.length/\(code.getD j default).op=12/\(code.getD j default).label=s/\∀q,k<=q->q<j->ko s (code.getD q default)=false:=by
 unfold lC at h;have hm:=List.mem_of_mem_head? (by rw[h];rfl:j∈_);rw[apd,aoQ,aoo,aop]at hm;obtain⟨h1,h2,h3⟩:=hm;unfold ko at h3;rw[aoo,aop,aop]at h3;refine⟨h2,h1,h3.1,h3.2,λq ba Qu=>?_⟩;apply ao0;intro bd;have kT:ko s (code.getD q default)=true:=by cases hb:ko s (code.getD q default);exact absurd hb bd;rfl
 have hp:((List.range code.length).filter λj=>decide (k<=j)&&ko s (code.getD j default)).Pairwise (· <·):=apL _ aq6;have JD:q∈(List.range code.length).filter λj=>decide (k<=j)&&ko s (code.getD j default):=by rw[apd,aoQ,aoo,aop];exact⟨by omega,ba,kT⟩
 revert h hp JD;generalize(List.range code.length).filter _=l;intro h hp JD;cases l with
 | nil=>cases h
 | cons a r=>
  simp only[List.head?_cons,aqj]at h;subst h;rcases aoO.1 JD with e | e
  ·omega
  have:=(apa.1 hp).1 q e;omega
theorem AS{cx:fg}(C:l1 cx){k:Nat}(hk:k<cx.code.length)(bn:(cx.code.getD k default).op=11): lC cx.code (cx.code.getD k default).label (k+1)=some (nJ cx.code k):=by
 have hi:=yj C (s:=⟨[],0#64,[],[],[],[],[]⟩) (k:=k);have ay:cx.aC=2:=by
  rcases C.aC with e | e
  ·have:=(C.ins _ (by rw[aor,aov hk];exact apC hk:cx.code.getD k default∈cx.code)).A8 e;omega
  exact e
 have:=C.cT ay k hk;unfold kX at this;rw[aot (by omega),aou bn]at this;unfold nJ;obtain⟨j,ae⟩:=apf.1 this;rw[ae];rfl
section
variable {cx:fg} (C:l1 cx)
include C
theorem wU{s s':cg}{k c4:Nat}(h:gH cx s k)(hk:k<cx.code.length)(az:fR cx s k=.go s' c4):k<c4/\gH cx s' c4:=by
 have bV:=yj C h hk;have hm:cx.code.getD k default∈cx.code:=by rw[aor,aov hk];exact apC hk
 have cj:=λn cB bz=>h.bo C hk (n:=n) cB bz;have aux:∀{a:cg},c4=k+1/\gH cx s' c4->k<c4/\gH cx s' c4:=λq=>⟨by omega,q.2⟩;unfold fR at az;dsimp only at az;have fin:∀{x:cg},oZ.go x (k+1)=.go s' c4->gH cx x (k+1)->k<c4/\gH cx s' c4:=λe q=>by injection e with bu b2;subst bu;subst b2;exact⟨apN k,q⟩
 have wr:∀{loc on x},kJ cx s k loc on x=.go s' c4->loc∈cx.aO->(let o:=(cx.code.getD k default).op;o=1\/o=2\/o=3\/o=6\/o=7)->fx s.J on->l2 cx s.J x.has->fx s.J x.on->k<c4/\gH cx s' c4:=λa b c d e f=>by obtain⟨cB,bz,_⟩:=Hj C h hk a b c d e f;exact⟨by omega,bz⟩
 have rd:∀{loc on d},mm cx s k loc on d=.go s' c4->loc∈cx.aO->(let o:=(cx.code.getD k default).op;o=1\/o=2\/o=3\/o=6\/o=7)->fx s.J on->0<=d/\d<cn cx.aC->k<c4/\gH cx s' c4:=λa b c d e=>by obtain⟨cB,bz,_⟩:=TA C h hk a b c d e;exact⟨by omega,bz⟩
 split at az
 ·rename_i bn;exact wr az (C.loc _ hm (.inl bn)) (.inl bn) (fx.zero _) bV.c3 (fx.zero _)
 split at az
 ·rename_i bn;obtain⟨cB,bz⟩:=cj _ bV.a.1 bV.a.2;exact wr az (C.loc _ hm (.inr (.inl bn))) (.inr (.inl bn)) (fx.zero _) cB bz
 split at az
 ·rename_i bn;exact rd az (C.loc _ hm (.inr (.inr bn))) (.inr (.inr (.inl bn))) (fx.zero _) bV.d
 split at az
 ·exact fin az (h.put C hk bV.d.1 bV.c3 (fx.zero _))
 split at az
 ·rename_i bn;exact fin az (h.B3 C hk (by decide) (by decide) (.inl bn))
 split at az
 ·rename_i bn;obtain⟨cB,bz⟩:=cj _ bV.a.1 bV.a.2;split at az
  ·rename_i l e;rw[e]at cB;exact rd az cB.2 (.inr (.inr (.inr (.inl bn)))) bz bV.d
  cases az
 split at az
 ·rename_i bn;obtain⟨cB,bz⟩:=cj _ bV.a.1 bV.a.2;obtain⟨fc,iB⟩:=cj _ bV.b.1 bV.b.2;split at az
  ·rename_i l e;rw[e]at cB;exact wr az cB.2 (.inr (.inr (.inr (.inr bn)))) bz fc iB
  cases az
 split at az
 ·obtain⟨cB,bz⟩:=cj _ bV.a.1 bV.a.2;obtain⟨fc,iB⟩:=cj _ bV.b.1 bV.b.2;refine fin az (h.put C hk bV.d.1 ?_ ?_)
  ·unfold jF;dsimp only;split
   ·show eF 0=true;decide
   refine adD _ cB ?_;split
   ·exact bV.c3
   exact fc
  unfold jF;dsimp only;refine bz.or ?_;split
  ·exact fx.zero _
  exact iB
 split at az
 ·rename_i bn;obtain⟨_,bz⟩:=cj _ bV.a.1 bV.a.2;obtain⟨_,iB⟩:=cj _ bV.b.1 bV.b.2;have aL:=FZ (AS C hk bn);unfold qD at az;dsimp only at az;have st:∀nh,k<nh->nh<=cx.code.length->gH cx {s with bh:=s.bh||| (bS s (cx.code.getD k default).a).on||| (bS s (cx.code.getD k default).b).on} nh:=λnh h1 h2=>⟨h.lW,h.ag,h.zero,(h.bh.or bz).or iB,λx hx=>(h.J x hx).le (by omega),h.sc,λx hx=>(h.bars x hx).le (by omega),h.rn,h.addr,h.data,h.dF,h2⟩
  split at az
  ·split at az
   ·exact fin az (st _ (apN k) hk)
   cases az
  split at az
  ·injection az with bu b2;subst bu;subst b2;exact⟨by omega,st _ (by omega) (by omega)⟩
  exact fin az (st _ (apN k) hk)
 split at az
 ·rename_i bn;have:=bV.EM bn;exact fin az (h.B3 C hk (by omega) (by omega) (.inr bn))
 exact fin az ⟨h.lW,h.ag,h.zero,h.bh,λx hx=>(h.J x hx).le (arf k),h.sc,λx hx=>(h.bars x hx).le (arf k),h.rn,h.addr,h.data,h.dF,hk⟩
end
inductive Rd(cx:fg)(dd:cg):cg->Nat->Prop where
 | zero:Rd cx dd dd 0
 | step {s s':cg} {k c4:Nat}:Rd cx dd s k->k<cx.code.length->fR cx s k=.go s' c4->Rd cx dd s' c4
theorem Rd.ok{cx:fg}(C:l1 cx){dd:cg}(h0:gH cx dd 0){s:cg}{k:Nat}(h:Rd cx dd s k):gH cx s k:=by
 induction h with
 | zero=>exact h0
 | step _ hk az bP=>exact(wU C bP hk az).2
theorem TW{cx:fg}(C:l1 cx){dd:cg}(h0:gH cx dd 0){ot:cg}{c5:Nat}:∀(n:Nat) (s:cg) (k:Nat),Rd cx dd s k->iQ cx n s k=.go ot c5->cx.code.length<=n+k->Rd cx dd ot c5/\cx.code.length<=c5
 | 0,s,k,h,aM,bd=>by unfold iQ at aM;injection aM with bu b2;subst bu;subst b2;exact⟨h,by omega⟩
 | n+1,s,k,h,aM,bd=>by
  unfold iQ at aM;split at aM
  ·rename_i hk;split at aM
   ·rename_i s' c4 az;have:=(wU C (h.ok C h0) hk az).1;exact TW C h0 n s' c4 (.step h hk az) aM (by omega)
   rename_i dS;exact absurd aM (dS _ _)
  injection aM with bu b2;subst bu;subst b2;exact⟨h,by omega⟩
theorem Bt{cx:fg}(C:l1 cx){dd:cg}(h0:gH cx dd 0){ot:cg}{c5:Nat}(aM:iQ cx cx.code.length dd 0=.go ot c5){s:cg}{k:Nat}(h:Rd cx dd s k):∃n,iQ cx n s k=.go ot c5/\cx.code.length<=n+k:=by
 induction h with
 | zero=>exact⟨_,aM,by omega⟩
 | step q hk az bP=>
  obtain⟨n,h1,h2⟩:=bP;cases n with
  | zero=>omega
  | succ n=>unfold iQ at h1;rw[aou hk,az]at h1;have:=(wU C (q.ok C h0) hk az).1;exact⟨n,h1,by omega⟩
theorem Tw{cx:fg}(C:l1 cx){dd:cg}(h0:gH cx dd 0){ot:cg}{c5:Nat}(aM:iQ cx cx.code.length dd 0=.go ot c5){s:cg}{k:Nat}(h:Rd cx dd s k)(hk:k<cx.code.length):∃s' c4,fR cx s k=.go s' c4:=by
 obtain⟨n,h1,h2⟩:=Bt C h0 aM h;cases n with
 | zero=>omega
 | succ n=>
  unfold iQ at h1;rw[aou hk]at h1;split at h1
  ·rename_i s' c4 e;exact⟨s',c4,e⟩
  rename_i dS;exact absurd h1 (dS _ _)
theorem Tv{cx:fg}(C:l1 cx){dd:cg}(h0:gH cx dd 0){ot:cg}{c5:Nat}(aM:iQ cx cx.code.length dd 0=.go ot c5){s:cg}{k:Nat}(h:Rd cx dd s k)(hk:cx.code.length<=k):s=ot:=by
 obtain⟨n,h1,h2⟩:=Bt C h0 aM h;cases n with
 | zero=>unfold iQ at h1;injection h1
 | succ n=>unfold iQ at h1;rw[aot (by omega)]at h1;injection h1
theorem UG{cx:fg}{s s':cg}{k c4:Nat}(az:fR cx s k=.go s' c4):∃m,s'.J=s.J++m/\∀x,x∈m->x.place=(k:Int):=by
 have nil:∀{x:cg} {q:Nat},oZ.go x q=.go s' c4->x.J=s.J->∃m,s'.J=s.J++m/\∀x,x∈m->x.place=(k:Int):=λe q=>by injection e with bu b2;subst bu;exact⟨[],by rw[q,aoH],λ_ h=>(by cases h)⟩
 have wr:∀{loc on x},kJ cx s k loc on x=.go s' c4->∃m,s'.J=s.J++m/\∀x,x∈m->x.place=(k:Int):=λe=>by
  unfold kJ at e;split at e
  ·split at e
   ·cases e
   injection e with bu b2;subst bu;exact⟨_,rfl,λb h=>by rw[aoB]at h;subst h;rfl⟩
  cases e
 have rd:∀{loc on d},mm cx s k loc on d=.go s' c4->∃m,s'.J=s.J++m/\∀x,x∈m->x.place=(k:Int):=λe=>by
  unfold mm at e;split at e
  ·cases e
  injection e with bu b2;subst bu;exact⟨_,rfl,λb h=>by rw[aoB]at h;subst h;rfl⟩
 unfold fR at az;dsimp only at az;split at az;exact wr az;split at az;exact wr az;split at az;exact rd az;split at az;exact nil az rfl;split at az;exact nil az rfl;split at az
 ·split at az
  ·exact rd az
  cases az
 split at az
 ·split at az
  ·exact wr az
  cases az
 split at az;exact nil az rfl;split at az
 ·unfold qD at az;dsimp only at az;split at az
  ·split at az
   ·exact nil az rfl
   cases az
  split at az<;>exact nil az rfl
 split at az<;>exact nil az rfl
theorem TV{cx:fg}{ot:cg}{c5:Nat}:∀(n:Nat) (s:cg) (k:Nat),iQ cx n s k=.go ot c5->∃m,ot.J=s.J++m
 | 0,s,k,h=>by unfold iQ at h;injection h with bu b2;subst bu;exact⟨[],(aoH _).symm⟩
 | n+1,s,k,h=>by
  unfold iQ at h;split at h
  ·split at h
   ·rename_i s' c4 az;obtain⟨m,hm,_⟩:=UG az;obtain⟨m',kA⟩:=TV n s' c4 h;exact⟨m++m',by rw[kA,hm,aoP]⟩
   rename_i dS;exact absurd h (dS _ _)
  injection h with bu b2;subst bu;exact⟨[],(aoH _).symm⟩
theorem air{cx:fg}{s s':cg}{k c4:Nat}(az:fR cx s k=.go s' c4)(ai:cx.ahead+s.J.length<=64):cx.ahead+s'.J.length<=64:=by
 have nil:∀{x:cg} {q:Nat},oZ.go x q=.go s' c4->x.J=s.J->cx.ahead+s'.J.length<=64:=λe q=>by injection e with bu b2;subst bu;rw[q];exact ai
 have wr:∀{loc on x},kJ cx s k loc on x=.go s' c4->cx.ahead+s'.J.length<=64:=λe=>by
  unfold kJ at e;split at e
  ·split at e
   ·cases e
   rename_i hf;unfold sf at hf;rw[aop]at hf;injection e with bu b2;subst bu;show cx.ahead+(s.J++_).length<=64;rw[aoy];simp;omega
  cases e
 have rd:∀{loc on d},mm cx s k loc on d=.go s' c4->cx.ahead+s'.J.length<=64:=λe=>by
  unfold mm at e;split at e
  ·cases e
  rename_i hf;unfold sf at hf;rw[aop]at hf;injection e with bu b2;subst bu;show cx.ahead+(s.J++_).length<=64;rw[aoy];simp;omega
 unfold fR at az;dsimp only at az;split at az;exact wr az;split at az;exact wr az;split at az;exact rd az;split at az;exact nil az rfl;split at az;exact nil az rfl;split at az
 ·split at az
  ·exact rd az
  cases az
 split at az
 ·split at az
  ·exact wr az
  cases az
 split at az;exact nil az rfl;split at az
 ·unfold qD at az;dsimp only at az;split at az
  ·split at az
   ·exact nil az rfl
   cases az
  split at az<;>exact nil az rfl
 split at az<;>exact nil az rfl
theorem Rd.HT{cx:fg}{dd s:cg}{k:Nat}(h:Rd cx dd s k)(h0:cx.ahead+dd.J.length<=64):cx.ahead+s.J.length<=64:=by
 induction h with
 | zero=>exact h0
 | step _ _ az bP=>exact air az bP
theorem eN{α:Type}[Inhabited α]{l:List α}{i:Nat}(h:i<l.length):l.getD i default∈l:=by rw[aor,aov h];exact apC h
theorem pj{α:Type}[Inhabited α]{l:List α}{x:α}(h:x∈l):∃i,i<l.length/\l.getD i default=x:=by obtain⟨i,hi,e⟩:=aqk h;exact⟨i,hi,by rw[aor,aov hi];exact e⟩
theorem sB{s:ByteArray}(h:eE s=true):s≠bg:=by rintro rfl;unfold eE at h;rw[show bg.size=0 from rfl]at h;simp at h
section
variable {t:aV} (G:iS t)
include G
theorem iS.line{x:mu}(hx:x∈t.init):tN t x=true:=by obtain⟨i,hi,rfl⟩:=pj hx;have:=G.abH i hi;unfold tM at this;rw[aoo]at this;exact this.1
theorem iS.XH{c:List Instr}(ai:c∈t.code){i:Instr}(hi:i∈c)(h:i.op=1\/i.op=2\/i.op=3):i.loc∈cc t:=by have bV:=FR G.aC (G.ins c ai i hi);refine uY.2 ⟨?_,sB (bV.loc h)⟩;unfold ni;rw[aoG,aoG];exact .inl (.inr (api.2 ⟨c,ai,ao9.2 ⟨i,hi,rfl⟩⟩))
theorem iS.FP{x:mu}(hx:x∈t.init)(h:x.aH= -1):eE x.loc=true/\x.loc∈cc t/\eF x.value.n=true/\x.value.loc=bg:=by have aL:=G.line hx;unfold tN at aL;rw[aou h]at aL;simp only[aoo,aop]at aL;refine⟨aL.1.1.1,uY.2 ⟨?_,sB aL.1.1.1⟩,aL.2,aL.1.2⟩;unfold ni;rw[aoG,aoG];exact .inl (.inl (api.2 ⟨x,hx,by simp⟩))
theorem iS.xL{x:mu}(hx:x∈t.init)(h:¬x.aH= -1):0<=x.aH/\x.aH<t.code.length/\x.loc=bg/\(0<=x.bo/\x.bo<cn t.aC)/\(t.aC=2->1<=x.bo)/\ ((x.value.loc=bg/\eF x.value.n=true)\/(x.value.loc≠bg/\x.value.n=0/\eE x.value.loc=true/\x.value.loc∈cc t)):=by
 have aL:=G.line hx;unfold tN at aL;rw[aot h]at aL;simp only[aoo,aop]at aL;obtain⟨⟨⟨⟨h1,h2⟩,h3⟩,aA⟩,a6⟩:=aL;have da:(0<=x.bo/\x.bo<cn t.aC)/\(t.aC=2->1<=x.bo):=by
  unfold cn;split at aA
  ·rename_i e;simp only[aoo,aop]at aA;rw[aou e];exact⟨by omega,λ_=>aA.1⟩
  rename_i e;unfold nr at aA;simp only[aoo,aop]at aA;rw[aot e];exact⟨by omega,λq=>absurd q e⟩
 refine⟨h1,h2,h3,da.1,da.2,?_⟩;unfold lY at a6;split at a6
 ·rename_i e;exact .inl ⟨e,a6⟩
 rename_i e;rw[aoo,aop]at a6;refine .inr ⟨e,a6.2,a6.1,uY.2 ⟨?_,e⟩⟩;unfold ni;rw[aoG,aoG];exact .inl (.inl (api.2 ⟨x,hx,by simp⟩))
theorem iS.cx{k:Nat}(hk:k<t.code.length)(a:Nat):l1 (ez t k a) where
 aC:=G.aC
 ins i hi:=FR G.aC (G.ins _ (eN hk) i hi)
 cT e:=G.cT e _ (eN hk)
 loc i hi h:=G.XH (eN hk) hi h
theorem iS.sK{k:Nat}(hk:k<t.code.length)(a:Nat):(bM.sK t k).length=cn t.aC/\(∀i,i<(bM.sK t k).length->l2 (ez t k a) [] ((bM.sK t k).getD i default).has/\fx [] ((bM.sK t k).getD i default).on)/\ (t.aC=2->(bM.sK t k).getD 0 default=⟨.num 0,0#64⟩):=by
 have key:∀(l:List mu) (r:List eO),(∀x,x∈l->x∈t.init)->(r.length=cn t.aC/\(∀i,i<r.length->l2 (ez t k a) [] (r.getD i default).has/\fx [] (r.getD i default).on)/\(t.aC=2->r.getD 0 default=⟨.num 0,0#64⟩))-> ((l.foldl (λl x=>if x.aH=(k:Int)then l.set x.bo.toNat (oL x)else l) r).length=cn t.aC/\(∀i,i<(l.foldl (λl x=>if x.aH=(k:Int)then l.set x.bo.toNat (oL x)else l) r).length->l2 (ez t k a) [] ((l.foldl (λl x=>if x.aH=(k:Int)then l.set x.bo.toNat (oL x)else l) r).getD i default).has/\fx [] ((l.foldl (λl x=>if x.aH=(k:Int)then l.set x.bo.toNat (oL x)else l) r).getD i default).on)/\(t.aC=2->(l.foldl (λl x=>if x.aH=(k:Int)then l.set x.bo.toNat (oL x)else l) r).getD 0 default=⟨.num 0,0#64⟩)):=by
  intro l
  induction l with
  | nil=>intro r _ h;exact h
  | cons x l bP=>
   intro r aL h;rw[apR];refine bP _ (λy aY=>aL y (.tail _ aY)) ?_;split
   ·rename_i e;obtain⟨_,_,_,aA,a6,cE⟩:=G.xL (aL x aP) (by omega);refine⟨by rw[aoU];exact h.1,λi hi=>?_,λb2=>?_⟩
    ·rw[fU];rw[aoU]at hi;split
     ·refine⟨?_,fx.zero _⟩;unfold oL;rcases cE with⟨cB,bz⟩ | ⟨cB,_,bz,fc⟩
      ·rw[aou cB];exact bz
      rw[aot cB];exact⟨bz,fc⟩
     exact h.2.1 i hi
    rw[fU,aot (by have:=a6 b2;omega)];exact h.2.2 b2
   exact h
 refine key _ _ (λ_ h=>h) ⟨aoX,λi hi=>?_,λe=>?_⟩
 ·rw[aoX]at hi;rw[aor,apj,aou hi];exact⟨by show eF 0=true;decide,fx.zero _⟩
 rw[aor,apj,aou (by unfold cn;split<;>omega)];rfl
theorem iS.dd{k:Nat}(hk:k<t.code.length)(a:Nat):gH (ez t k a) (fm t k) 0:=by obtain⟨h1,h2,h3⟩:=G.sK hk a;exact⟨h1,h2,h3,fx.zero _,λ_ h=>(by cases h),List.Pairwise.nil,λ_ h=>(by cases h),List.Pairwise.nil,⟨List.nodup_nil,λ_ h=>(by cases h)⟩,⟨List.nodup_nil,λ_ h=>(by cases h)⟩,⟨List.nodup_nil,λ_ h=>(by cases h)⟩,aoD _⟩
theorem iS.aw{k:Nat}(hk:k<t.code.length){a:Nat}{s:cg}{c5:Nat}(h:rR t k a=.go s c5):Rd (ez t k a) (fm t k) s c5/\(t.code.getD k default).length<=c5/\gH (ez t k a) s c5:=by obtain⟨h1,h2⟩:=TW (G.cx hk a) (G.dd hk a) _ _ _ Rd.zero h (aoL _);exact⟨h1,h2,h1.ok (G.cx hk a) (G.dd hk a)⟩
end
theorem MC{t:aV}{bI:List cK}{k:Nat}{dJ:Acc}(h:jb t bI (k+1)=.ok dJ):∃a s c5,jb t bI k=.ok a/\rR t k a.J.length=.go s c5/\uw bI k a.J.length s.ag=true/\ dJ=⟨a.J++s.J,a.bars++s.bars,a.addr++h9 s.addr a.J.length,a.data++h9 s.data a.J.length,a.bh++h9 s.dF a.J.length,r9 bI a.ends k a.J.length s.ag⟩:=by
 unfold jb at h;split at h
 ·cases h
 rename_i a ay;split at h
 ·cases h
 ·cases h
 rename_i s c5 aj;split at h
 ·rename_i he;injection h with h;exact⟨a,s,c5,ay,aj,he,h.symm⟩
 cases h
theorem acQ(x y:ca):(kY x y||kY y x)=true:=by unfold kY;simp only[aox,aoo,aop];omega
theorem acR(x y z:ca)(h1:kY x y=true)(h2:kY y z=true):kY x z=true:=by unfold kY at *;simp only[aox,aoo,aop]at *;omega
def pW(x y:ca):Prop:=iI x.A x.B y.A y.B=true
theorem adK{l:List ca}(h:l.Nodup)(n:Nat):(h9 l n).Pairwise pW:=by
 have h1:(h9 l n).Pairwise λx y=>kY x y=true:=aqy acR acQ _;have h2:(h9 l n).Nodup:=by unfold h9;rw[(aql _ _).nodup_iff];refine List.Pairwise.map _ (λa b l8 e=>l8 ?_) h;obtain⟨ds,a2⟩:=a;obtain⟨gn,dC⟩:=b;unfold nP at e;injection e with bu b2;dsimp only at bu b2;rw[show ds=gn by omega,show a2=dC by omega]
 refine List.Pairwise.imp₂ (λa b cB bz=>?_) h1 h2;obtain⟨ds,a2⟩:=a;obtain⟨gn,dC⟩:=b;unfold kY at cB;unfold pW iI;dsimp only at *;simp only[aox,aoo,aop]at *;rcases cB with q | ⟨q,fc⟩
 ·exact .inl q
 refine .inr ⟨q,?_⟩;rcases Int.lt_or_eq_of_le fc with iB | iB
 ·exact iB
 exact absurd (by rw[q,iB]) bz
theorem R3{l:List ca}{n:Nat}{p:ca}:p∈h9 l n↔∃q,q∈l/\p=nP n q:=by
 unfold h9;rw[(aql _ _).mem_iff,ao9];constructor
 ·rintro⟨q,h1,h2⟩;exact⟨q,h1,h2.symm⟩
 rintro⟨q,h1,h2⟩;exact⟨q,h1,h2.symm⟩
end Go.bM
