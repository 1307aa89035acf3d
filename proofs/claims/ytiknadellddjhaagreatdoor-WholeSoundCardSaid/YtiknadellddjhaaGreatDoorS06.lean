/- Lemmas for the law WholeSound. -/
import Derived.Test.YtiknadellddjhaaGreatDoorS05
set_option linter.all false
open Go Go.cc
namespace Go.bU
theorem Fo{code:List Instr}{s:ByteArray}{k j:Nat}(h:k6 code s k=some j):k<=j/\j<code.length/\(code.getD j default).op=12/\(code.getD j default).label=s/\∀q,k<=q->q<j->j8 s (code.getD q default)=false:=by
 unfold k6 at h;have hm:=List.mem_of_mem_head? (by rw[h];rfl:j∈_);rw[am5,amH,ami,amj]at hm;obtain⟨h1,h2,h3⟩:=hm;unfold j8 at h3;rw[ami,amj,amj]at h3;refine⟨h2,h1,h3.1,h3.2,λq aZ Pz=>?_⟩;apply amT;intro bh;have kD:j8 s (code.getD q default)=true:=by cases hb:j8 s (code.getD q default);exact absurd hb bh;rfl
 have hp:((List.range code.length).filter λj=>decide (k<=j)&&j8 s (code.getD j default)).Pairwise (· <·):=anC _ aoL;have IY:q∈(List.range code.length).filter λj=>decide (k<=j)&&j8 s (code.getD j default):=by rw[am5,amH,ami,amj];exact⟨by omega,aZ,kD⟩
 revert h hp IY;generalize(List.range code.length).filter _=l;intro h hp IY;cases l with
 | nil=>cases h
 | cons a r=>
  simp only[List.head?_cons,aoc]at h;subst h;rcases amG.1 IY with e | e
  ·omega
  have:=(am2.1 hp).1 q e;omega
theorem Ac{cx:fa}(C:lG cx){k:Nat}(hk:k<cx.code.length)(bm:(cx.code.getD k default).op=11): k6 cx.code (cx.code.getD k default).label (k+1)=some (np cx.code k):=by
 have hi:=xK C (s:=⟨[],0#64,[],[],[],[],[]⟩) (k:=k);have au:cx.az=2:=by
  rcases C.az with e | e
  ·have:=(C.ins _ (by rw[aml,amp hk];exact anx hk:cx.code.getD k default∈cx.code)).Ap e;omega
  exact e
 have:=C.cN au k hk;unfold kH at this;rw[amn (by omega),amo bm]at this;unfold np;obtain⟨j,ad⟩:=am7.1 this;rw[ad];rfl
section
variable {cx:fa} (C:lG cx)
include C
theorem wj{s s':b6}{k cF:Nat}(h:gy cx s k)(hk:k<cx.code.length)(ay:fJ cx s k=.go s' cF):k<cF/\gy cx s' cF:=by
 have bN:=xK C h hk;have hm:cx.code.getD k default∈cx.code:=by rw[aml,amp hk];exact anx hk
 have b8:=λn cq bn=>h.bq C hk (n:=n) cq bn;have aux:∀{a:b6},cF=k+1/\gy cx s' cF->k<cF/\gy cx s' cF:=λq=>⟨by omega,q.2⟩;unfold fJ at ay;dsimp only at ay;have fin:∀{x:b6},oG.go x (k+1)=.go s' cF->gy cx x (k+1)->k<cF/\gy cx s' cF:=λe q=>by injection e with bC cd;subst bC;subst cd;exact⟨anF k,q⟩
 have wr:∀{loc on x},kr cx s k loc on x=.go s' cF->loc∈cx.bb->(let o:=(cx.code.getD k default).op;o=1\/o=2\/o=3\/o=6\/o=7)->fo s.J on->lH cx s.J x.has->fo s.J x.on->k<cF/\gy cx s' cF:=λa b c d e f=>by obtain⟨cq,bn,_⟩:=GN C h hk a b c d e f;exact⟨by omega,bn⟩
 have rd:∀{loc on d},lT cx s k loc on d=.go s' cF->loc∈cx.bb->(let o:=(cx.code.getD k default).op;o=1\/o=2\/o=3\/o=6\/o=7)->fo s.J on->0<=d/\d<b3 cx.az->k<cF/\gy cx s' cF:=λa b c d e=>by obtain⟨cq,bn,_⟩:=SC C h hk a b c d e;exact⟨by omega,bn⟩
 split at ay
 ·rename_i bm;exact wr ay (C.loc _ hm (.inl bm)) (.inl bm) (fo.zero _) bN.cY (fo.zero _)
 split at ay
 ·rename_i bm;obtain⟨cq,bn⟩:=b8 _ bN.a.1 bN.a.2;exact wr ay (C.loc _ hm (.inr (.inl bm))) (.inr (.inl bm)) (fo.zero _) cq bn
 split at ay
 ·rename_i bm;exact rd ay (C.loc _ hm (.inr (.inr bm))) (.inr (.inr (.inl bm))) (fo.zero _) bN.d
 split at ay
 ·exact fin ay (h.put C hk bN.d.1 bN.cY (fo.zero _))
 split at ay
 ·rename_i bm;exact fin ay (h.Bo C hk (by decide) (by decide) (.inl bm))
 split at ay
 ·rename_i bm;obtain⟨cq,bn⟩:=b8 _ bN.a.1 bN.a.2;split at ay
  ·rename_i l e;rw[e]at cq;exact rd ay cq.2 (.inr (.inr (.inr (.inl bm)))) bn bN.d
  cases ay
 split at ay
 ·rename_i bm;obtain⟨cq,bn⟩:=b8 _ bN.a.1 bN.a.2;obtain⟨e8,ih⟩:=b8 _ bN.b.1 bN.b.2;split at ay
  ·rename_i l e;rw[e]at cq;exact wr ay cq.2 (.inr (.inr (.inr (.inr bm)))) bn e8 ih
  cases ay
 split at ay
 ·obtain⟨cq,bn⟩:=b8 _ bN.a.1 bN.a.2;obtain⟨e8,ih⟩:=b8 _ bN.b.1 bN.b.2;refine fin ay (h.put C hk bN.d.1 ?_ ?_)
  ·unfold jt;dsimp only;split
   ·show eJ 0=true;decide
   refine acj _ cq ?_;split
   ·exact bN.cY
   exact e8
  unfold jt;dsimp only;refine bn.or ?_;split
  ·exact fo.zero _
  exact ih
 split at ay
 ·rename_i bm;obtain⟨_,bn⟩:=b8 _ bN.a.1 bN.a.2;obtain⟨_,ih⟩:=b8 _ bN.b.1 bN.b.2;have aB:=Fo (Ac C hk bm);unfold qp at ay;dsimp only at ay;have st:∀mL,k<mL->mL<=cx.code.length->gy cx {s with ba:=s.ba||| (bJ s (cx.code.getD k default).a).on||| (bJ s (cx.code.getD k default).b).on} mL:=λmL h1 h2=>⟨h.lA,h.ah,h.zero,(h.ba.or bn).or ih,λx hx=>(h.J x hx).le (by omega),h.rR,λx hx=>(h.bars x hx).le (by omega),h.qZ,h.addr,h.data,h.dB,h2⟩
  split at ay
  ·split at ay
   ·exact fin ay (st _ (anF k) hk)
   cases ay
  split at ay
  ·injection ay with bC cd;subst bC;subst cd;exact⟨by omega,st _ (by omega) (by omega)⟩
  exact fin ay (st _ (anF k) hk)
 split at ay
 ·rename_i bm;have:=bN.D8 bm;exact fin ay (h.Bo C hk (by omega) (by omega) (.inr bm))
 exact fin ay ⟨h.lA,h.ah,h.zero,h.ba,λx hx=>(h.J x hx).le (aoY k),h.rR,λx hx=>(h.bars x hx).le (aoY k),h.qZ,h.addr,h.data,h.dB,hk⟩
end
inductive Rd(cx:fa)(db:b6):b6->Nat->Prop where
 | zero:Rd cx db db 0
 | step {s s':b6} {k cF:Nat}:Rd cx db s k->k<cx.code.length->fJ cx s k=.go s' cF->Rd cx db s' cF
theorem Rd.ok{cx:fa}(C:lG cx){db:b6}(h0:gy cx db 0){s:b6}{k:Nat}(h:Rd cx db s k):gy cx s k:=by
 induction h with
 | zero=>exact h0
 | step _ hk ay bH=>exact(wj C bH hk ay).2
theorem SX{cx:fa}(C:lG cx){db:b6}(h0:gy cx db 0){nZ:b6}{c3:Nat}:∀(n:Nat) (s:b6) (k:Nat),Rd cx db s k->iE cx n s k=.go nZ c3->cx.code.length<=n+k->Rd cx db nZ c3/\cx.code.length<=c3
 | 0,s,k,h,aH,bh=>by unfold iE at aH;injection aH with bC cd;subst bC;subst cd;exact⟨h,by omega⟩
 | n+1,s,k,h,aH,bh=>by
  unfold iE at aH;split at aH
  ·rename_i hk;split at aH
   ·rename_i s' cF ay;have:=(wj C (h.ok C h0) hk ay).1;exact SX C h0 n s' cF (.step h hk ay) aH (by omega)
   rename_i dC;exact absurd aH (dC _ _)
  injection aH with bC cd;subst bC;subst cd;exact⟨h,by omega⟩
theorem AM{cx:fa}(C:lG cx){db:b6}(h0:gy cx db 0){nZ:b6}{c3:Nat}(aH:iE cx cx.code.length db 0=.go nZ c3){s:b6}{k:Nat}(h:Rd cx db s k):∃n,iE cx n s k=.go nZ c3/\cx.code.length<=n+k:=by
 induction h with
 | zero=>exact⟨_,aH,by omega⟩
 | step q hk ay bH=>
  obtain⟨n,h1,h2⟩:=bH;cases n with
  | zero=>omega
  | succ n=>unfold iE at h1;rw[amo hk,ay]at h1;have:=(wj C (q.ok C h0) hk ay).1;exact⟨n,h1,by omega⟩
theorem Sw{cx:fa}(C:lG cx){db:b6}(h0:gy cx db 0){nZ:b6}{c3:Nat}(aH:iE cx cx.code.length db 0=.go nZ c3){s:b6}{k:Nat}(h:Rd cx db s k)(hk:k<cx.code.length):∃s' cF,fJ cx s k=.go s' cF:=by
 obtain⟨n,h1,h2⟩:=AM C h0 aH h;cases n with
 | zero=>omega
 | succ n=>
  unfold iE at h1;rw[amo hk]at h1;split at h1
  ·rename_i s' cF e;exact⟨s',cF,e⟩
  rename_i dC;exact absurd h1 (dC _ _)
theorem Sv{cx:fa}(C:lG cx){db:b6}(h0:gy cx db 0){nZ:b6}{c3:Nat}(aH:iE cx cx.code.length db 0=.go nZ c3){s:b6}{k:Nat}(h:Rd cx db s k)(hk:cx.code.length<=k):s=nZ:=by
 obtain⟨n,h1,h2⟩:=AM C h0 aH h;cases n with
 | zero=>unfold iE at h1;injection h1
 | succ n=>unfold iE at h1;rw[amn (by omega)]at h1;injection h1
theorem TL{cx:fa}{s s':b6}{k cF:Nat}(ay:fJ cx s k=.go s' cF):∃m,s'.J=s.J++m/\∀x,x∈m->x.place=(k:Int):=by
 have nil:∀{x:b6} {q:Nat},oG.go x q=.go s' cF->x.J=s.J->∃m,s'.J=s.J++m/\∀x,x∈m->x.place=(k:Int):=λe q=>by injection e with bC cd;subst bC;exact⟨[],by rw[q,amB],λ_ h=>(by cases h)⟩
 have wr:∀{loc on x},kr cx s k loc on x=.go s' cF->∃m,s'.J=s.J++m/\∀x,x∈m->x.place=(k:Int):=λe=>by
  unfold kr at e;split at e
  ·split at e
   ·cases e
   injection e with bC cd;subst bC;exact⟨_,rfl,λb h=>by rw[amv]at h;subst h;rfl⟩
  cases e
 have rd:∀{loc on d},lT cx s k loc on d=.go s' cF->∃m,s'.J=s.J++m/\∀x,x∈m->x.place=(k:Int):=λe=>by
  unfold lT at e;split at e
  ·cases e
  injection e with bC cd;subst bC;exact⟨_,rfl,λb h=>by rw[amv]at h;subst h;rfl⟩
 unfold fJ at ay;dsimp only at ay;split at ay;exact wr ay;split at ay;exact wr ay;split at ay;exact rd ay;split at ay;exact nil ay rfl;split at ay;exact nil ay rfl;split at ay
 ·split at ay
  ·exact rd ay
  cases ay
 split at ay
 ·split at ay
  ·exact wr ay
  cases ay
 split at ay;exact nil ay rfl;split at ay
 ·unfold qp at ay;dsimp only at ay;split at ay
  ·split at ay
   ·exact nil ay rfl
   cases ay
  split at ay<;>exact nil ay rfl
 split at ay<;>exact nil ay rfl
theorem SV{cx:fa}{nZ:b6}{c3:Nat}:∀(n:Nat) (s:b6) (k:Nat),iE cx n s k=.go nZ c3->∃m,nZ.J=s.J++m
 | 0,s,k,h=>by unfold iE at h;injection h with bC cd;subst bC;exact⟨[],(amB _).symm⟩
 | n+1,s,k,h=>by
  unfold iE at h;split at h
  ·split at h
   ·rename_i s' cF ay;obtain⟨m,hm,_⟩:=TL ay;obtain⟨m',ki⟩:=SV n s' cF h;exact⟨m++m',by rw[ki,hm,amJ]⟩
   rename_i dC;exact absurd h (dC _ _)
  injection h with bC cd;subst bC;exact⟨[],(amB _).symm⟩
theorem agG{cx:fa}{s s':b6}{k cF:Nat}(ay:fJ cx s k=.go s' cF)(ai:cx.ahead+s.J.length<=64):cx.ahead+s'.J.length<=64:=by
 have nil:∀{x:b6} {q:Nat},oG.go x q=.go s' cF->x.J=s.J->cx.ahead+s'.J.length<=64:=λe q=>by injection e with bC cd;subst bC;rw[q];exact ai
 have wr:∀{loc on x},kr cx s k loc on x=.go s' cF->cx.ahead+s'.J.length<=64:=λe=>by
  unfold kr at e;split at e
  ·split at e
   ·cases e
   rename_i hf;unfold rU at hf;rw[amj]at hf;injection e with bC cd;subst bC;show cx.ahead+(s.J++_).length<=64;rw[ams];simp;omega
  cases e
 have rd:∀{loc on d},lT cx s k loc on d=.go s' cF->cx.ahead+s'.J.length<=64:=λe=>by
  unfold lT at e;split at e
  ·cases e
  rename_i hf;unfold rU at hf;rw[amj]at hf;injection e with bC cd;subst bC;show cx.ahead+(s.J++_).length<=64;rw[ams];simp;omega
 unfold fJ at ay;dsimp only at ay;split at ay;exact wr ay;split at ay;exact wr ay;split at ay;exact rd ay;split at ay;exact nil ay rfl;split at ay;exact nil ay rfl;split at ay
 ·split at ay
  ·exact rd ay
  cases ay
 split at ay
 ·split at ay
  ·exact wr ay
  cases ay
 split at ay;exact nil ay rfl;split at ay
 ·unfold qp at ay;dsimp only at ay;split at ay
  ·split at ay
   ·exact nil ay rfl
   cases ay
  split at ay<;>exact nil ay rfl
 split at ay<;>exact nil ay rfl
theorem Rd.Hn{cx:fa}{db s:b6}{k:Nat}(h:Rd cx db s k)(h0:cx.ahead+db.J.length<=64):cx.ahead+s.J.length<=64:=by
 induction h with
 | zero=>exact h0
 | step _ _ ay bH=>exact agG ay bH
theorem er{α:Type}[Inhabited α]{l:List α}{i:Nat}(h:i<l.length):l.getD i default∈l:=by rw[aml,amp h];exact anx h
theorem o6{α:Type}[Inhabited α]{l:List α}{x:α}(h:x∈l):∃i,i<l.length/\l.getD i default=x:=by obtain⟨i,hi,e⟩:=aod h;exact⟨i,hi,by rw[aml,amp hi];exact e⟩
theorem sf{s:ByteArray}(h:eC s=true):s≠a8:=by rintro rfl;unfold eC at h;rw[show a8.size=0 from rfl]at h;simp at h
section
variable {t:aM} (G:ir t)
include G
theorem ir.line{x:l0}(hx:x∈t.init):tu t x=true:=by obtain⟨i,hi,rfl⟩:=o6 hx;have:=G.aat i hi;unfold tr at this;rw[ami]at this;exact this.1
theorem ir.Wv{c:List Instr}(ai:c∈t.code){i:Instr}(hi:i∈c)(h:i.op=1\/i.op=2\/i.op=3):i.loc∈b2 t:=by have bN:=Fh G.az (G.ins c ai i hi);refine uw.2 ⟨?_,sf (bN.loc h)⟩;unfold mM;rw[amA,amA];exact .inl (.inr (ana.2 ⟨c,ai,am1.2 ⟨i,hi,rfl⟩⟩))
theorem ir.Ff{x:l0}(hx:x∈t.init)(h:x.aI= -1):eC x.loc=true/\x.loc∈b2 t/\eJ x.value.n=true/\x.value.loc=a8:=by have aB:=G.line hx;unfold tu at aB;rw[amo h]at aB;simp only[ami,amj]at aB;refine⟨aB.1.1.1,uw.2 ⟨?_,sf aB.1.1.1⟩,aB.2,aB.1.2⟩;unfold mM;rw[amA,amA];exact .inl (.inl (ana.2 ⟨x,hx,by simp⟩))
theorem ir.vI{x:l0}(hx:x∈t.init)(h:¬x.aI= -1):0<=x.aI/\x.aI<t.code.length/\x.loc=a8/\(0<=x.bq/\x.bq<b3 t.az)/\(t.az=2->1<=x.bq)/\ ((x.value.loc=a8/\eJ x.value.n=true)\/(x.value.loc≠a8/\x.value.n=0/\eC x.value.loc=true/\x.value.loc∈b2 t)):=by
 have aB:=G.line hx;unfold tu at aB;rw[amn h]at aB;simp only[ami,amj]at aB;obtain⟨⟨⟨⟨h1,h2⟩,h3⟩,aC⟩,aW⟩:=aB;have c5:(0<=x.bq/\x.bq<b3 t.az)/\(t.az=2->1<=x.bq):=by
  unfold b3;split at aC
  ·rename_i e;simp only[ami,amj]at aC;rw[amo e];exact⟨by omega,λ_=>aC.1⟩
  rename_i e;unfold mS at aC;simp only[ami,amj]at aC;rw[amn e];exact⟨by omega,λq=>absurd q e⟩
 refine⟨h1,h2,h3,c5.1,c5.2,?_⟩;unfold lE at aW;split at aW
 ·rename_i e;exact .inl ⟨e,aW⟩
 rename_i e;rw[ami,amj]at aW;refine .inr ⟨e,aW.2,aW.1,uw.2 ⟨?_,e⟩⟩;unfold mM;rw[amA,amA];exact .inl (.inl (ana.2 ⟨x,hx,by simp⟩))
theorem ir.cx{k:Nat}(hk:k<t.code.length)(a:Nat):lG (ek t k a) where
 az:=G.az
 ins i hi:=Fh G.az (G.ins _ (er hk) i hi)
 cN e:=G.cN e _ (er hk)
 loc i hi h:=G.Wv (er hk) hi h
theorem ir.sn{k:Nat}(hk:k<t.code.length)(a:Nat):(bU.sn t k).length=b3 t.az/\(∀i,i<(bU.sn t k).length->lH (ek t k a) [] ((bU.sn t k).getD i default).has/\fo [] ((bU.sn t k).getD i default).on)/\ (t.az=2->(bU.sn t k).getD 0 default=⟨.num 0,0#64⟩):=by
 have key:∀(l:List l0) (r:List eD),(∀x,x∈l->x∈t.init)->(r.length=b3 t.az/\(∀i,i<r.length->lH (ek t k a) [] (r.getD i default).has/\fo [] (r.getD i default).on)/\(t.az=2->r.getD 0 default=⟨.num 0,0#64⟩))-> ((l.foldl (λl x=>if x.aI=(k:Int)then l.set x.bq.toNat (oq x)else l) r).length=b3 t.az/\(∀i,i<(l.foldl (λl x=>if x.aI=(k:Int)then l.set x.bq.toNat (oq x)else l) r).length->lH (ek t k a) [] ((l.foldl (λl x=>if x.aI=(k:Int)then l.set x.bq.toNat (oq x)else l) r).getD i default).has/\fo [] ((l.foldl (λl x=>if x.aI=(k:Int)then l.set x.bq.toNat (oq x)else l) r).getD i default).on)/\(t.az=2->(l.foldl (λl x=>if x.aI=(k:Int)then l.set x.bq.toNat (oq x)else l) r).getD 0 default=⟨.num 0,0#64⟩)):=by
  intro l
  induction l with
  | nil=>intro r _ h;exact h
  | cons x l bH=>
   intro r aB h;rw[anJ];refine bH _ (λy aR=>aB y (.tail _ aR)) ?_;split
   ·rename_i e;obtain⟨_,_,_,aC,aW,cM⟩:=G.vI (aB x aL) (by omega);refine⟨by rw[amQ];exact h.1,λi hi=>?_,λcd=>?_⟩
    ·rw[fL];rw[amQ]at hi;split
     ·refine⟨?_,fo.zero _⟩;unfold oq;rcases cM with⟨cq,bn⟩ | ⟨cq,_,bn,e8⟩
      ·rw[amo cq];exact bn
      rw[amn cq];exact⟨bn,e8⟩
     exact h.2.1 i hi
    rw[fL,amn (by have:=aW cd;omega)];exact h.2.2 cd
   exact h
 refine key _ _ (λ_ h=>h) ⟨amS,λi hi=>?_,λe=>?_⟩
 ·rw[amS]at hi;rw[aml,anb,amo hi];exact⟨by show eJ 0=true;decide,fo.zero _⟩
 rw[aml,anb,amo (by unfold b3;split<;>omega)];rfl
theorem ir.db{k:Nat}(hk:k<t.code.length)(a:Nat):gy (ek t k a) (fg t k) 0:=by obtain⟨h1,h2,h3⟩:=G.sn hk a;exact⟨h1,h2,h3,fo.zero _,λ_ h=>(by cases h),List.Pairwise.nil,λ_ h=>(by cases h),List.Pairwise.nil,⟨List.nodup_nil,λ_ h=>(by cases h)⟩,⟨List.nodup_nil,λ_ h=>(by cases h)⟩,⟨List.nodup_nil,λ_ h=>(by cases h)⟩,amz _⟩
theorem ir.av{k:Nat}(hk:k<t.code.length){a:Nat}{s:b6}{c3:Nat}(h:rz t k a=.go s c3):Rd (ek t k a) (fg t k) s c3/\(t.code.getD k default).length<=c3/\gy (ek t k a) s c3:=by obtain⟨h1,h2⟩:=SX (G.cx hk a) (G.db hk a) _ _ _ Rd.zero h (amK _);exact⟨h1,h2,h1.ok (G.cx hk a) (G.db hk a)⟩
end
theorem LJ{t:aM}{bu:List cE}{k:Nat}{dI:Acc}(h:iT t bu (k+1)=.ok dI):∃a s c3,iT t bu k=.ok a/\rz t k a.J.length=.go s c3/\tT bu k a.J.length s.ah=true/\ dI=⟨a.J++s.J,a.bars++s.bars,a.addr++h4 s.addr a.J.length,a.data++h4 s.data a.J.length,a.ba++h4 s.dB a.J.length,rO bu a.ends k a.J.length s.ah⟩:=by
 unfold iT at h;split at h
 ·cases h
 rename_i a au;split at h
 ·cases h
 ·cases h
 rename_i s c3 ag;split at h
 ·rename_i he;injection h with h;exact⟨a,s,c3,au,ag,he,h.symm⟩
 cases h
theorem aby(x y:b5):(kI x y||kI y x)=true:=by unfold kI;simp only[amr,ami,amj];omega
theorem abz(x y z:b5)(h1:kI x y=true)(h2:kI y z=true):kI x z=true:=by unfold kI at *;simp only[amr,ami,amj]at *;omega
def pQ(x y:b5):Prop:=jh x.A x.B y.A y.B=true
theorem acr{l:List b5}(h:l.Nodup)(n:Nat):(h4 l n).Pairwise pQ:=by
 have h1:(h4 l n).Pairwise λx y=>kI x y=true:=aol abz aby _;have h2:(h4 l n).Nodup:=by unfold h4;rw[(aoe _ _).nodup_iff];refine List.Pairwise.map _ (λa b oe e=>oe ?_) h;obtain⟨dG,a2⟩:=a;obtain⟨hJ,dy⟩:=b;unfold nw at e;injection e with bC cd;dsimp only at bC cd;rw[show dG=hJ by omega,show a2=dy by omega]
 refine List.Pairwise.imp₂ (λa b cq bn=>?_) h1 h2;obtain⟨dG,a2⟩:=a;obtain⟨hJ,dy⟩:=b;unfold kI at cq;unfold pQ jh;dsimp only at *;simp only[amr,ami,amj]at *;rcases cq with q | ⟨q,e8⟩
 ·exact .inl q
 refine .inr ⟨q,?_⟩;rcases Int.lt_or_eq_of_le e8 with ih | ih
 ·exact ih
 exact absurd (by rw[q,ih]) bn
theorem Q6{l:List b5}{n:Nat}{p:b5}:p∈h4 l n↔∃q,q∈l/\p=nw n q:=by
 unfold h4;rw[(aoe _ _).mem_iff,am1];constructor
 ·rintro⟨q,h1,h2⟩;exact⟨q,h1,h2.symm⟩
 rintro⟨q,h1,h2⟩;exact⟨q,h1,h2.symm⟩
end Go.bU
