/- Lemmas for the law WholeSound. -/
import Derived.Test.YtiknadellddjhaaGreatDoorS18
set_option linter.all false
open Go Go.cc Go.bU Go.gH Go.eV
namespace Go.Proofs.bK
theorem agF{cx:fa}{s s':b6}{k cF:Nat}(ay:fJ cx s k=.go s' cF):∃m,s'.bars=s.bars++m/\∀b,b∈m->b.place=(k:Int):=by
 have nil:∀{x:b6} {q:Nat},oG.go x q=.go s' cF->x.bars=s.bars->∃m,s'.bars=s.bars++m/\∀b,b∈m->b.place=(k:Int):=λe q=>by injection e with bC cd;subst bC;exact⟨[],by rw[q,amB],λ_ h=>(by cases h)⟩
 have one:∀{f:Int} {q:Nat},oG.go {s with bars:=s.bars++[⟨cx.aI,(k:Int),f⟩]} q=.go s' cF->∃m,s'.bars=s.bars++m/\∀b,b∈m->b.place=(k:Int):=λe=>by injection e with bC cd;subst bC;exact⟨_,rfl,λb h=>by rw[amv]at h;subst h;rfl⟩
 have wr:∀{loc on x},kr cx s k loc on x=.go s' cF->∃m,s'.bars=s.bars++m/\∀b,b∈m->b.place=(k:Int):=λe=>by
  unfold kr at e;split at e
  ·split at e
   ·cases e
   injection e with bC cd;subst bC;exact⟨[],(amB _).symm,λ_ h=>(by cases h)⟩
  cases e
 have rd:∀{loc on d},lT cx s k loc on d=.go s' cF->∃m,s'.bars=s.bars++m/\∀b,b∈m->b.place=(k:Int):=λe=>by
  unfold lT at e;split at e
  ·cases e
  injection e with bC cd;subst bC;exact⟨[],(amB _).symm,λ_ h=>(by cases h)⟩
 unfold fJ at ay;dsimp only at ay;split at ay;exact wr ay;split at ay;exact wr ay;split at ay;exact rd ay;split at ay;exact nil ay rfl;split at ay;exact one ay;split at ay
 ·split at ay
  ·exact rd ay
  cases ay
 split at ay
 ·split at ay
  ·exact wr ay
  cases ay
 split at ay;exact nil ay rfl;split at ay
 ·unfold qp at ay;dsimp only at ay;split at ay
  ·split at ay
   ·exact nil ay rfl
   cases ay
  split at ay<;>exact nil ay rfl
 split at ay
 ·exact one ay
 exact nil ay rfl
theorem Lb{cx:fa}(C:lG cx){db:b6}(h0:gy cx db 0){nZ:b6}{c3:Nat}:∀(n:Nat) (s:b6) (k:Nat),Rd cx db s k->iE cx n s k=.go nZ c3->∃m,nZ.bars=s.bars++m/\∀b,b∈m->(k:Int)<=b.place
 | 0,s,k,_,h=>by unfold iE at h;injection h with bC cd;subst bC;exact⟨[],(amB _).symm,λ_ h=>(by cases h)⟩
 | n+1,s,k,b8,h=>by
  unfold iE at h;split at h
  ·rename_i hk;split at h
   ·rename_i s' cF ay;obtain⟨m,hm,hp⟩:=agF ay;have dn:=(wj C (b8.ok C h0) hk ay).1;obtain⟨m',ki,uh⟩:=Lb C h0 n s' cF (.step b8 hk ay) h;refine⟨m++m',by rw[ki,hm,amJ],λb hb=>?_⟩;rcases amA.1 hb with q | q
    ·rw[hp b q];exact Int.le_refl _
    have:=uh b q;omega
   rename_i dC;exact absurd h (dC _ _)
  injection h with bC cd;subst bC;exact⟨[],(amB _).symm,λ_ h=>(by cases h)⟩
theorem Xw{α:Type}[Inhabited α]{p:α->Bool}{l:List α}{e:Nat}(he:e<l.length)(h1:p (l.getD e default)=true)(h2:∀j,j<e->p (l.getD j default)=false):l.findIdx p=e:=by
 have ay:∀j (ad:j<l.length),l.getD j default=l[j]:=λj ad=>by rw[aml,amp ad];rfl
 rw[List.findIdx_eq he];refine⟨by rw[<-ay e he];exact h1,λj ad=>?_⟩;rw[<-ay j (by omega)];exact h2 j ad
section
variable {t:aM} (h:du t=0)
include h
theorem kf:ir t:=BJ (Gy h).1
theorem Bk:∀{k:Nat},k<=t.code.length->iT t (bk t) k=.ok (kQ t k):=by
 obtain⟨a,au⟩:=(Gy h).2;have key:∀d k,k+d=t.code.length->∃b,iT t (bk t) k=.ok b:=by
  intro d
  induction d with
  | zero=>intro k e;exact⟨a,by rw[show k=t.code.length by omega];exact au⟩
  | succ d bH=>intro k e;obtain⟨b,hb⟩:=bH (k+1) (by omega);obtain⟨dI,_,_,q,_⟩:=LJ hb;exact⟨dI,q⟩
 intro k hk;obtain⟨b,hb⟩:=key (t.code.length-k) k (by omega);unfold kQ;rw[hb]
theorem mT{k:Nat}(hk:k<t.code.length):(∃c3,rz t k (fst t k)=.go (ho t k) c3)/\(kQ t (k+1)).J=(kQ t k).J++(ho t k).J/\(kQ t (k+1)).bars=(kQ t k).bars++(ho t k).bars/\ tT (bk t) k (fst t k) (ho t k).ah=true/\(kQ t (k+1)).ends=rO (bk t) (kQ t k).ends k (fst t k) (ho t k).ah:=by
 obtain⟨a,s,c3,h1,h2,h3,aC⟩:=LJ (Bk h (show k+1<=t.code.length by omega));rw[Bk h (by omega)]at h1;injection h1 with h1;subst h1;have ag:ho t k=s:=by unfold ho;rw[show rz t k (fst t k)=.go s c3 from h2]
 rw[ag];exact⟨⟨c3,h2⟩,by rw[aC],by rw[aC],h3,by rw[aC];rfl⟩
theorem uM:al t=⟨b2 t,nR t,(kQ t t.code.length).J,(kQ t t.code.length).bars,(kQ t t.code.length).addr,(kQ t t.code.length).data,(kQ t t.code.length).ba,bk t,xO t (bk t) (kQ t t.code.length).ends⟩:=GG (Gy h).1 (Bk h (amK _))
theorem XE{k:Nat}(hk:k<t.code.length):fst t (k+1)=fst t k+(ho t k).J.length:=by unfold fst;rw[(mT h hk).2.1,ams]
theorem XF:fst t 0=0:=by have:=Bk h (amz t.code.length);unfold fst;unfold iT at this;injection this with this;rw[<-this];rfl
theorem XD:fst t t.code.length=(al t).J.length:=by rw[uM h];rfl
theorem MC{k:Nat}:∀(d:Nat),k+d<=t.code.length->∃m,(kQ t (k+d)).J=(kQ t k).J++m
 | 0,_=>⟨[],(amB _).symm⟩
 | d+1,hd=>by obtain⟨m,hm⟩:=MC (k:=k) d (by omega);exact⟨m++(ho t (k+d)).J,by rw[show k+(d+1)=k+d+1 by omega,(mT h (by omega)).2.1,hm,amJ]⟩
theorem MA{k:Nat}{b:ny}:∀(d:Nat),k+d<=t.code.length->b∈(kQ t (k+d)).bars->b∈(kQ t k).bars\/∃j,k<=j/\j<k+d/\b∈(ho t j).bars
 | 0,_,hb=>.inl hb
 | d+1,hd,hb=>by
  rw[show k+(d+1)=k+d+1 by omega,(mT h (by omega)).2.2.1]at hb;rcases amA.1 hb with q | q
  ·rcases MA d (by omega) q with q | ⟨j,cq,bn,e8⟩
   ·exact .inl q
   exact .inr ⟨j,cq,by omega,e8⟩
  exact .inr ⟨k+d,by omega,by omega,q⟩
theorem uH{k i:Nat}(hk:k<t.code.length)(hi:i<(ho t k).J.length):fst t k+i<(al t).J.length/\bf (al t) (fst t k+i)=(ho t k).J.getD i default:=by
 obtain⟨m,hm⟩:=MC h (k:=k+1) (t.code.length-(k+1)) (by omega);rw[show k+1+(t.code.length-(k+1))=t.code.length by omega,(mT h hk).2.1]at hm;have e:(al t).J=(kQ t k).J++(ho t k).J++m:=by rw[uM h];exact hm
 have aB:fst t k=(kQ t k).J.length:=rfl;refine⟨by rw[e,ams,ams];omega,?_⟩;unfold bf;rw[e,aB,kA (by rw[ams];omega),tZ (by omega),aom]
theorem A4{e:Nat}(he:e<(al t).J.length):∃k i,k<t.code.length/\i<(ho t k).J.length/\e=fst t k+i:=by
 have key:∀n,n<=t.code.length->e<fst t n->∃k i,k<n/\i<(ho t k).J.length/\e=fst t k+i:=by
  intro n
  induction n with
  | zero=>intro _ q;rw[XF h]at q;omega
  | succ n bH=>
   intro bh q;rw[XE h (by omega)]at q;by_cases bn:e<fst t n
   ·obtain⟨k,i,h1,h2,h3⟩:=bH (by omega) bn;exact⟨k,i,by omega,h2,h3⟩
   exact⟨n,e-fst t n,by omega,by omega,by omega⟩
 exact key _ (amK _) (by rw[XD h];exact he)
theorem qj{k:Nat}(hk:k<t.code.length):lG (jj t k)/\gy (jj t k) (fg t k) 0/\∃c3,Rd (jj t k) (fg t k) (ho t k) c3/\gy (jj t k) (ho t k) c3/\(cj t k).length<=c3:=by have G:=kf h;obtain⟨c3,aH⟩:=(mT h hk).1;obtain⟨h1,h2,h3⟩:=G.av hk aH;exact⟨G.cx hk _,G.db hk _,c3,h1,h3,h2⟩
theorem wh{k i:Nat}(hk:k<t.code.length)(hi:i<(ho t k).J.length):(bf (al t) (fst t k+i)).aI=(k:Int):=by rw[(uH h hk hi).2];obtain⟨_,_,_,_,S,_⟩:=qj h hk;exact(S.J _ (er hi)).aI
theorem Fe{k e:Nat}(hk:k<t.code.length)(he:e<(al t).J.length)(aE:(bf (al t) e).aI=(k:Int)):∃i,i<(ho t k).J.length/\e=fst t k+i:=by
 obtain⟨cF,i,h1,h2,rfl⟩:=A4 h he;rw[wh h h1 h2]at aE;obtain rfl:cF=k:=by omega
 exact⟨i,h2,rfl⟩
theorem KN{k:Nat}(hk:k<t.code.length){s:b6}{p:Nat}(b8:Rd (jj t k) (fg t k) s p):∃m,(ho t k).J=s.J++m:=by obtain⟨c3,aH⟩:=(mT h hk).1;obtain⟨C,h0,_⟩:=qj h hk;obtain⟨n,h1,_⟩:=AM C h0 aH b8;exact SV n s p h1
theorem aeW{k:Nat}(hk:k<t.code.length){s:b6}{p:Nat}(b8:Rd (jj t k) (fg t k) s p){b:ny}(hb:b∈(al t).bars)(aE:b.aI=(k:Int))(hp:b.place<p):b∈s.bars:=by
 obtain⟨c3,aH⟩:=(mT h hk).1;obtain⟨C,h0,_⟩:=qj h hk;obtain⟨n,h1,_⟩:=AM C h0 aH b8;obtain⟨m,hm,aZ⟩:=Lb C h0 n s p b8 h1;have h2:b∈(ho t k).bars:=by
  have e1:b∈(kQ t (0+t.code.length)).bars:=by rw[aoO];rw[uM h]at hb;exact hb
  rcases MA h _ (by omega) e1 with q | ⟨j,_,bn,e8⟩
  ·exfalso;have:=Bk h (amz t.code.length);unfold iT at this;injection this with this;rw[<-this]at q;cases q
  obtain⟨_,_,_,_,S,_⟩:=qj h (show j<t.code.length by omega);have:=(S.bars b e8).aI;rw[aE]at this;have e:k=j:=by have:(k:Int)=(j:Int):=this;omega
  rw[e];exact e8
 rw[hm]at h2;rcases amA.1 h2 with q | q
 ·exact q
 have:=aZ b q;omega
theorem D3{k:Nat}(hk:k<t.code.length){s' s:b6}{p mO:Nat}{x:eL}(b8:Rd (jj t k) (fg t k) s' mO)(he:s'.J=s.J++[x])(hx:x.aI=(k:Int)/\x.place=(p:Int)): nI (al t) k p=fst t k+s.J.length/\s.J.length<(ho t k).J.length/\bf (al t) (fst t k+s.J.length)=x:=by
 obtain⟨m,hm⟩:=KN h hk b8;rw[he]at hm;have aB:s.J.length<(ho t k).J.length:=by rw[hm];simp
 obtain⟨h1,h2⟩:=uH h hk aB;have h3:(ho t k).J.getD s.J.length default=x:=by rw[hm,kA (by simp),oS]
 rw[h3]at h2;have hP:=jv h;refine⟨?_,aB,h2⟩;unfold nI;refine Xw h1 ?_ λj ad=>?_
 ·unfold s5;rw[show(al t).J.getD _ default=x from h2,hx.1,hx.2,amq rfl,amq rfl];rfl
 have:=D4 hP ad h1;rw[h2,hx.1,hx.2]at this;unfold jh at this;unfold s5;rw[amr,ami,amj,amj,amj]at this;rw[amx,amu,amu];unfold bf at this;omega
end
def nC(m:cu):cv:=⟨m.br,m.co⟩
def lF(cg:a1)(e:Nat):qn:=⟨(bf cg e).loc,(bf cg e).value,(e:Int)⟩
def rD(cg:a1)(l:Nat)(x:Int):Int:=if x<0 then cg.init.getD l default else(bf cg x.toNat).value
theorem HB(l:List Int)(x:Int):lh (l++[x])=x:=by unfold lh;rw[amn (by simp),ams,anr,Nat.add_sub_cancel,oS]
theorem W7{l m:List Int}(h:¬m=[]):lh (l++m)=lh m:=by have hm:¬m.length=0:=λq=>h (amO q);unfold lh;rw[amn (by rw[ams];omega),amn hm,ams,tZ (by omega),show l.length+m.length-1-l.length=m.length-1 by omega]
theorem DU(t:a1)(o xh:List Nat)(k:Int):fP t (o++xh) k=fP t o k++fP t xh k:=by unfold fP ints;rw[<-ane,<-anc]
theorem Nv(t:a1)(e:Nat)(k:Int):fP t [e] k=if n0 t k e=true then [(e:Int)]else []:=by unfold fP ints;rw[List.filter_cons];cases n0 t k e<;>rfl
theorem Wz{t:a1}{o:List Nat}{k:Int}:fP t o k=[]↔∀e,e∈o->(bf t e).dir=2->¬(bf t e).loc=k:=by
 constructor
 ·intro h e he hd aB;have:(e:Int)∈fP t o k:=yF.2 ⟨e,he,rfl,hd,aB⟩;rw[h]at this;cases this
 intro h;refine List.eq_nil_iff_forall_not_mem.2 λx hx=>?_;obtain⟨i,hi,_,hd,aB⟩:=yF.1 hx;exact h i hi hd aB
theorem Lq{α:Type}{l p q:List α}{x a:α}(h:l++[x]=p++a::q):(p=l/\a=x/\q=[])\/∃q',q=q'++[x]/\l=p++a::q':=by
 rcases List.eq_nil_or_concat q with rfl | ⟨q',y,rfl⟩
 ·obtain⟨h1,h2⟩:=List.append_inj' h rfl;injection h2 with h2;exact .inl ⟨h1.symm,h2.symm,rfl⟩
 rw[List.concat_eq_append]at h⊢;rw[show p++a::(q'++[y])=(p++a::q')++[y] by simp]at h;obtain⟨h1,h2⟩:=List.append_inj' h rfl;injection h2 with h2;exact .inr ⟨q',by rw[h2],h1⟩
theorem aiE{cg:a1}{l:List Nat}{k:Nat}(hd:∀e,e∈l->(bf cg e).dir=2): (pf (l.map (lF cg)) k=none/\fP cg l k=[])\/∃e:Nat,e∈l/\pf (l.map (lF cg)) k=some (lF cg e)/\¬fP cg l k=[]/\lh (fP cg l k)=(e:Int):=by
 have key:∀r:List Nat,(∀e,e∈r->(bf cg e).dir=2)->(pf (r.reverse.map (lF cg)) k=none/\fP cg r.reverse k=[])\/∃e:Nat,e∈r/\pf (r.reverse.map (lF cg)) k=some (lF cg e)/\¬fP cg r.reverse k=[]/\lh (fP cg r.reverse k)=(e:Int):=by
  intro r
  induction r with
  | nil=>intro _;exact .inl ⟨rfl,rfl⟩
  | cons e r bH=>
   intro aH;have h1:fP cg (e::r).reverse k=fP cg r.reverse k++if n0 cg k e=true then [(e:Int)]else []:=by rw[List.reverse_cons,DU,Nv]
   have h2:pf ((e::r).reverse.map (lF cg)) k=if(bf cg e).loc=(k:Int)then some (lF cg e)else pf (r.reverse.map (lF cg)) k:=by
    unfold pf;rw[<-List.map_reverse,<-List.map_reverse,List.reverse_reverse,List.reverse_reverse,am8,List.find?_cons];by_cases q:(bf cg e).loc=(k:Int)
    ·rw[amo q,show decide ((lF cg e).loc=(k:Int))=true from amq q]
    rw[amn q,show decide ((lF cg e).loc=(k:Int))=false from amy q]
   have hw:n0 cg k e=decide ((bf cg e).loc=(k:Int)):=by unfold n0;rw[show decide ((cg.J.getD e default).dir=2)=true from amq (aH e aL),anA]
   rw[h1,h2,hw];by_cases q:(bf cg e).loc=(k:Int)
   ·rw[amo q,amq q,amo rfl];exact .inr ⟨e,.head _,rfl,by simp,HB _ _⟩
   rw[amn q,amy q,amn (by simp),amB];rcases bH λx hx=>aH x (.tail _ hx)with h | ⟨x,hx,h⟩
   ·exact .inl h
   exact .inr ⟨x,.tail _ hx,h⟩
 have:=key l.reverse λe he=>hd e (List.mem_reverse.1 he);rw[List.reverse_reverse]at this;rcases this with h | ⟨e,he,h⟩
 ·exact .inl h
 exact .inr ⟨e,List.mem_reverse.1 he,h⟩
def Va(cg:a1)(m:cu)(p:List Nat)(r:Nat):Prop:=∃dc:List Nat,dc.Pairwise (· <·)/\(∀w,w∈dc↔w<cg.J.length/\(bf cg w).dir=2/\dK cg w r=true/\w∉p)/\m.br.getD r default=lh (fP cg (p++dc) (bf cg r).loc)
structure tN(t:aM)(m:cu)(b:List Nat)(k:Nat)(s:b6):Prop where
 rd:Rd (jj t k) (fg t k) s (m.av.getD k default).at'
 tm:nz (λi=>mQ (al t) (nC m) (fst t k+i)) s (m.av.getD k default)
 done:∀i,i<(ho t k).J.length->m.done.getD (fst t k+i) default=decide (i<s.J.length)
 bars:∀x,x∈s.bars->∀w,w∈b->(bf (al t) w).place<x.place->qg x.dE 2 1=false
structure kt(t:aM)(m:cu)(log:List Nat)(b:Nat->List Nat):Prop where
 la:m.av.length=t.code.length
 mw:m.cT.length=t.code.length
 oN:m.done.length=(al t).J.length
 rfl':m.br.length=(al t).J.length
 nE:m.co.length=(al t).bb.length
 ns:m.mem.length=(al t).bb.length
 p9:m.last.length=(al t).bb.length
 av:∀k,k<t.code.length->∃s,tN t m (b k) k s
 buf:∀k,k<t.code.length->m.cT.getD k default=(b k).map (lF (al t))
 jB:∀k,k<t.code.length->∀w,w∈b k↔w<(al t).J.length/\(bf (al t) w).aI=(k:Int)/\(bf (al t) w).dir=2/\m.done.getD w default=true/\w∉log
 pq:∀k,k<t.code.length->(b k).Pairwise (· <·)
 ow:log.Nodup
 lr:∀e,e∈log->e<(al t).J.length/\m.done.getD e default=true
 o5:∀e,e<(al t).J.length->m.done.getD e default=true->(bf (al t) e).dir=1->e∈log
 pre:∀p q a,log=p++a::q->∀e,e<(al t).J.length->nu (al t) e a=true->e∈p
 co:∀l,l<(al t).bb.length->m.co.getD l default=fP (al t) log l
 last:∀l,l<(al t).bb.length->m.last.getD l default=lh (fP (al t) log l)
 mem:∀l,l<(al t).bb.length->m.mem.getD l default=rD (al t) l (lh (fP (al t) log l))
 rd:∀p q r,log=p++r::q->(bf (al t) r).dir=1->Va (al t) m p r
 ru:∀e,e<(al t).J.length->(bf (al t) e).dir=2\/e∉log->m.br.getD e default= -1
structure y9(t:aM)(m m':cu)(k e:Nat):Prop where
 iZ:e<(al t).J.length
 bu:(bf (al t) e).aI=(k:Int)
 Au:∀a,a<(al t).J.length->(bf (al t) a).aI=(k:Int)->m.done.getD a default=decide (a<e)
 dA:m'.done=m.done.set e true
 up:∃x,m'.av=m.av.set k x/\x.at'=(m.av.getD k default).at'+1
def uN(b:Nat->List Nat)(k:Nat)(l:List Nat):Nat->List Nat:=λj=>if j=k then l else b j
theorem uO(b:Nat->List Nat)(k:Nat)(l:List Nat):uN b k l k=l:=amo rfl
theorem uP(b:Nat->List Nat){k j:Nat}(l:List Nat)(h:¬j=k):uN b k l j=b j:=amn h
theorem ae2{cg:a1}{c:cv}{e:Nat}(h:(bf cg e).dir=2):mQ cg c e=(bf cg e).value:=amo h
theorem ae1{cg:a1}{c:cv}{e l:Nat}(h:(bf cg e).dir=1)(aB:(bf cg e).loc=(l:Int)):mQ cg c e=rD cg l (c.br.getD e default):=by unfold mQ rD;rw[amn (show ¬(cg.J.getD e default).dir=2 from λq=>by have:(bf cg e).dir=2:=q;omega),show(cg.J.getD e default).loc=(l:Int)from aB,amw]
theorem SD{cg:a1}{c xF:cv}{e:Nat}(h:xF.br.getD e default=c.br.getD e default):mQ cg xF e=mQ cg c e:=by unfold mQ;rw[h]
theorem ahO{cg:a1}(h:gL cg=true){l:Nat}(aB:l<cg.bb.length){x:Int}(hx:x<cg.J.length):eJ (rD cg l x)=true:=by
 unfold rD;split
 ·simp only[gL,ami,o4,fX,amj]at h;have h1:=h.1.1.1.1.1.1.2 l aB;simp only[yC,ami]at h1;exact h1.2
 have o0:x.toNat<cg.J.length:=by omega
 simp only[gL,ami,oP,fX,amj]at h;have h1:=h.1.1.1.1.1.2.2 x.toNat o0;simp only[pY,ami]at h1;have h2:=h1.1;simp only[vg,ami]at h2;exact h2.1.1.1.2
theorem ahb{t:aM}(G:ir t)(k:Nat)(fV:Nat->Int):nz fV (fg t k) ⟨yt t k,0⟩:=by
 have key:∀(l:List l0) (r:List eD) (v:List dY),(∀x,x∈l->x∈t.init)->v.length=r.length->(∀i,i<r.length->k8 fV (r.getD i default).has (v.getD i default))-> (l.foldl (λl x=>if x.aI=(k:Int)then l.set x.bq.toNat x.value else l) v).length=(l.foldl (λl x=>if x.aI=(k:Int)then l.set x.bq.toNat (oq x)else l) r).length/\ ∀i,i<(l.foldl (λl x=>if x.aI=(k:Int)then l.set x.bq.toNat (oq x)else l) r).length->k8 fV ((l.foldl (λl x=>if x.aI=(k:Int)then l.set x.bq.toNat (oq x)else l) r).getD i default).has ((l.foldl (λl x=>if x.aI=(k:Int)then l.set x.bq.toNat x.value else l) v).getD i default):=by
  intro l
  induction l with
  | nil=>intro r v _ h1 h2;exact⟨h1,h2⟩
  | cons x l bH=>
   intro r v aB h1 h2;rw[anJ,anJ];split
   ·rename_i e;refine bH _ _ (λy aR=>aB y (.tail _ aR)) (by rw[amQ,amQ];exact h1) λi hi=>?_;rw[amQ]at hi;rw[fL,fL,h1];split
    ·obtain⟨_,_,_,_,_,cM⟩:=G.vI (aB x aL) (by omega);unfold oq;rcases aw:x.value with⟨Uq,alL⟩;rw[aw]at cM;rcases cM with⟨cq,_⟩ | ⟨cq,bn,_⟩
     ·simp only at cq⊢;rw[amo cq,cq];rfl
     simp only at cq bn⊢;rw[amn cq,bn];rfl
    exact h2 i hi
   exact bH _ _ (λy aR=>aB y (.tail _ aR)) h1 h2
 refine(λq=>⟨q.1,q.2⟩) (key t.init (List.replicate (b3 t.az) ⟨.num 0,0#64⟩) (List.replicate (b3 t.az) gF) (λ_ q=>q) (by simp) λi hi=>?_);rw[amS]at hi;rw[aml,aml,anb,anb,amo hi,amo hi];rfl
theorem BI{α:Type}[Inhabited α]{n i:Nat}{x:α}(hi:i<n):(List.replicate n x).getD i default=x:=by rw[aml,anb,amo hi];rfl
theorem W8{cg:a1}{o:List Nat}{k:Int}(h:∀e,e∈o->e<cg.J.length):lh (fP cg o k)<cg.J.length:=by
 by_cases q:(fP cg o k).length=0
 ·unfold lh;rw[amo q];omega
 obtain⟨i,hi,e,_⟩:=yF.1 (D1 q);have:=h i hi;omega
section
variable {t:aM} (h:du t=0)
include h
theorem lq:(al t).bb=b2 t:=by rw[uM h]
theorem adn{k i e:Nat}(hk:k<t.code.length)(hi:i<(ho t k).J.length)(he:e<(al t).J.length):dK (al t) e (fst t k+i)=true↔∃j,j<i/\e=fst t k+j:=by
 have ag:=wh h hk hi;rw[qI (jv h) he (uH h hk hi).1,ami,amj];unfold eV.ik;rw[amj,ag];constructor
 ·rintro⟨h1,h2⟩;obtain⟨j,ad,rfl⟩:=Fe h hk he h2;exact⟨j,by omega,rfl⟩
 rintro⟨j,ad,rfl⟩;exact⟨by omega,wh h hk (by omega)⟩
theorem aci:kt t (iO t (al t)) [] λ_=>[]:=by
 have G:=kf h;have nk:∀k,k<t.code.length->(iO t (al t)).av.getD k default=⟨yt t k,0⟩:=λk hk=>s7 hk;have kT:∀e,e<(al t).J.length->(iO t (al t)).done.getD e default=false:=λe he=>BI he;refine{la:=by simp[iO],mw:=by simp[iO],oN:=by simp[iO],rfl':=by simp[iO],nE:=by simp[iO],ns:=z7 (jv h),p9:=by simp[iO],av:=λk hk=>⟨fg t k,?_⟩,buf:=λk hk=>BI hk,jB:=?_,pq:=λ_ _=>List.Pairwise.nil,ow:=List.nodup_nil,lr:=λ_ q=>(by cases q),o5:=?_,pre:=?_,co:=λl aB=>BI aB,last:=λl aB=>BI aB,mem:=λl _=>rfl,rd:=?_,ru:=λe he _=>BI he}
 ·refine⟨?_,?_,?_,λ_ q=>(by cases q)⟩
  ·rw[nk k hk];exact .zero
  ·rw[nk k hk];exact ahb G k _
  intro i hi;rw[kT _ (uH h hk hi).1];rfl
 ·intro k hk w;constructor
  ·intro q;cases q
  rintro⟨cq,_,_,bn,_⟩;rw[kT w cq]at bn;cases bn
 ·intro e he q;rw[kT e he]at q;cases q
 ·intro p q a e;exact absurd e (by simp)
 intro p q a e;exact absurd e (by simp)
end
theorem tN.keep{t:aM}(h:du t=0){m m':cu}{b ky:List Nat}{j:Nat}{s:b6}(ad:j<t.code.length)(T:tN t m b j s)(h1:m'.av.getD j default=m.av.getD j default)(h2:∀i,i<(ho t j).J.length->m'.br.getD (fst t j+i) default=m.br.getD (fst t j+i) default)(h3:∀i,i<(ho t j).J.length->m'.done.getD (fst t j+i) default=m.done.getD (fst t j+i) default)(aC:∀w,w∈ky->w∈b):tN t m' ky j s:=by
 obtain⟨C,h0,_⟩:=qj h ad;obtain⟨acp,hm⟩:=KN h ad T.rd;have hle:s.J.length<=(ho t j).J.length:=by rw[hm,ams];omega
 refine⟨by rw[h1];exact T.rd,?_,λi hi=>by rw[h3 i hi];exact T.done i hi,λx hx w hw=>T.bars x hx w (aC w hw)⟩;rw[h1];exact T.tm.Ht (T.rd.ok C h0) λi hi=>SD (h2 i (by omega))
theorem Db{t:aM}(h:du t=0){m:cu}{b:List Nat}{k:Nat}{s:b6}(hk:k<t.code.length)(T:tN t m b k s){a:Nat}(au:a<(al t).J.length)(aE:(bf (al t) a).aI=(k:Int)):m.done.getD a default=decide (a<fst t k+s.J.length):=by
 obtain⟨i,hi,rfl⟩:=Fe h hk au aE;rw[T.done i hi];by_cases q:i<s.J.length
 ·rw[amq q,amq (by omega)]
 rw[amy q,amy (by omega)]
theorem kt.read{t:aM}{m:cu}{log:List Nat}{b:Nat->List Nat}(M:kt t m log b){k:Nat}(hk:k<t.code.length){l:Nat}(aB:l<(al t).bb.length): mP m k l=(rD (al t) l (lh (fP (al t) (log++b k) l)),lh (fP (al t) (log++b k) l)):=by
 unfold mP;rw[M.buf k hk,DU];rcases aiE (l:=b k) (k:=l) (λe he=>((M.jB k hk e).1 he).2.2.1)with⟨tH,Ds⟩ | ⟨x,hx,tH,Ds,Dt⟩
 ·rw[tH,Ds,amB];dsimp only;rw[M.mem l aB,M.last l aB]
 rw[tH,W7 Ds,Dt];unfold rD;rw[amn (by omega),amw];rfl
theorem Kw{cg:a1}{p:Nat->Nat->Bool}{log:List Nat}{x:Nat}(h:∀mO q a,log=mO++a::q->∀e,e<cg.J.length->p e a=true->e∈mO)(hx:∀e,e<cg.J.length->p e x=true->e∈log):∀mO q a,log++[x]=mO++a::q->∀e,e<cg.J.length->p e a=true->e∈mO:=by
 intro mO q a e;rcases Lq e with⟨rfl,rfl,_⟩ | ⟨q',_,e'⟩
 ·exact hx
 exact h mO q' a e'
theorem Hs{cg:a1}{log:List Nat}{x:Nat}(hx:(bf cg x).dir=1)(k:Int):fP cg (log++[x]) k=fP cg log k:=by rw[DU,(Wz (o:=[x])).2 (λe he hd=>by rw[amv]at he;subst he;omega),amB]
theorem agJ{t:aM}(h:du t=0)(buf:Bool){m:cu}{log:List Nat}{b:Nat->List Nat}(M:kt t m log b){k:Nat}(hk:k<t.code.length){s:b6}(T:tN t m (b k) k s)(dO:(m.av.getD k default).at'<(cj t k).length){loc:ByteArray}{r:Int}(c4:(stepT t k (m.av.getD k default)).2=.rd loc r): y9 t m (eK t (al t) buf m k) k (fst t k+s.J.length)/\(bf (al t) (fst t k+s.J.length)).dir=1/\kt t (eK t (al t) buf m k) (log++[fst t k+s.J.length]) b:=by
 have hP:=jv h;obtain⟨c3,kl⟩:=(mT h hk).1;obtain⟨C,h0,_⟩:=qj h hk;have ct:=AU (kf h) hk kl T.rd T.tm dO;unfold pk at ct;rw[c4]at ct;obtain⟨ni,zC,s',l8,he,e1,xY⟩:=ct;obtain⟨cq,bn,e8⟩:=D3 h hk l8 he ⟨rfl,rfl⟩;have eI:=(uH h hk bn).1;have kT:=λa au aE=>Db h hk T (a:=a) au aE;have zO:s'.J.length=s.J.length+1:=by rw[he,ams];rfl
 have Zq:=λa au=>adn h hk bn (e:=a) au;generalize aB:fst t k+s.J.length=e at *;have dj:(bf (al t) e).aI=(k:Int):=by rw[e8];rfl
 have pz:(bf (al t) e).dir=1:=by rw[e8];rfl
 have IK:(bf (al t) e).loc=((dp (b2 t) loc:Nat):Int):=by rw[e8];rfl
 have dn:dp (b2 t) loc<(al t).bb.length:=by rw[lq h];exact qb ni
 have mB:m.done.getD e default=false:=by rw[kT e eI dj,amy (aow _)]
 have ln:e∉log:=λq=>by have:=(M.lr e q).2;rw[mB]at this;cases this
 have PH:=M.read hk dn;generalize cP:lh (fP (al t) (log++b k) (dp (b2 t) loc:Nat))=E at PH;have XY:E<(al t).J.length:=by
  rw[<-cP];refine W8 λx hx=>?_;rcases amA.1 hx with q | q
  ·exact(M.lr x q).1
  exact((M.jB k hk x).1 q).1
 have ki:eK t (al t) buf m k={m with av:=m.av.set k ⟨fD t.az (stepT t k (m.av.getD k default)).1.ah r ⟨a8,rD (al t) (dp (b2 t) loc) E⟩,(m.av.getD k default).at'+1⟩,br:=m.br.set e E,done:=m.done.set e true}:=by unfold eK;dsimp only;rw[c4];dsimp only;rw[cq,lq h,PH,zC]
 rw[ki];refine⟨⟨eI,dj,kT,rfl,⟨_,rfl,rfl⟩⟩,pz,?_⟩;have p5:∀a,a≠e->(m.br.set e E).getD a default=m.br.getD a default:=λa au=>by rw[fL,amn λq=>au q.1.symm]
 have PI:(m.br.set e E).getD e default=E:=by rw[fL,amo ⟨rfl,by rw[M.rfl'];exact eI⟩]
 have rY:∀a,a≠e->(m.done.set e true).getD a default=m.done.getD a default:=λa au=>by rw[fL,amn λq=>au q.1.symm]
 have x5:(m.done.set e true).getD e default=true:=by rw[fL,amo ⟨rfl,by rw[M.oN];exact eI⟩]
 have wY:∀a,m.done.getD a default=true->(m.done.set e true).getD a default=true:=λa au=>by
  by_cases q:a=e
  ·rw[q];exact x5
  rw[rY a q];exact au
 have qA:∀a,a<(al t).J.length->dK (al t) a e=true->m.done.getD a default=true/\(bf (al t) a).aI=(k:Int):=λa au hp=>by
  have Cf:(bf (al t) a).aI=(k:Int):=by unfold dK eV.ik at hp;rw[ami,amj]at hp;rw[hp.1];exact dj
  obtain⟨j,ad,Pg⟩:=(Zq a au).1 hp;refine⟨?_,Cf⟩;rw[kT a au Cf];exact amq (by omega)
 refine{la:=by rw[amQ];exact M.la,mw:=M.mw,oN:=by rw[amQ];exact M.oN,rfl':=by rw[amQ];exact M.rfl',nE:=M.nE,ns:=M.ns,p9:=M.p9,av:=λj ad=>?_,buf:=M.buf,jB:=λj ad w=>?_,pq:=M.pq,ow:=?_,lr:=λa au=>?_,o5:=λa au hd j1=>?_,pre:=Kw M.pre λa au hp=>?_,co:=λq aZ=>by rw[Hs pz];exact M.co q aZ,last:=λq aZ=>by rw[Hs pz];exact M.last q aZ,mem:=λq aZ=>by rw[Hs pz];exact M.mem q aZ,rd:=λp q a HE j1=>?_,ru:=λa au j1=>?_}
 ·by_cases fM:j=k
  ·subst fM;have ay:(m.av.set j ⟨fD t.az (stepT t j (m.av.getD j default)).1.ah r ⟨a8,rD (al t) (dp (b2 t) loc) E⟩,(m.av.getD j default).at'+1⟩).getD j default=⟨fD t.az (stepT t j (m.av.getD j default)).1.ah r ⟨a8,rD (al t) (dp (b2 t) loc) E⟩,(m.av.getD j default).at'+1⟩:=by rw[fL,amo ⟨rfl,by rw[M.la];exact ad⟩]
   refine⟨s',?_,?_,λi hi=>?_,λx hx w hw=>T.bars x (e1▸hx) w hw⟩
   ·dsimp only;rw[ay];exact l8
   ·dsimp only;rw[ay];refine(xY _ (ahO hP dn XY)).Ht (l8.ok C h0) λi hi=>?_;dsimp only;by_cases q:i=s.J.length
    ·rw[amo q,q,aB,ae1 pz IK];show rD _ _ ((m.br.set e E).getD e default)=_;rw[PI]
    rw[amn q];exact SD (p5 _ (by omega))
   dsimp only;rw[zO];by_cases q:i=s.J.length
   ·rw[q,aB,x5,amq (anF _)]
   rw[rY _ (by omega),T.done i hi];by_cases bn:i<s.J.length
   ·rw[amq bn,amq (by omega)]
   rw[amy bn,amy (by omega)]
  obtain⟨xp,rL⟩:=M.av j ad;have dC:∀i,i<(ho t j).J.length->fst t j+i≠e:=λi hi q=>by have:=wh h ad hi;rw[q,dj]at this;omega
  exact⟨xp,rL.keep h ad (by dsimp only;rw[fL,amn λq=>fM q.1.symm]) (λi hi=>p5 _ (dC i hi)) (λi hi=>rY _ (dC i hi)) λ_ q=>q⟩
 ·rw[M.jB j ad w];dsimp only;constructor
  ·rintro⟨dG,a2,a3,a4,a5⟩;exact⟨dG,a2,a3,wY w a4,λq=>(amA.1 q).elim a5 λq=>by rw[amv]at q;subst q;omega⟩
  rintro⟨dG,a2,a3,a4,a5⟩;have Jn:w≠e:=λq=>by subst q;omega
  rw[rY w Jn]at a4;exact⟨dG,a2,a3,a4,λq=>a5 (amA.2 (.inl q))⟩
 ·rw[aoW];exact⟨M.ow,List.pairwise_singleton _ _,λa au c ai=>by rw[amv]at ai;subst ai;exact λq=>ln (q▸au)⟩
 ·rcases amA.1 au with q | q
  ·exact⟨(M.lr a q).1,wY a (M.lr a q).2⟩
  rw[amv]at q;subst q;exact⟨eI,x5⟩
 ·rw[amA];by_cases q:a=e
  ·exact .inr (by rw[q];exact amv.2 rfl)
  exact .inl (M.o5 a au (by rw[<-rY a q];exact hd) j1)
 ·
  unfold nu at hp;rw[ami,amr,amk]at hp;obtain⟨yh,ti⟩:=hp;obtain⟨j1,Cf⟩:=qA a au yh;rcases mU hP au with hd | hd
  ·exact M.o5 a au j1 hd
  have hf:=ti.resolve_left (by unfold o3;rw[hd,pz];decide);unfold vi at hf;rw[ami]at hf;obtain⟨x,hx,hb⟩:=anl.1 hf.2;unfold zd at hb;simp only[ami,amj]at hb;obtain⟨⟨⟨hJ,dy⟩,dR⟩,cO⟩:=hb;have hxs:x∈s.bars:=aeW h hk T.rd hx (by rw[hJ];exact Cf) (by rw[e8]at dR;exact dR);refine amT λe7=>?_;have:=T.bars x hxs a ((M.jB k hk a).2 ⟨au,Cf,hd,j1,e7⟩) dy;rw[hd,pz,this]at cO;cases cO
 ·rcases Lq HE with⟨rfl,rfl,_⟩ | ⟨q',_,e'⟩
  ·refine⟨b k,M.pq k hk,λw=>?_,?_⟩
   ·rw[M.jB k hk w];constructor
    ·rintro⟨dG,a2,a3,a4,a5⟩;refine⟨dG,a3,?_,a5⟩;rw[qI hP dG eI,ami,amj];unfold eV.ik;rw[amj,a2,dj];rw[kT w dG a2,amj]at a4;exact⟨a4,rfl⟩
    rintro⟨dG,a3,a4,a5⟩;obtain⟨c1,c2⟩:=qA w dG a4;exact⟨dG,c2,a3,c1,a5⟩
   dsimp only;rw[PI,IK,cP]
  obtain⟨dc,c1,c2,zg⟩:=M.rd p q' a e' j1;refine⟨dc,c1,c2,?_⟩;dsimp only;rw[p5 a λq=>ln (by rw[<-q,e'];simp),zg]
 dsimp only;by_cases q:a=e
 ·subst q;exact absurd j1 λq=>q.elim (λq=>by omega) λq=>q (amA.2 (.inr (amv.2 rfl)))
 rw[p5 a q];exact M.ru a au (j1.imp id λbn e8=>bn (amA.2 (.inl e8)))
theorem agK{t:aM}(h:du t=0){m:cu}{log:List Nat}{b:Nat->List Nat}(M:kt t m log b){k:Nat}(hk:k<t.code.length){s:b6}(T:tN t m (b k) k s)(dO:(m.av.getD k default).at'<(cj t k).length){loc:ByteArray}{v:Int}(c4:(stepT t k (m.av.getD k default)).2=.wr loc v): y9 t m (eK t (al t) true m k) k (fst t k+s.J.length)/\(bf (al t) (fst t k+s.J.length)).dir=2/\kt t (eK t (al t) true m k) log (uN b k (b k++[fst t k+s.J.length]))/\ ∀l,l=(bf (al t) (fst t k+s.J.length)).loc.toNat->m.cT.getD k default=[]->eK t (al t) false m k={j0 (eK t (al t) true m k) k with cT:=m.cT}:=by
 have hP:=jv h;obtain⟨c3,kl⟩:=(mT h hk).1;obtain⟨C,h0,_⟩:=qj h hk;have ct:=AU (kf h) hk kl T.rd T.tm dO;unfold pk at ct;rw[c4]at ct;obtain⟨ni,zC,aw,s',l8,he,e1,xY⟩:=ct;obtain⟨cq,bn,e8⟩:=D3 h hk l8 he ⟨rfl,rfl⟩;have eI:=(uH h hk bn).1;have kT:=λa au aE=>Db h hk T (a:=a) au aE;have zO:s'.J.length=s.J.length+1:=by rw[he,ams];rfl
 generalize aB:fst t k+s.J.length=e at *;have dj:(bf (al t) e).aI=(k:Int):=by rw[e8];rfl
 have pz:(bf (al t) e).dir=2:=by rw[e8];rfl
 have kC:(bf (al t) e).place=((m.av.getD k default).at':Int):=by rw[e8];rfl
 have IK:(bf (al t) e).loc=((dp (b2 t) loc:Nat):Int):=by rw[e8];rfl
 have hw:lF (al t) e=⟨((dp (b2 t) loc:Nat):Int),v,(e:Int)⟩:=by unfold lF;rw[e8];rfl
 have mB:m.done.getD e default=false:=by rw[kT e eI dj,amy (aow _)]
 have ln:e∉log:=λq=>by have:=(M.lr e q).2;rw[mB]at this;cases this
 have ki:eK t (al t) true m k={m with av:=m.av.set k (stepT t k (m.av.getD k default)).1,done:=m.done.set e true,cT:=m.cT.set k (m.cT.getD k default++[lF (al t) e])}:=by unfold eK;dsimp only;rw[c4];dsimp only;rw[cq,lq h,amo rfl,hw]
 have rY:∀a,a≠e->(m.done.set e true).getD a default=m.done.getD a default:=λa au=>by rw[fL,amn λq=>au q.1.symm]
 have x5:(m.done.set e true).getD e default=true:=by rw[fL,amo ⟨rfl,by rw[M.oN];exact eI⟩]
 have wY:∀a,m.done.getD a default=true->(m.done.set e true).getD a default=true:=λa au=>by
  by_cases q:a=e
  ·rw[q];exact x5
  rw[rY a q];exact au
 have ct:=T.rd.ok C h0;refine⟨?_,pz,?_,?_⟩
 ·rw[ki];exact⟨eI,dj,kT,rfl,⟨_,rfl,zC⟩⟩
 ·rw[ki];refine{la:=by rw[amQ];exact M.la,mw:=by rw[amQ];exact M.mw,oN:=by rw[amQ];exact M.oN,rfl':=M.rfl',nE:=M.nE,ns:=M.ns,p9:=M.p9,av:=λj ad=>?_,buf:=λj ad=>?_,jB:=λj ad w=>?_,pq:=λj ad=>?_,ow:=M.ow,lr:=λa au=>⟨(M.lr a au).1,wY a (M.lr a au).2⟩,o5:=λa au hd j1=>?_,pre:=M.pre,co:=M.co,last:=M.last,mem:=M.mem,rd:=M.rd,ru:=M.ru}
  ·by_cases fM:j=k
   ·subst fM;have ay:(m.av.set j (stepT t j (m.av.getD j default)).1).getD j default=(stepT t j (m.av.getD j default)).1:=by rw[fL,amo ⟨rfl,by rw[M.la];exact ad⟩]
    refine⟨s',?_,?_,λi hi=>?_,λx hx w hw=>?_⟩
    ·dsimp only;rw[ay,zC];exact l8
    ·dsimp only;rw[ay];exact xY
    ·dsimp only;rw[zO];by_cases q:i=s.J.length
     ·rw[q,aB,x5,amq (anF _)]
     rw[rY _ (by omega),T.done i hi];by_cases bn:i<s.J.length
     ·rw[amq bn,amq (by omega)]
     rw[amy bn,amy (by omega)]
    rw[uO]at hw;rw[e1]at hx;rcases amA.1 hw with q | q
    ·exact T.bars x hx w q
    rw[amv]at q;subst q;intro dn;have:=(ct.bars x hx).place.2;omega
   obtain⟨xp,rL⟩:=M.av j ad;have dC:∀i,i<(ho t j).J.length->fst t j+i≠e:=λi hi q=>by have:=wh h ad hi;rw[q,dj]at this;omega
   exact⟨xp,rL.keep h ad (by dsimp only;rw[fL,amn λq=>fM q.1.symm]) (λi hi=>rfl) (λi hi=>rY _ (dC i hi)) λw q=>by rwa[uP _ _ fM]at q⟩
  ·dsimp only;by_cases fM:j=k
   ·subst fM;rw[uO,fL,amo ⟨rfl,by rw[M.mw];exact ad⟩,M.buf j ad,ane];rfl
   rw[uP _ _ fM,fL,amn λq=>fM q.1.symm,M.buf j ad]
  ·dsimp only;by_cases fM:j=k
   ·subst fM;rw[uO,amA,M.jB j ad w,amv];constructor
    ·rintro(⟨dG,a2,a3,a4,a5⟩ | rfl)
     ·exact⟨dG,a2,a3,wY w a4,a5⟩
     exact⟨eI,dj,pz,x5,ln⟩
    rintro⟨dG,a2,a3,a4,a5⟩;by_cases q:w=e
    ·exact .inr q
    rw[rY w q]at a4;exact .inl ⟨dG,a2,a3,a4,a5⟩
   rw[uP _ _ fM,M.jB j ad w];have Jn:(bf (al t) w).aI=(j:Int)->w≠e:=λcq bn=>by rw[bn,dj]at cq;omega
   constructor
   ·rintro⟨dG,a2,a3,a4,a5⟩;exact⟨dG,a2,a3,wY w a4,a5⟩
   rintro⟨dG,a2,a3,a4,a5⟩;rw[rY w (Jn a2)]at a4;exact⟨dG,a2,a3,a4,a5⟩
  ·by_cases fM:j=k
   ·subst fM;rw[uO,ano];refine⟨M.pq j ad,List.pairwise_singleton _ _,λa au c ai=>?_⟩;rw[amv]at ai;subst ai;obtain⟨dG,a2,_,a4,_⟩:=(M.jB j ad a).1 au;rw[kT a dG a2,amj]at a4;exact a4
   rw[uP _ _ fM];exact M.pq j ad
  have x0:a≠e:=λq=>by subst q;omega
  exact M.o5 a au (by rw[<-rY a x0];exact hd) j1
 intro l _ tb;rw[ki,tb];unfold eK j0;dsimp only;rw[c4];dsimp only;rw[cq,lq h,amn (by simp),fL,amo ⟨rfl,by rw[M.mw];exact hk⟩,hw];rfl
theorem TM{t:aM}(h:du t=0)(buf:Bool){m:cu}{log:List Nat}{b:Nat->List Nat}(M:kt t m log b){k:Nat}(hk:k<t.code.length){s:b6}(T:tN t m (b k) k s)(ai:kR t m k=true)(c4:(stepT t k (m.av.getD k default)).2=.no\/∃f,(stepT t k (m.av.getD k default)).2=.oQ f): (eK t (al t) buf m k).done=m.done/\(∃x,(eK t (al t) buf m k).av=m.av.set k x/\(m.av.getD k default).at'<x.at'/\x.at'<=(cj t k).length)/\kt t (eK t (al t) buf m k) log b:=by
 obtain⟨c3,kl⟩:=(mT h hk).1;unfold kR at ai;rw[ami,amj,amk]at ai;obtain⟨dO,yo⟩:=ai;have ct:=AU (kf h) hk kl T.rd T.tm dO;have ki:eK t (al t) buf m k={m with av:=m.av.set k (stepT t k (m.av.getD k default)).1}:=by unfold eK;dsimp only;rcases c4 with e | ⟨f,e⟩<;>rw[e]
 have key:(m.av.getD k default).at'<(stepT t k (m.av.getD k default)).1.at'/\(stepT t k (m.av.getD k default)).1.at'<=(cj t k).length/\∃s',Rd (jj t k) (fg t k) s' (stepT t k (m.av.getD k default)).1.at'/\s'.J=s.J/\(∀x,x∈s'.bars->∀w,w∈b k->(bf (al t) w).place<x.place->qg x.dE 2 1=false)/\nz (λi=>mQ (al t) (nC m) (fst t k+i)) s' (stepT t k (m.av.getD k default)).1:=by
  unfold pk at ct;rcases c4 with e | ⟨f,e⟩
  ·rw[e]at ct;obtain⟨g1,g2,s',g3,g4,g5,g6⟩:=ct;exact⟨g1,g2,s',g3,g4,λx hx=>T.bars x (g5▸hx),g6⟩
  rw[e]at ct;obtain⟨g1,g2,HV,s',g3,g4,g5,g6⟩:=ct;refine⟨by omega,by omega,s',by rw[g1];exact g3,g4,λx hx w hw dn=>?_,g6⟩;rw[g5]at hx;rcases amA.1 hx with q | q
  ·exact T.bars x q w hw dn
  rw[amv]at q;subst q;unfold sy at yo;dsimp only at yo;rw[M.buf k hk,show((b k).map (lF (al t))).isEmpty=false from by
   cases hb:b k with
   | nil=>rw[hb]at hw;cases hw
   | cons x l=>rfl]at yo
  rw[show(decide (((cj t k).getD (m.av.getD k default).at' default).op=5)||decide (((cj t k).getD (m.av.getD k default).at' default).op=13))=true from by rw[amr,amj,amj];exact HV,<-g2]at yo
  exact yo
 rw[ki];obtain⟨g1,g2,s',g3,g4,g5,g6⟩:=key;refine⟨rfl,⟨_,rfl,g1,g2⟩,?_⟩;refine{la:=by rw[amQ];exact M.la,mw:=M.mw,oN:=M.oN,rfl':=M.rfl',nE:=M.nE,ns:=M.ns,p9:=M.p9,av:=λj ad=>?_,buf:=M.buf,jB:=M.jB,pq:=M.pq,ow:=M.ow,lr:=M.lr,o5:=M.o5,pre:=M.pre,co:=M.co,last:=M.last,mem:=M.mem,rd:=M.rd,ru:=M.ru};by_cases fM:j=k
 ·subst fM;have ay:(m.av.set j (stepT t j (m.av.getD j default)).1).getD j default=(stepT t j (m.av.getD j default)).1:=by rw[fL,amo ⟨rfl,by rw[M.la];exact ad⟩]
  refine⟨s',?_,?_,λi hi=>by rw[g4];exact T.done i hi,g5⟩
  ·dsimp only;rw[ay];exact g3
  dsimp only;rw[ay];exact g6
 obtain⟨xp,rL⟩:=M.av j ad;exact⟨xp,rL.keep h ad (by dsimp only;rw[fL,amn λq=>fM q.1.symm]) (λi hi=>rfl) (λi hi=>rfl) λ_ q=>q⟩
theorem Ov{t:aM}(h:du t=0){m:cu}{log:List Nat}{b:Nat->List Nat}(M:kt t m log b){k:Nat}(hk:k<t.code.length){e:Nat}{r:List Nat}(hb:b k=e::r): e<(al t).J.length/\(bf (al t) e).aI=(k:Int)/\(bf (al t) e).dir=2/\m.done.getD e default=true/\e∉log/\(j0 m k).done=m.done/\(j0 m k).av=m.av/\(j0 m k).cT=m.cT.set k (r.map (lF (al t)))/\kt t (j0 m k) (log++[e]) (uN b k r):=by
 have hP:=jv h;obtain⟨eI,dj,pz,Im,ln⟩:=(M.jB k hk e).1 (by rw[hb];exact .head _);obtain⟨p,hp,kC⟩:=tw hP eI;have hh:=M.pq k hk;rw[hb,am2]at hh;have ki:j0 m k={m with cT:=m.cT.set k (r.map (lF (al t))),mem:=m.mem.set p (bf (al t) e).value,last:=m.last.set p (e:Int),co:=m.co.set p (m.co.getD p default++[(e:Int)])}:=by unfold j0;rw[M.buf k hk,hb];show nb _ (lF (al t) e)=_;unfold nb lF;dsimp only;rw[hp,amw]
 have ue:∀q:Nat,fP (al t) (log++[e]) q=if q=p then fP (al t) log q++[(e:Int)]else fP (al t) log q:=λq=>by
  rw[DU,Nv];have:n0 (al t) q e=decide (q=p):=by
   unfold n0;rw[show decide (((al t).J.getD e default).dir=2)=true from amq pz,anA,show((al t).J.getD e default).loc=(p:Int)from hp];by_cases bn:q=p
   ·rw[bn,amq rfl,amq rfl]
   rw[amy bn,amy (by omega)]
  rw[this];by_cases bn:q=p
  ·rw[amo bn,amq bn,amo rfl]
  rw[amn bn,amy bn,amn (by simp),amB]
 refine⟨eI,dj,pz,Im,ln,by rw[ki],by rw[ki],by rw[ki],?_⟩;rw[ki];refine{la:=M.la,mw:=by rw[amQ];exact M.mw,oN:=M.oN,rfl':=M.rfl',nE:=by rw[amQ];exact M.nE,ns:=by rw[amQ];exact M.ns,p9:=by rw[amQ];exact M.p9,av:=λj ad=>?_,buf:=λj ad=>?_,jB:=λj ad w=>?_,pq:=λj ad=>?_,ow:=?_,lr:=λa au=>?_,o5:=λa au hd j1=>amA.2 (.inl (M.o5 a au hd j1)),pre:=Kw M.pre λa au hp=>?_,co:=λq aZ=>?_,last:=λq aZ=>?_,mem:=λq aZ=>?_,rd:=λmO q a HE j1=>?_,ru:=λa au j1=>M.ru a au (j1.imp id λbn e8=>bn (amA.2 (.inl e8)))}
 ·obtain⟨xp,rL⟩:=M.av j ad;refine⟨xp,rL.keep h ad rfl (λi hi=>rfl) (λi hi=>rfl) λw q=>?_⟩;by_cases fM:j=k
  ·subst fM;rw[uO]at q;rw[hb];exact .tail _ q
  rwa[uP _ _ fM]at q
 ·dsimp only;by_cases fM:j=k
  ·subst fM;rw[uO,fL,amo ⟨rfl,by rw[M.mw];exact ad⟩]
  rw[uP _ _ fM,fL,amn λq=>fM q.1.symm,M.buf j ad]
 ·dsimp only;by_cases fM:j=k
  ·subst fM;rw[uO,amA,amv];constructor
   ·intro q;obtain⟨dG,a2,a3,a4,a5⟩:=(M.jB j ad w).1 (by rw[hb];exact .tail _ q);have:=hh.1 w q;exact⟨dG,a2,a3,a4,λq=>q.elim a5 λq=>by omega⟩
   rintro⟨dG,a2,a3,a4,a5⟩;have:=(M.jB j ad w).2 ⟨dG,a2,a3,a4,λq=>a5 (.inl q)⟩;rw[hb]at this;rcases amG.1 this with q | q
   ·exact absurd (.inr q) a5
   exact q
  rw[uP _ _ fM,M.jB j ad w,amA,amv];constructor
  ·rintro⟨dG,a2,a3,a4,a5⟩;exact⟨dG,a2,a3,a4,λq=>q.elim a5 λq=>by rw[q,dj]at a2;omega⟩
  rintro⟨dG,a2,a3,a4,a5⟩;exact⟨dG,a2,a3,a4,λq=>a5 (.inl q)⟩
 ·by_cases fM:j=k
  ·subst fM;rw[uO];exact hh.2
  rw[uP _ _ fM];exact M.pq j ad
 ·rw[aoW];exact⟨M.ow,List.pairwise_singleton _ _,λa au c ai=>by rw[amv]at ai;subst ai;exact λq=>ln (q▸au)⟩
 ·rcases amA.1 au with q | q
  ·exact M.lr a q
  rw[amv]at q;subst q;exact⟨eI,Im⟩
 ·
  unfold nu at hp;rw[ami]at hp;have yh:=hp.1;rw[qI hP au eI,ami,amj]at yh;unfold eV.ik at yh;rw[amj,dj]at yh;obtain⟨ald,My⟩:=M.av k hk;have j1:m.done.getD a default=true:=by rw[Db h hk My eI dj,amj]at Im;rw[Db h hk My au yh.2];exact amq (by omega)
  rcases mU hP au with hd | hd
  ·exact M.o5 a au j1 hd
  refine amT λe7=>?_;have:=(M.jB k hk a).2 ⟨au,yh.2,hd,j1,e7⟩;rw[hb]at this;rcases amG.1 this with q | q
  ·omega
  have:=hh.1 a q;omega
 ·dsimp only;rw[fL,M.nE,ue];by_cases bn:q=p
  ·subst bn;rw[amo ⟨rfl,aZ⟩,amo rfl,M.co q aZ]
  rw[amn λg=>bn g.1.symm,amn bn,M.co q aZ]
 ·dsimp only;rw[fL,M.p9,ue];by_cases bn:q=p
  ·subst bn;rw[amo ⟨rfl,aZ⟩,amo rfl,HB]
  rw[amn λg=>bn g.1.symm,amn bn,M.last q aZ]
 ·dsimp only;rw[fL,M.ns,ue];by_cases bn:q=p
  ·subst bn;rw[amo ⟨rfl,aZ⟩,amo rfl,HB];unfold rD;rw[amn (by omega),amw]
  rw[amn λg=>bn g.1.symm,amn bn,M.mem q aZ]
 rcases Lq HE with⟨_,rfl,_⟩ | ⟨q',_,e'⟩
 ·omega
 exact M.rd mO q' a e' j1
end Go.Proofs.bK
