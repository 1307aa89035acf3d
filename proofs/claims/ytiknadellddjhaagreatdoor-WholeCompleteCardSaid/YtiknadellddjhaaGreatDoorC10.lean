/- Lemmas for the law WholeComplete. -/
import Derived.Test.YtiknadellddjhaaGreatDoorC07
import Derived.Test.YtiknadellddjhaaGreatDoorC09
set_option linter.all false
open Go.Proofs.Tryz
set_option maxHeartbeats 800000
open Go Go.b9 Go.gG
namespace Go.bM
theorem G6{t:aV}(h:dI t=0):pT t=0/\∃a,jb t (br t) t.code.length=.ok a:=by
 unfold dI at h;split at h
 ·rename_i h1;refine⟨h1,?_⟩;split at h
  ·rename_i a ay;exact⟨a,ay⟩
  rename_i e he;exfalso;subst h;have:∀k,jb t (br t) k≠.bad 0:=by
   intro k
   induction k with
   | zero=>unfold jb;simp
   | succ k bP=>
    unfold jb;split
    ·rename_i e q;intro bz;rw[bz]at q;exact bP q
    split
    ·simp
    ·simp
    split<;>simp
  exact this _ he
 rename_i h1;exact absurd h h1
theorem Hb{t:aV}(h1:pT t=0){a:Acc}(ay:jb t (br t) t.code.length=.ok a):ar t=⟨cc t,od t,a.J,a.bars,a.addr,a.data,a.bh,br t,yn t (br t) a.ends⟩:=by unfold ar;rw[aou h1,ay]
theorem Dz{α:Type}[Inhabited α]{r:α->α->Prop}{l:List α}(h:l.Pairwise r){i:Nat}(h0:0<i)(hi:i<l.length):r (l.getD (i-1) default) (l.getD i default):=by have:=aph.1 h (i-1) i (by omega) hi (by omega);rw[aor,aor,aov hi,aov (show i-1<l.length by omega)];exact this
theorem adb{l:List ByteArray}{s:ByteArray}(h:s∈l):l.findIdx? (λx=>decide (x=s))=some (dr l s):=by rw[List.findIdx?_eq_some_iff_findIdx_eq];exact⟨qi h,rfl⟩
theorem Lc{t:aW}{w:Bool}{l:List ca}(h:l.Pairwise pW/\∀p,p∈l->ug t.J w p):kc t l w=true:=by
 unfold kc;rw[fT];intro i hi;obtain⟨h1,h2,h3,aA⟩:=h.2 _ (eN hi);unfold qo Dv bM.aI;rw[aoo];constructor
 ·rw[aow h1.1,aow h1.2.1,aow h1.2.2,aow h2,aow h3];cases w with
  | false=>rfl
  | true=>rw[aow (aA rfl)];rfl
 by_cases q:i=0
 ·rw[aow q];rfl
 rw[show iI _ _ _ _=true from Dz h.1 (by omega) hi,aqZ]
theorem kr{t:aV}(h:dI t=0):e0 (ar t)=true:=by
 obtain⟨cF,a,ay⟩:=G6 h;have G:=E1 cF;have A:=G.acc (aoL _) ay;have bd:t.code.length<=16:=G.n16;rw[Hb cF ay];unfold e0;simp only[aoo];refine⟨⟨⟨⟨⟨⟨?_,?_⟩,?_⟩,Lc A.addr⟩,Lc A.data⟩,Lc A.bh⟩,?_⟩
 ·unfold kZ;rw[aoo,aoo,aop,aop,fT];refine⟨⟨G.wE,G.abJ⟩,λi hi=>?_⟩;unfold uT;rw[aoo,aoo];refine⟨⟨G.adY (eN hi),?_⟩,G.abK hi⟩;by_cases q:i=0
  ·rw[aow q];rfl
  rw[show fL _ _=true from Dz (xS t) (by omega) hi,aqZ]
 ·unfold jP;rw[aoo,aop,fT];refine⟨A.n,λi hi=>?_⟩;have E:=A.J _ (eN hi);unfold lL qH qY Ac;rw[aoo];constructor
  ·have bu:=E.bI;have b2:=E.place;have gg:=E.loc;have lp:=E.bo;have r8:=E.num;dsimp only;rw[aow bu.1,aow (show _<(16:Int) by omega),aow b2.1,aow b2.2,aow gg.1,aow gg.2,r8,aow lp.1,aow (show _<=(31:Int) by omega)];rcases E.dir with⟨cB,bz⟩ | ⟨cB,bz⟩
   ·rw[aow cB,aow bz];rfl
   rw[aow cB,aow bz];simp
  by_cases q:i=0
  ·rw[aow q];rfl
  rw[show iI _ _ _ _=true from Dz A.sc (by omega) hi,aqZ]
 ·unfold k8;rw[aoo,aop,fT];refine⟨by have:=A.B4;dsimp only;omega,λi hi=>?_⟩;obtain⟨gn,dC,dK⟩:=A.bars _ (eN hi);unfold nz qY;simp only[aoo];refine⟨⟨⟨⟨?_,aow dK.1⟩,aow dK.2⟩,?_⟩,?_⟩
  ·exact⟨⟨⟨aow gn.1,aow (by omega)⟩,aow dC.1⟩,aow dC.2⟩
  ·by_cases q:i=0
   ·rw[aow q];rfl
   rw[show iI _ _ _ _=true from Dz A.rn (by omega) hi,aqZ]
  unfold HG;rw[fT];intro k hk;rw[aoq,aoC,aoA,aoA];by_cases q:(a.J.getD k default).aH=(a.bars.getD i default).aH
  ·exact .inr (A.off _ (eN hi) _ (eN hk) q)
  exact .inl q
 have j5:(yn t (br t) a.ends).length=(br t).length:=by simp[yn]
 unfold tY;rw[aoo,aoo,aop,aop,fT];refine⟨⟨j5.symm,G.Ms⟩,λi hi=>?_⟩;have hm:(br t).getD i default∈br t:=eN hi;have dB:=(G7 (G.vc hm)).1;unfold q5;rw[aoo];constructor
 ·dsimp only;unfold yn;rw[tp hi];unfold lk;rcases wV.1 dB with⟨cB,bz,fc⟩ | ⟨cB,bz,fc,iB,kp⟩
  ·rw[aou cB,aou cB];have lN:((br t).getD i default).loc∈cc t:=by refine uY.2 ⟨?_,sB fc⟩;unfold ni;rw[aoG];exact .inr (ao9.2 ⟨_,hm,rfl⟩)
   unfold AW;dsimp only;rw[adb lN];dsimp only;rw[aow bz,aow rfl,aow rfl];rfl
  rw[aot (by omega),aot (by omega),aow cB,aow bz,aow fc,aow (show _<=(31:Int) by omega),aow (show _=ByteArray.empty from kp)];have:=A.ends i hi cB (by exact G.Mq _ hm);unfold vM bM.aI;dsimp only;rcases this with⟨bu,b2⟩ | ⟨bu,b2,gg,lp,r8⟩
  ·rw[aow bu,b2];rfl
  rw[aow bu,aow b2,aow gg,aow lp,aow r8];simp
 by_cases q:i=0
 ·rw[aow q];rfl
 rw[show h6 _ _=true from Dz G.UU.1 (by omega) hi,aqZ]
end Go.bM
namespace Go.b9
open Go
def dQ(E:Nat->List aB)(n:Nat):List aB:=(List.range n).flatMap E
def jQ(E:Nat->List aB)(n k:Nat):List aB:=((List.range n).filter λj=>!decide (j=k)).flatMap E
theorem O7(E:Nat->List aB){n k:Nat}(hk:k<n):(dQ E n).Perm (E k++jQ E n k):=by
 have hp:(List.range n).Perm (k::(List.range n).filter λj=>!decide (j=k)):=by
  refine(aqJ aqd (List.nodup_cons.2 ⟨λq=>?_,apL _ aqd⟩)).2 λx=>?_
  ·have:=(apd.1 q).2;rw[aow rfl]at this;cases this
  rw[aoO,apd,aoQ,aoq,aoA];by_cases q:x=k
  ·subst q;exact⟨λ_=>.inl rfl,λ_=>hk⟩
  exact⟨λh=>.inr ⟨h,q⟩,λh=>h.elim (λh=>absurd h q) λh=>h.1⟩
 exact hp.flatMap_right E
theorem Ys{E rh:Nat->List aB}{n k:Nat}(h:∀j,j<n->j≠k->rh j=E j):jQ rh n k=jQ E n k:=by
 unfold jQ;have:∀l:List Nat,(∀j,j∈l->rh j=E j)->l.flatMap rh=l.flatMap E:=λl aL=>by
  induction l with
  | nil=>rfl
  | cons x l bP=>rw[ao8,ao8,aL x aP,bP λj ae=>aL j (.tail _ ae)]
 refine this _ λj ae=>?_;obtain⟨h1,h2⟩:=apd.1 ae;rw[aoq,aoA]at h2;exact h j (aoQ.1 h1) h2
theorem Mem.sE{bs:List dm}{E:Nat->List aB}{n:Nat}{H:List aB}{w:World}(h:Mem bs (dj (dQ E n)::H) w)(k:Nat)(hk:k<n):Mem bs (E k++(dj (jQ E n k)::H)) w:=by
 have h1:=h.unpack;have h2:Mem bs (jQ E n k++(E k++H)) w:=h1.perm (by rw[<-aoP];exact((O7 E hk).trans apx).append_right H)
 refine h2.pack.perm ?_;exact aq4.symm
theorem Mem.xd{bs:List dm}{E:Nat->List aB}(rh:Nat->List aB){n:Nat}{H:List aB}{w:World}(k:Nat)(h:Mem bs (rh k++(dj (jQ E n k)::H)) w)(hk:k<n)(he:∀j,j<n->j≠k->rh j=E j):Mem bs (dj (dQ rh n)::H) w:=by have h1:Mem bs (dj (jQ E n k)::(rh k++H)) w:=h.perm aq4;have h2:=h1.unpack;refine Mem.pack (h2.perm ?_);rw[<-Ys he,<-aoP];exact(apx.trans (O7 rh hk).symm).append_right H
theorem Mem.Gd{bs:List dm}{E:Nat->List aB}{n:Nat}{H:List aB}{w:World}(h:Mem bs (E n++(dj (dQ E n)::H)) w):Mem bs (dj (dQ E (n+1))::H) w:=by have h1:Mem bs (dj (dQ E n)::(E n++H)) w:=h.perm aq4;have h2:=h1.unpack;refine Mem.pack (h2.perm ?_);unfold dQ;rw[ape,apc,aq7,<-aoP]
theorem yq{E rh:Nat->List aB}{n:Nat}(h:∀j,j<n->rh j=E j):dQ rh n=dQ E n:=by
 induction n with
 | zero=>rfl
 | succ n bP=>unfold dQ at *;rw[ape,apc,apc,bP λj ae=>h j (by omega),aq7,aq7,h n (by omega)]
theorem Mem.Gf{bs:List dm}{H:List aB}{w:World}(E:Nat->List aB)(h:Mem bs H w):Mem bs (dj (dQ E 0)::H) w:=Mem.pack (L:=[]) h
end Go.b9
attribute [local irreducible] Go.wpList Go.Code.wp Go.bodyPost Go.Exit.then Go.Exit.inBlock Go.Calls
namespace Go.gG
def aih(p:Nat->Nat->Bool)(m s n:Nat)(f:Nat->Nat)(i:Nat):Bool:=if n=0 then p i s else(List.range m).any λj=>decide (s<j)&&p i j&&decide (f j=n)
def dl(p:Nat->Nat->Bool)(m s:Nat):Nat->Nat->Nat
 | 0=>λ_=>0
 | n+1=>λi=>if dl p m s n i≠0 then dl p m s n i else if(decide (s<=i)&&decide (i<m)&&aih p m s n (dl p m s n) i)=true then n+1 else 0
section
variable {p:Nat->Nat->Bool} {m s:Nat}
def ak(p:Nat->Nat->Bool)(m s n q i:Nat):Nat:=if i<q then dl p m s (n+1) i else dl p m s n i
end
end Go.gG
namespace Go.Proofs.bA
def lw(p:Nat->Nat->Bool)(m s k q:Nat)(b:Bool)(x:Nat):Nat:=if x=q then(if b=true then k+1 else 0)else ak p m s k q x
def Eb(xs:List Int)(e:Int):Nat->Value->List aB->World->Prop:=λ_ v es _=>∃hW,aD hW/\v=.tuple #[hW,.int .i64 e]/\es=[A9 hW xs]
end Go.Proofs.bA
namespace Go.gG
def pP(m:Nat)(p:Nat->Nat->Bool)(l:List Nat):Option Nat:=(List.range m).find? λi=>decide (i∉l)&&(List.range m).all λq=>decide (q∈l)||!p q i
def ka(m:Nat)(p:Nat->Nat->Bool):Nat->List Nat
 | 0=>[]
 | n+1=>match pP m p (ka m p n)with
  | some i=>ka m p n++[i]
  | none=>ka m p n
section
variable {m:Nat} {p:Nat->Nat->Bool}
theorem Sg{l:List Nat}{i:Nat}(h:pP m p l=some i):i<m/\i∉l/\∀q,q<m->p q i=true->q∈l:=by
 unfold pP at h;have h1:=List.find?_some h;have h2:=List.mem_of_find?_eq_some h;simp only[aoo,aop,apt,aox,aoq,aoQ]at h1 h2;refine⟨h2,h1.1,λq ba hp=>?_⟩;rcases h1.2 q ba with h3 | h3
 ·exact h3
 rw[hp]at h3;cases h3
theorem ad0{l:List Nat}(h:pP m p l=none)(i:Nat)(hi:i<m)(aL:i∉l):∃q,q<m/\q∉l/\p q i=true:=by unfold pP at h;rw[List.find?_eq_none]at h;have h1:=h i (aoQ.2 hi);simp only[aoo,aop,not_and,apS,List.all_eq_false,aoQ]at h1;obtain⟨q,ba,h2⟩:=h1 aL;simp only[apS,aoz,aoA,aos]at h2;exact⟨q,ba,h2.1,h2.2⟩
structure r4(m:Nat)(p:Nat->Nat->Bool)(l:List Nat):Prop where
 nodup:l.Nodup
 lt:∀x,x∈l->x<m
 prec:∀(a x:Nat),l[a]?=some x->∀q,q<m->p q x=true->∃b,b<a/\l[b]?=some q
theorem r4.nil:r4 m p []:=⟨List.nodup_nil,λ_ h=>(by cases h),λ_ _ h=>by simp at h⟩
theorem r4.snoc{l:List Nat}{i:Nat}(h:r4 m p l)(bd:pP m p l=some i):r4 m p (l++[i]):=by
 obtain⟨h1,h2,h3⟩:=Sg bd;refine⟨?_,λx hx=>?_,λa x hx q ba hp=>?_⟩
 ·rw[ard];exact⟨h.nodup,by simp,λa ay b hb=>by rw[aoB]at hb;subst hb;exact λe=>h2 (e▸ay)⟩
 ·rw[aoG,aoB]at hx;rcases hx with hx | rfl
  ·exact h.lt x hx
  exact h1
 by_cases ay:a<l.length
 ·rw[aoT ay]at hx;obtain⟨b,hb,Zz⟩:=h.prec a x hx q ba hp;exact⟨b,hb,by rw[aoT (by omega)];exact Zz⟩
 rw[aoS (by omega)]at hx;by_cases h0:a-l.length=0
 ·rw[h0]at hx;obtain rfl:i=x:=by simpa using hx
  obtain⟨b,hb⟩:=apF (h3 q ba hp);have lr:b<l.length:=(ao2.1 hb).1;exact⟨b,by omega,by rw[aoT lr];exact hb⟩
 rw[aoV (by simp;omega)]at hx;cases hx
theorem acB(n:Nat):r4 m p (ka m p n):=by
 induction n with
 | zero=>exact .nil
 | succ n bP=>
  show r4 m p (match pP m p (ka m p n)with | some i=>ka m p n++[i] | none=>ka m p n);cases h:pP m p (ka m p n)with
  | none=>exact bP
  | some i=>exact bP.snoc h
theorem cover:∀(m:Nat) (l:List Nat),l.length<m->∃x,x<m/\x∉l
 | 0,l,h=>by omega
 | m+1,l,h=>by
  by_cases hm:m∈l
  ·have h1:=List.length_erase_of_mem hm;have h2:0<l.length:=List.length_pos_of_mem hm;obtain⟨x,hx,jV⟩:=cover m (l.erase m) (by omega);exact⟨x,by omega,λai=>jV ((List.mem_erase_of_ne (by omega)).2 ai)⟩
  exact⟨m,by omega,hm⟩
theorem bound:∀(m:Nat) (l:List Nat),l.Nodup->(∀x,x∈l->x<m)->l.length<=m
 | 0,l,_,h=>by
  cases l with
  | nil=>simp
  | cons x l=>have:=h x aP;omega
 | m+1,l,bd,h=>by
  by_cases hm:m∈l
  ·have h1:=List.length_erase_of_mem hm;have:=bound m (l.erase m) (bd.erase m) (λx hx=>by
    have h2:=h x (List.mem_of_mem_erase hx);have h3:x≠m:=λe=>by subst e;exact(List.Nodup.not_mem_erase bd) hx
    omega)
   omega
  have:=bound m l bd (λx hx=>by have h2:=h x hx;have h3:x≠m:=λe=>hm (e▸hx);omega)
  omega
theorem r4.all{l:List Nat}(h:r4 m p l)(aL:l.length=m)(i:Nat)(hi:i<m):i∈l:=by
 apply ao0;intro bd;have:=bound m (i::l) (List.nodup_cons.2 ⟨bd,h.nodup⟩) (λx hx=>by
  rcases aoO.1 hx with rfl | hx
  ·exact hi
  exact h.lt x hx)
 simp at this;omega
theorem Oz{f g:Nat->Bool}:∀{L:List Nat},(∀x,x∈L->f x=true->g x=true)->(∃y,y∈L/\g y=true/\f y=false)->L.countP f<L.countP g
 | [],_,⟨y,aY,_⟩=>by cases aY
 | x::L,h1,⟨y,aY,az,hf⟩=>by
  rw[List.countP_cons,List.countP_cons];have hle:L.countP f<=L.countP g:=List.countP_mono_left λz a1 ZZ=>h1 z (.tail _ a1) ZZ;rcases aoO.1 aY with rfl | aY
  ·rw[az,hf];simp;omega
  have:=Oz (λz a1=>h1 z (.tail _ a1)) ⟨y,aY,az,hf⟩;have h2:=h1 x aP;cases ZY:f x
  ·simp;split<;>omega
  rw[h2 ZY];simp;omega
end
theorem stuck{m:Nat}{rows:List W}(ok:fG m rows=true){l:List Nat}(aL:l.length<m)(bd:pP m (aQ rows) l=none):∃i,i<m/\mR (aQ rows) i i:=by
 obtain⟨x,hx,jV⟩:=cover m l aL
 let c:Nat->Nat:=λj=>(List.range m).countP λq=>decide (q∉l)&&aQ (uq m rows) q j
 have key:∀k j,c j=k->j<m->j∉l->∃i,i<m/\mR (aQ rows) i i:=by
  intro k
  induction k using Nat.strongRecOn with
  | ind k bP=>
   intro j ai ae gD;obtain⟨q,ba,ss,hp⟩:=ad0 bd j ae gD;by_cases Qv:mR (aQ rows) q q
   ·exact⟨q,ba,Qv⟩
   refine bP (c q) ?_ q rfl ba ss;rw[<-ai];refine Oz (λz _ a1=>?_) ⟨q,aoQ.2 ba,?_,?_⟩
   ·simp only[aoo,aop]at a1⊢;refine⟨a1.1,?_⟩;rw[Ce ok]at a1⊢;exact .more a1.2 hp
   ·simp only[aoo,aop];exact⟨ss,by rw[Ce ok];exact .one hp⟩
   have:aQ (uq m rows) q q=false:=by rw[aoW];intro h;rw[Ce ok]at h;exact Qv h
   rw[this,apu]
 exact key _ x rfl hx jV
theorem MG{m:Nat}{rows:List W}(ok:fG m rows=true):rT m rows=true↔∃i,i<m/\mR (aQ rows) i i:=by
 unfold rT;rw[apH];constructor
 ·rintro⟨i,hi,h⟩;exact⟨i,aoQ.1 hi,(Ce ok i i).1 h⟩
 rintro⟨i,hi,h⟩;exact⟨i,aoQ.2 hi,(Ce ok i i).2 h⟩
theorem acA{m:Nat}{rows:List W}(ok:fG m rows=true)(aJ:rT m rows=false)(n:Nat)(bd:n<=m):(ka m (aQ rows) n).length=n:=by
 induction n with
 | zero=>rfl
 | succ n bP=>
  have bP:=bP (by omega);show(match pP m (aQ rows) (ka m (aQ rows) n)with | some i=>ka m (aQ rows) n++[i] | none=>ka m (aQ rows) n).length=n+1;cases h:pP m (aQ rows) (ka m (aQ rows) n)with
  | some i=>simp[bP]
  | none=>have:=(MG ok).2 (stuck ok (by omega) h);rw[aJ]at this;cases this
theorem WI(rows:List W)(dD:W)(n i:Nat):(vD rows dD n).getLsbD i=(List.range n).any λq=>!dD.getLsbD q&&aQ rows q i:=by
 induction n with
 | zero=>simp[vD]
 | succ n bP=>
  rw[NP,ape,List.any_append];by_cases h:dD.getLsbD n=true
  ·rw[aou h,bP];simp[h]
  rw[aot h,ap2,bP];have cm:dD.getLsbD n=false:=by simpa using h
  simp[cm,aQ]
theorem ac1{m:Nat}{rows:List W}(fK:m<=64)(n:Nat):(rF m rows n).2=(ka m (aQ rows) n).map (λ(i:Nat)=>(i:Int))/\∀j,(rF m rows n).1.getLsbD j=decide (j∈ka m (aQ rows) n):=by
 induction n with
 | zero=>simp[rF,ka]
 | succ n bP=>
  obtain⟨Q3,FM⟩:=bP;have Ff:yt m ((rF m rows n).1||| vD rows (rF m rows n).1 m)=pP m (aQ rows) (ka m (aQ rows) n):=by
   unfold yt pP;congr 1;funext i;rw[ap2,FM,WI,Bool.not_or];congr 1
   ·simp
   rw[List.not_any_eq_all_not];congr 1;funext q;rw[FM,Bool.not_and,Bool.not_not]
  rw[Kt];unfold ze;rw[Ff];show _=(match pP m (aQ rows) (ka m (aQ rows) n)with | some i=>ka m (aQ rows) n++[i] | none=>ka m (aQ rows) n).map _/\∀j,_=decide (j∈(match pP m (aQ rows) (ka m (aQ rows) n)with | some i=>ka m (aQ rows) n++[i] | none=>ka m (aQ rows) n));cases ai:pP m (aQ rows) (ka m (aQ rows) n)with
  | none=>exact⟨Q3,FM⟩
  | some i=>
   have hi:=(Sg ai).1;refine⟨by simp[Q3],λj=>?_⟩;simp only[ap2,FM,aoG,aoB];have e:(1#64<<<i).getLsbD j=decide (j=i):=by
    rw[apX,aqa];by_cases h:j=i
    ·subst h;simp;omega
    simp[h];omega
   rw[e];by_cases h1:j∈ka m (aQ rows) n<;>by_cases h2:j=i<;>simp[h1,h2]
theorem ac3{m:Nat}{rows:List W}(fK:m<=64):Ku m rows=(ka m (aQ rows) m).map (λ(i:Nat)=>(i:Int)):=(ac1 fK m).1
end Go.gG
namespace Go.Proofs.bA
def wz(n:Int)(rows:List W):List Int:=if fG n rows=true then(if rT n.toNat rows=true then []else ints (ka n.toNat (aQ rows) n.toNat))else []
def AU(n:Int)(rows:List W):Int:=if fG n rows=true then(if rT n.toNat rows=true then 12 else 0)else 10
theorem Rv(n:Int)(aK:Value)(rows:List W)(w:World)(h:aZ al w fJ 1 aK rows): en prog 101 [.agg #[.int .i64 n,aK]] w (Eb (wz n rows) (AU n rows)):=
 (ac4 n aK rows w h).KV 3 1 a7 λ_ v es _ eJ=>by
  unfold Eb wz AU;by_cases hok:fG n rows=true
  ·simp only[aou hok]at eJ⊢;obtain⟨m,rfl,fK,_⟩:=u6 hok;by_cases aJ:rT (m:Int).toNat rows=true
   ·simp only[aou aJ]at eJ⊢;obtain⟨rfl,rfl⟩:=eJ;exact .inr ⟨rfl,_,k2,rfl,rfl⟩
   simp only[aot aJ]at eJ⊢;rw[aoF,ac3 fK]at eJ;exact .inl eJ
  simp only[aot hok]at eJ⊢;obtain⟨rfl,rfl⟩:=eJ;exact .inr ⟨rfl,_,k2,rfl,rfl⟩
def C7(m:Nat)(l:List Nat):List Bool:=(List.range m).map λi=>decide (i∈l)
def w8(n:Int)(rows:List W):Bool:=if fG n rows=true then !rT n.toNat rows else false
theorem HA(n:Int)(aK:Value)(rows:List W)(w:World)(h:aZ al w fJ 1 aK rows): bl prog 38 [.agg #[.int .i64 n,aK]] w λ_ v _=>v=.tuple #[.bool (w8 n rows),.int .i64 (vP (fG n rows))]:=by
 unfold w8 vP;refine bZ func38 ntmps38 ?_;refine b7 λdT=>?_;refine aq (bp (λI hw=>z6 n aK rows I (hw.now h)) ?_);rintro v bx bc rfl cu;by_cases hok:fG n rows=true
 ·simp only[aou hok];obtain⟨m,rfl,sq,bH⟩:=u6 hok;refine U ?_;refine cM rfl (λh1=>by simp[cd]at h1) λ_=>?_;refine U ?_;refine aq (bp (λI hw=>U7 m aK rows I (hw.now h) sq bH) ?_);rintro v ck bY rfl eZ;refine U ?_;exact bT rfl (.tmp rfl (.t1 rfl)) λI hw=>rfl
 simp only[aot hok];refine U ?_;refine cM rfl (λ_=>?_) (λh1=>by simp[cd]at h1);refine U ?_;exact bT rfl (.tmp rfl (.t1 rfl)) λI hw=>rfl
end Go.Proofs.bA
