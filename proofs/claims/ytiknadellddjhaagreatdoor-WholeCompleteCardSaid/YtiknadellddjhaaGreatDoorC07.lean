/- Lemmas for the law WholeComplete. -/
import Derived.ProofKit
import Derived.Carry
import Derived.SizedLaws
import Derived.OpenShut
import Derived.Deep.Slices
import Derived.Lib.SmallJoins
import Derived.Test.YtiknadellddjhaaGreatDoorRows
import Derived.Test.YtiknadellddjhaaGreatDoorCards
import Derived.Test.YtiknadellddjhaaGreatDoorTie
import Derived.LaidMore
import Derived.Lay
import Derived.Stop.Joined
import Derived.SevenTiedAt
import Derived.Test.YtiknadellddjhaaGreatDoorC05
import Derived.Test.YtiknadellddjhaaGreatDoorC06
set_option linter.all false
open Go.Proofs.Tryz
open Go.Proofs.YtiknadellddjhaaGreatDoor
open Go Go.b9
namespace Go.bM
theorem Di:∀(n:Nat) (l:List Int),l.Pairwise (· <·)->(∀x,x∈l->0<=x/\x<n)->l.length<=n
 | 0,[],_,_=>aoL _
 | 0,x::_,_,h=>by have:=h x aP;omega
 | n+1,l,hp,h=>by
  by_cases hm:(n:Int)∈l
  ·obtain⟨a,b,rfl⟩:=List.append_of_mem hm;rw[apz]at hp;have hb:b=[]:=by
    cases b with
    | nil=>rfl
    | cons y b=>have h1:=(apa.1 hp.2.1).1 y aP;have h2:=h y (by simp);omega
   subst hb;have:=Di n a hp.1 λx hx=>by have h1:=h x (by simp[hx]);have h2:=hp.2.2 x hx _ aP;omega
   simp;omega
  have:=Di n l hp λx hx=>by have h1:=h x hx;have h2:x≠n:=λe=>hm (e▸hx);omega
  omega
theorem tp{α:Type}[Inhabited α]{f:Nat->α}{n i:Nat}(hi:i<n):((List.range n).map f).getD i default=f i:=by rw[aor,ao4,apk hi];rfl
structure Nb(t:aV)(k:Nat)(x:eV):Prop where
 bI:0<=x.aH/\x.aH<k
 place:0<=x.place/\x.place<256
 loc:0<=x.loc/\x.loc<(cc t).length
 num:eF x.value=true
 bo:0<=x.bo/\x.bo<32
 dir:(x.dir=1/\x.value=0)\/(x.dir=2/\x.bo=0)
structure ug(J:List eV)(w:Bool)(p:ca):Prop where
 lt:0<=p.A/\p.A<p.B/\p.B<J.length
 rd:(J.getD p.A.toNat default).dir=1
 bI:(J.getD p.A.toNat default).aH=(J.getD p.B.toNat default).aH
 wr:w=true->(J.getD p.B.toNat default).dir=2
def BR(J:List eV)(x:cK)(e:gl):Prop:=(e.kind=1/\eF e.n=true)\/(e.kind=2/\0<=e.n/\e.n<J.length/\(J.getD e.n.toNat default).dir=1/\(J.getD e.n.toNat default).aH=x.aH)
structure D7(t:aV)(k:Nat)(a:Acc):Prop where
 J:∀x,x∈a.J->Nb t k x
 sc:a.J.Pairwise λx y=>iI x.aH x.place y.aH y.place=true
 n:a.J.length<=64
 bars:∀b,b∈a.bars->(0<=b.aH/\b.aH<k)/\(0<=b.place/\b.place<256)/\1<=b.dA/\b.dA<=11
 rn:a.bars.Pairwise λx y=>iI x.aH x.place y.aH y.place=true
 B4:a.bars.length<=256* k
 off:∀b,b∈a.bars->∀x,x∈a.J->x.aH=b.aH->x.place≠b.place
 addr:a.addr.Pairwise pW/\∀p,p∈a.addr->ug a.J false p
 data:a.data.Pairwise pW/\∀p,p∈a.data->ug a.J true p
 bh:a.bh.Pairwise pW/\∀p,p∈a.bh->ug a.J false p
 ON:a.ends.length=(br t).length
 ends:∀i,i<(br t).length->0<=((br t).getD i default).aH->((br t).getD i default).aH<k->BR a.J ((br t).getD i default) (a.ends.getD i default)
theorem ug.more{J m:List eV}{w:Bool}{p:ca}(h:ug J w p):ug (J++m) w p:=by
 obtain⟨⟨h1,h2,h3⟩,aA,a6,cE⟩:=h;have ay:p.A.toNat<J.length:=by omega
 have hb:p.B.toNat<J.length:=by omega
 exact⟨⟨h1,h2,by rw[aoy];omega⟩,by rw[kR ay];exact aA,by rw[kR ay,kR hb];exact a6,λq=>by rw[kR hb];exact cE q⟩
theorem BR.more{J m:List eV}{x:cK}{e:gl}(h:BR J x e):BR (J++m) x e:=by
 rcases h with h | ⟨h1,h2,h3,aA,a6⟩
 ·exact .inl h
 have hb:e.n.toNat<J.length:=by omega
 exact .inr ⟨h1,h2,by rw[aoy];omega,by rw[kR hb];exact aA,by rw[kR hb];exact a6⟩
theorem uD{α:Type}[Inhabited α]{l m:List α}{i:Nat}(h:l.length<=i):(l++m).getD i default=m.getD (i-l.length) default:=by rw[aor,aor,aoS h]
theorem Lg{t:aV}{k:Nat}{cx:fg}{a:List eV}{s:cg}{c5:Nat}(S:gH cx s c5)(aJ:cx.aH=(k:Int)){w:Bool}{l m:List ca}(aL:l.Pairwise pW/\∀p,p∈l->ug a w p)(hm:pY s.J w m): (l++h9 m a.length).Pairwise pW/\∀p,p∈l++h9 m a.length->ug (a++s.J) w p:=by
 refine⟨?_,λp hp=>?_⟩
 ·rw[apz];refine⟨aL.1,adK hm.nodup _,λx hx y aY=>?_⟩;obtain⟨q,ba,rfl⟩:=R3.1 aY;have h1:=(aL.2 x hx).lt;have h2:=(hm.ok q ba).1;unfold pW iI nP;dsimp only;rw[aox,aop];exact .inl (by omega)
 rcases aoG.1 hp with hp | hp
 ·exact(aL.2 p hp).more
 obtain⟨q,ba,rfl⟩:=R3.1 hp;obtain⟨h1,h2,h3,aA,a6⟩:=hm.ok q ba;have ti:((a.length:Int)+q.A).toNat-a.length=q.A.toNat:=by omega
 have xi:((a.length:Int)+q.B).toNat-a.length=q.B.toNat:=by omega
 have hA:=S.J _ (eN (show q.A.toNat<s.J.length by omega));have hB:=S.J _ (eN (show q.B.toNat<s.J.length by omega));unfold nP;refine⟨by dsimp only;rw[aoy];omega,?_,?_,λhw=>?_⟩
 ·dsimp only;rw[uD (by omega),ti];exact aA
 ·dsimp only;rw[uD (by omega),uD (by omega),ti,xi,hA.aH,hB.aH]
 dsimp only;rw[uD (by omega),xi];exact a6 hw
section
variable {t:aV} (G:iS t)
include G
theorem iS.acc:∀{k:Nat} {a:Acc},k<=t.code.length->jb t (br t) k=.ok a->D7 t k a
 | 0,a,_,h=>by unfold jb at h;injection h with h;subst h;exact⟨λ_ h=>(by cases h),List.Pairwise.nil,aoD _,λ_ h=>(by cases h),List.Pairwise.nil,aoD _,λ_ h=>(by cases h),⟨List.Pairwise.nil,λ_ h=>(by cases h)⟩,⟨List.Pairwise.nil,λ_ h=>(by cases h)⟩,⟨List.Pairwise.nil,λ_ h=>(by cases h)⟩,by simp,λi _ h1 h2=>by omega⟩
 | k+1,dJ,hk,h=>by
  obtain⟨a,s,c5,ay,aj,he,rfl⟩:=MC h;have A:=iS.acc (by omega) ay;obtain⟨cj,aae,S⟩:=G.aw (show k<t.code.length by omega) aj;have bH:(t.code.getD k default).length<=256:=G.len _ (eN (by omega));have vW:(ez t k a.J.length).aH=(k:Int):=rfl;have aM:(cn t.aC:Int)<=32:=by unfold cn;split<;>omega
  have hle:c5<=(t.code.getD k default).length:=S.le;have ZR:∀x,x∈s.J->Nb t (k+1) x:=λx hx=>by have E:=S.J x hx;have h1:=E.bo;have h2:(ez t k a.J.length).aC=t.aC:=rfl;rw[h2]at h1;exact⟨by rw[E.aH,vW];omega,by have:=E.place;omega,E.loc,E.num,by omega,E.dir⟩
  have IP:∀b,b∈s.bars->b.aH=(k:Int)/\(0<=b.place/\b.place<256)/\1<=b.dA/\b.dA<=11:=λb hb=>by have B:=S.bars b hb;exact⟨B.aH,by have:=B.place;omega,B.EM⟩
  refine⟨λx hx=>?_,?_,?_,λb hb=>?_,?_,?_,λb hb x hx e=>?_,Lg (t:=t) S vW A.addr S.addr,Lg (t:=t) S vW A.data S.data,Lg (t:=t) S vW A.bh S.dF,?_,λi hi h0 h1=>?_⟩
  ·rcases aoG.1 hx with hx | hx
   ·have E:=A.J x hx;exact⟨by have:=E.bI;omega,E.place,E.loc,E.num,E.bo,E.dir⟩
   exact ZR x hx
  ·rw[apz];refine⟨A.sc,?_,λx hx y aY=>?_⟩
   ·refine apY (λ{x y} hx aY q=>?_) S.sc;unfold iI;rw[(S.J x hx).aH,(S.J y aY).aH];simp[q]
   have h1:=(A.J x hx).bI;have h2:=(S.J y aY).aH;unfold iI;rw[h2,vW,aow (by omega)];rfl
  ·have:=cj.HT (by show a.J.length+0<=64;have:=A.n;omega);rw[aoy];exact this
  ·rcases aoG.1 hb with hb | hb
   ·obtain⟨cB,bz⟩:=A.bars b hb;exact⟨by omega,bz⟩
   obtain⟨cB,bz⟩:=IP b hb;exact⟨by omega,bz⟩
  ·rw[apz];refine⟨A.rn,?_,λx hx y aY=>?_⟩
   ·refine apY (λ{x y} hx aY q=>?_) S.rn;unfold iI;rw[(S.bars x hx).aH,(S.bars y aY).aH];simp[q]
   have h1:=(A.bars x hx).1;have h2:=(S.bars y aY).aH;unfold iI;rw[h2,vW,aow (by omega)];rfl
  ·have h1:s.bars.length<=256:=by
    have:=Di 256 (s.bars.map (·.place)) (by rw[apI];exact S.rn) λx hx=>by obtain⟨b,hb,rfl⟩:=ao9.1 hx;exact(IP b hb).2.1
    simpa using this
   have:=A.B4;rw[aoy];omega
  ·rcases aoG.1 hb with hb | hb<;>rcases aoG.1 hx with hx | hx
   ·exact A.off b hb x hx e
   ·have:=(A.bars b hb).1;have:=(S.J x hx).aH;rw[vW]at this;omega
   ·have:=(A.J x hx).bI;have:=(IP b hb).1;omega
   intro q;have m1:=(S.J x hx).mem;have m2:=(S.bars b hb).mem;rw[q]at m1;dsimp only at m1 m2;omega
  ·simp[r9]
  show BR (a.J++s.J) _ ((r9 (br t) a.ends k a.J.length s.ag).getD i default);unfold r9;rw[tp hi];split
  ·rename_i e;unfold uw at he;have:=apt.1 he _ (eN hi);rw[aox,aoq,aoA]at this;obtain⟨kP,eR⟩:=apf.1 (this.resolve_left λq=>q e);rw[eR];simp only[apM];have dB:=G.vc (eN hi);have oK:0<=((br t).getD i default).bo/\((br t).getD i default).bo<cn t.aC:=by unfold lG at dB;rw[aot (by omega)]at dB;simp only[aoo,aop]at dB;refine⟨dB.1.1.2,?_⟩;have a6:=dB.1.2;unfold cn;rcases G.aC with q | q<;>rw[q]at a6⊢ <;>simpa using a6
   have kD:=S.ag ((br t).getD i default).bo.toNat (by rw[S.lW];show _<cn t.aC;omega);unfold nC at eR;revert eR;generalize hH:(s.ag.getD ((br t).getD i default).bo.toNat default).has=H at kD;intro eR;unfold vN at eR;split at eR
   ·rename_i n;injection eR with eR;subst eR;exact .inl ⟨rfl,kD.1⟩
   ·rename_i j;injection eR with eR;subst eR;obtain⟨cB,bz⟩:=kD.1;refine .inr ⟨rfl,by dsimp only;omega,by dsimp only;rw[aoy];omega,?_,?_⟩
    ·dsimp only;rw[aoF,uD (by omega),aqz];exact bz
    dsimp only;rw[aoF,uD (by omega),aqz,(S.J _ (eN cB)).aH];exact e.symm
   cases eR
  rename_i e;exact(A.ends i hi h0 (by omega)).more
theorem iS.abJ:(od t).length=(cc t).length:=by
 unfold od;have:∀(l:List mu) (v:List Int),(l.foldl (λv x=>if x.aH= -1 then v.set (dr (cc t) x.loc) x.value.n else v) v).length=v.length:=by
  intro l
  induction l with
  | nil=>intro v;rfl
  | cons x l bP=>intro v;rw[apR,bP];split<;>simp
 rw[this,aoX]
theorem iS.abK{i:Nat}(hi:i<(cc t).length):eF ((od t).getD i default)=true:=by
 unfold od;have:∀(l:List mu) (v:List Int),(∀x,x∈l->x∈t.init)->(∀i,i<v.length->eF (v.getD i default)=true)->∀i,i<v.length->eF ((l.foldl (λv x=>if x.aH= -1 then v.set (dr (cc t) x.loc) x.value.n else v) v).getD i default)=true:=by
  intro l
  induction l with
  | nil=>intro v _ h;exact h
  | cons x l bP=>
   intro v aL h i hi;rw[apR];refine bP _ (λy aY=>aL y (.tail _ aY)) (λj ae=>?_) i (by split<;>simpa using hi);split
   ·rename_i e;rw[fU];split
    ·exact(G.FP (aL x aP) e).2.2.1
    rename_i q;rw[aou e,aoU]at ae;exact h j ae
   rename_i e;rw[aot e]at ae;exact h j ae
 refine this _ _ (λ_ h=>h) (λj ae=>?_) i (by rw[aoX];exact hi);rw[aoX]at ae;rw[aor,apj,aou ae];decide
theorem iS.adY{s:ByteArray}(aj:s∈cc t):eE s=true:=by
 obtain⟨h1,h2⟩:=uY.1 aj;unfold ni at h1;rw[aoG,aoG]at h1;rcases h1 with(h1 | h1) | h1
 ·obtain⟨x,hx,hm⟩:=api.1 h1;have kA:s=x.loc\/s=x.value.loc:=by simpa using hm
  by_cases e:x.aH= -1
  ·obtain⟨cB,_,_,bz⟩:=G.FP hx e;rcases kA with rfl | rfl
   ·exact cB
   exact absurd bz h2
  obtain⟨_,_,cB,_,_,bz⟩:=G.xL hx e;rcases kA with rfl | rfl
  ·exact absurd cB h2
  rcases bz with⟨bz,_⟩ | ⟨_,_,bz,_⟩
  ·exact absurd bz h2
  exact bz
 ·obtain⟨c,ai,hm⟩:=api.1 h1;obtain⟨i,hi,rfl⟩:=ao9.1 hm;have bV:=G.ins c ai i hi;unfold ng at bV;split at bV
  ·have F:=Ke bV;have:=F.A8 rfl;by_cases q:i.op=1\/i.op=2\/i.op=3
   ·exact F.loc q
   exfalso;unfold kn at bV;rw[aoo,aop]at bV;have e:=aoI Instr.loc bV.2;unfold rX at e;rw[aot (by omega),aot (by omega),aot (by omega)]at e;split at e<;>exact h2 e.symm
  exact absurd (y6 bV).2 h2
 obtain⟨x,hx,rfl⟩:=ao9.1 h1;rcases wV.1 (G7 (G.vc hx)).1 with⟨_,_,q⟩ | ⟨_,_,_,_,q⟩
 ·exact q
 exact absurd q h2
end
end Go.bM
namespace Go.w4
open Go Go.ChangeShapes Go.WideShapes Go.ChangeAt Go.RowKit
section
variable {H:Type} {enc:TypeId×Value->H} {P:Program} {W mw:World}
theorem U6(aL:laidOutB P=true)(hb:Below W.heap.size W mw):∀(ts:List TypeId) {vs:List Value} {n0:List (DataW H)} {hl:List MemPlace},(∀t,t∈ts->P.readableRec t=true/\t<P.types.size)-> DataW.TrodAll enc P W 0 (λ_=>true) true ts vs n0 hl->(∀x∈hl,x.block<W.heap.size)->DataW.TrodAll enc P mw 0 (λb=>decide (b<W.heap.size)) true ts vs n0 hl
 | [],_,_,_,_,h,_=>by obtain⟨rfl,rfl,rfl⟩:=trodAll_nil h;exact trodAll_mk0
 | t::ts,_,_,_,aJ,h,dq=>by
  obtain⟨v,anU,d,akF,p,q,rfl,rfl,rfl,h1,h2⟩:=trodAll_cons h;exact trodAll_cons_mk (Below.trod aL (aJ t aP).1 (aJ t aP).2 h1 hb λx hx=>dq x (aoK _ hx)) (U6 aL hb ts (λde cm=>aJ de (.tail _ cm)) h2 λx hx=>dq x (apA _ hx))
theorem aeN{f:Func}{s:ChangeSpec}{args:Array Value}{n0:List (DataW H)}{before:List MemPlace}{gF:TypeId}(aL:laidOutB P=true)(hp:∀t,t∈f.params.toList->P.readableRec t=true/\t<P.types.size) (QY:s.vars=[]) (aaR:f.resultTypes=#[gF]) (wi:P.underlying gF=some .bool) (xt:DataW.Whole enc P f.params.toList s.vars false W args.toList n0 [] before) (aaK:(s.fn H (n0++[])).results=[.lit (.bool true)]) (Zs:(s.fn H (n0++[])).args=n0) (iA:(s.fn H (n0++[])).vars=[]) (hb:Below W.heap.size W mw):s.post enc P f false true false false W args (.bool true) mw:=by
 have E5:=xt;obtain⟨p,q,hA,Ap,rfl,_,_⟩:=xt;rw[QY]at Ap;obtain⟨_,rfl⟩:=trodVars_none Ap;have dq:∀x∈p,x.block<W.heap.size:=λx hx=>E5.lt x (aoK _ hx);refine⟨n0,[],p++[],[],p,[],E5,?_,?_,?_,hb.frame _,λh=>by cases h⟩
 ·rw[aaK,aaR];exact trodAll_mk1 (shut_bool wi true)
 ·rw[Zs];exact U6 aL hb _ hp hA dq
 rw[iA,QY];rfl
end
end Go.w4
namespace Go.w4
open Go Go.ChangeShapes Go.WideShapes Go.ChangeAt Go.RowKit Go.b9 Go.Deep
section
variable {H:Type} {enc:TypeId×Value->H} {P:Program} {W:World}
abbrev zN(enc:TypeId×Value->H)(P:Program)(W:World)(n:Nat)(t:TypeId)(cs:List Value):Option (DataW H×List MemPlace):=DataW.trod enc P W 0 (λ_=>true) true n t cs
theorem Wv{n fuel:Nat}{t e:TypeId}{k:IntKind}{cs:List Value}{sp:Nat->Bool}{held:Bool}{zs:List Int}{hl:List MemPlace}(aJ:P.underlying t=some (.array n e))(he:P.underlying e=some (.int k))(ai:P.cellsOf e=1) (h:DataW.trod enc P W 0 sp held fuel t cs=some (.agg (zs.map λ(z:Int)=>(DataW.lit (Lit.int k z):DataW H)),hl)):∀(i:Nat) (z:Int),zs[i]?=some z->cs[i]?=some (Value.int k z):=by
 obtain⟨xs,m,rfl,hx,aL,bd,j5⟩:=DataW.trod_array aJ h;simp only[Prod.mk.injEq,DataW.agg.injEq]at hx;intro i z a1;have bH:zs.length=xs.length:=by have:=aoI List.length hx.1;simpa using this
 have hi:i<zs.length:=(ao2.1 a1).1;have h1:=j5 i (by omega);rw[ai,ara,aov (by omega)]at h1;obtain⟨q,h2,h3,_⟩:=DataW.trod_int he h1;have aA:=aoI (λl=>l[i]?) hx.1;simp only[ao4,a1,aqF,aov (show i<xs.length by omega),h3,aqj,DataW.lit.injEq,Lit.int.injEq,true_and]at aA;subst aA;have a6:=aoI (λl=>l[0]?) h2;simpa using a6
theorem Yb(g n i:Nat):gT (vA g n) 1 i 0=⟨g,i,none⟩:=by
 rcases Nat.eq_zero_or_pos i with rfl | hi
 ·simp[gT,vA,Addr.add]
 simp[gT,vA,Addr.add];omega
theorem aiF{n g fuel:Nat}{t e:TypeId}{Gg:String}{cs:Array Value}{sp:Nat->Bool}{held:Bool}{zs:List Nat}{hl:List MemPlace}(aJ:P.underlying t=some (.array n e))(he:P.underlying e=some (.int .u8))(ai:P.cellsOf e=1)(bd:zs.length=n)(hm:n<=4096) (az:P.globalNamed Gg=some g) (ax:W.var? P Gg=some cs) (h:DataW.trod enc P W 0 sp held fuel t cs.toList=some (.agg (zs.map λ(z:Nat)=>(DataW.lit (Lit.int .u8 (z:Int)):DataW H)),hl)):aZ al W Ah 1 (vA g n) zs:=by
 have cm:DataW.trod enc P W 0 sp held fuel t cs.toList=some (.agg ((zs.map λ(z:Nat)=>(z:Int)).map λ(z:Int)=>(DataW.lit (Lit.int .u8 z):DataW H)),hl):=by rw[h,aq9];rfl
 refine⟨⟨some ⟨g,0,none⟩,n,n,rfl,bd.symm,aoL _,by unfold maxLen;omega,λ_=>rfl⟩,λi x j u hi ae=>?_,λ_ _ _ _ _=>trivial⟩;have h1:=Wv aJ he ai cm i x (by rw[ao4,hi];rfl);rcases j with _ | j
 ·simp[Ah]at ae;subst ae;have h2:=World.var?_cell az ax i;rw[show gT (vA g n) 1 i 0=⟨g,i,none⟩from by rw[Yb],h2];simpa using h1
 simp[Ah]at ae
end
section
variable {H:Type} {enc:TypeId×Value->H} {P:Program} {W:World}
def oz(enc:TypeId×Value->H)(P:Program)(W:World)(t:TypeId)(Φ:List Value->Prop):Prop:=∀n cs y,zN enc P W n t cs=some y->(∀k,k∈y.1.weights P t->k<=reachBytes)->Φ cs
theorem pQ{t:TypeId}(aJ:P.underlying t=some (.int .i64)):oz enc P W t λcs=>∃n:Int,cs=[.int .i64 n]/\ -9223372036854775808<=n/\n<=9223372036854775807:=λn cs y h _=>by obtain⟨m,rfl,_,hw⟩:=DataW.trod_int aJ h;simp only[Lit.wf,aoo,aop]at hw;have h1:IntKind.i64.min= -9223372036854775808:=rfl;have h2:IntKind.i64.max=9223372036854775807:=rfl;exact⟨m,rfl,by omega,by omega⟩
theorem zk{t:TypeId}(aJ:P.underlying t=some .string):oz enc P W t λcs=>∃s:ByteArray,cs=[.string s]/\s.size<=140737488351232:=λn cs y h hw=>by obtain⟨s,rfl,hx,_⟩:=DataW.trod_string aJ h;refine⟨s,rfl,?_⟩;have:=hw s.data.toList.length (by rw[hx];simp[DataW.weights]);simp only[reachBytes,aqE]at this;exact this
def D9(enc:TypeId×Value->H)(P:Program)(W:World)(e:TypeId){aX:Type}(kP:aX->List Value)(Ψ:aX->Prop):Prop:=oz enc P W e λcs=>∃x:aX,cs=kP x/\Ψ x
theorem MT{e:TypeId}:∀{n0:List (DataW H)} {d:DataW H},d∈n0->∀k,k∈d.weights P e->k∈DataW.weightsAll P e n0
 | d0::n0,d,hd,k,hk=>by
  simp only[DataW.weightsAll,aoG];rcases aoO.1 hd with rfl | hd
  ·exact .inl hk
  exact .inr (MT hd k hk)
theorem K0{aX:Type}{kP:aX->List Value}{Ψ:aX->Prop}{sz:Nat}{t e:TypeId}(aJ:P.underlying t=some (.slice e))(ai:P.cellsOf e=sz)(j5:D9 enc P W e kP Ψ): oz enc P W t λcs=>∃v xs,cs=[v]/\aZ al W kP sz v xs/\xs.length* P.bytesOf e<=140737488351232/\∀x,x∈xs->Ψ x:=λfuel cs x h hw=>by
 rcases open_slice aJ h with⟨rfl,rfl⟩ | ⟨a,len,cap,m,n,D,V3,rfl,hb,aL,hm,kB,rfl,hx⟩
 ·exact⟨_,[],rfl,⟨⟨none,0,0,rfl,rfl,aoL _,aoD _,λh=>absurd h (by omega)⟩,λi x j u hi=>by simp at hi,λ_ _ _ _ _=>trivial⟩,by simp,λx hx=>by cases hx⟩
 have v7:m=cap:=by simpa using kB
 subst v7;rw[ai]at hx;simp only[DataW.weights,aJ,aoO,aoG]at hw;have each:∀k,k<=len->∃xs:List aX,xs.length=k/\(∀i x,xs[i]?=some x->W.cells? 0 (a.add (i* sz)) sz=some (kP x))/\∀x,x∈xs->Ψ x:=by
  intro k
  induction k with
  | zero=>exact λ_=>⟨[],rfl,λi x hi=>by simp at hi,λx hx=>by cases hx⟩
  | succ k bP=>
   intro hk;obtain⟨xs,bH,bG,eJ⟩:=bP (by omega);obtain⟨pE,h1,h2⟩:=hx k (by omega);obtain⟨y,rfl,aY⟩:=j5 _ _ _ h2 λq ba=>hw q (.inr (.inl (MT (ao9.2 ⟨k,aoQ.2 (by omega),rfl⟩) q ba)));refine⟨xs++[y],by simp[bH],λi x hi=>?_,λx hx=>?_⟩
   ·by_cases mX:i<xs.length
    ·rw[aoT mX]at hi;exact bG i x hi
    rw[aoS (by omega)]at hi;by_cases h0:i-xs.length=0
    ·rw[h0]at hi;obtain rfl:y=x:=by simpa using hi
     obtain rfl:i=k:=by omega
     exact h1
    rw[aoV (by simp;omega)]at hi;cases hi
   rw[aoG,aoB]at hx;rcases hx with hx | rfl
   ·exact eJ x hx
   exact aY
 obtain⟨xs,bH,bG,eJ⟩:=each len (aoL _);refine⟨_,xs,rfl,⟨⟨some a,len,m,rfl,bH.symm,aL,hm,λ_=>rfl⟩,λi x j u hi ae=>?_,λ_ _ _ _ _=>trivial⟩,?_,eJ⟩
 ·obtain⟨_,h2,h3⟩:=World.cells?_some (bG i x hi);have gD:j<sz:=by
   rcases ao6 j sz with cm | cm
   ·exact cm
   rw[aoV (by omega)]at ae;cases ae
  rw[<-ae];exact h3 j gD
 have:=hw _ (.inl rfl);simp only[aoJ,aqC,reachBytes]at this;exact ao5 (apo _ (by omega)) this
def x4:List (List Value->Prop)->List Value->Prop
 | [],cs=>cs=[]
 | Φ::ox,cs=>∃c pE,cs=c++pE/\Φ c/\x4 ox pE
def vI(P:Program):List Field->Nat->Nat->Bool
 | [],o,n=>o==n
 | f::fO,o,n=>f.offset==o&&vI P fO (o+P.cellsOf f.type) n
inductive BU(enc:TypeId×Value->H)(P:Program)(W:World):List Field->List (List Value->Prop)->Prop where
 | nil:BU enc P W [] []
 | cons {f:Field} {Φ:List Value->Prop} {fO:List Field} {ox:List (List Value->Prop)}:oz enc P W f.type Φ->BU enc P W fO ox->BU enc P W (f::fO) (Φ::ox)
theorem Oa{n:Nat}{cs:List Value}:∀{fO:List Field} {ox:List (List Value->Prop)} {o:Nat} {xs:List (DataW H×List MemPlace)},BU enc P W fO ox->vI P fO o cs.length=true-> (∀(i:Nat) (f:Field),fO[i]?=some f->zN enc P W n f.type ((cs.drop f.offset).take (P.cellsOf f.type))=xs[i]?)->xs.length=fO.length-> (∀k,k∈DataW.weightsEach P (fO.map (·.type)) (xs.map (·.1))->k<=reachBytes)->x4 ox (cs.drop o)
 | _,_,o,xs,.nil,ai,_,_,_=>by simp only[vI,ap7]at ai;simp only[x4];rw[aqg (by omega)]
 | f::fO,_,o,xs,.cons (Φ:=Φ) h1 h2,ai,aM,aL,hw=>by
  match xs,aL with
  | x::xs,aL=>simp only[vI,aoo,ap7]at ai;obtain⟨rfl,ai⟩:=ai;simp only[apg,DataW.weightsEach,aoG]at hw;have h0:zN enc P W n f.type ((cs.drop f.offset).take (P.cellsOf f.type))=some x:=aM 0 f rfl;refine⟨_,cs.drop (f.offset+P.cellsOf f.type),?_,h1 _ _ _ h0 λk hk=>hw k (.inl hk),Oa h2 ai (λi Ij I6=>aM (i+1) Ij I6) (by simpa using aL) λk hk=>hw k (.inr hk)⟩;rw[<-List.drop_drop,aqM]
theorem A7{t:TypeId}{fO:Array Field}{ox:List (List Value->Prop)}(aJ:P.underlying t=some (.struct fO))(ai:vI P fO.toList 0 (P.cellsOf t)=true)(bn:BU enc P W fO.toList ox):oz enc P W t (x4 ox):=λfuel cs x h hw=>by obtain⟨xs,n,_,rfl,aL,bH,hf⟩:=DataW.trod_struct aJ h;simp only[DataW.weights,aJ]at hw;have:=Oa (o:=0) (xs:=xs) bn (by rw[aL];exact ai) (λi f hi=>hf i f (by rw[<-aqP];exact hi)) (by rw[bH];simp) hw;simpa using this
theorem oz.mono{t:TypeId}{Φ Ψ:List Value->Prop}(h:oz enc P W t Φ)(hi:∀cs,Φ cs->Ψ cs):oz enc P W t Ψ:=λn cs y aM hw=>hi cs (h n cs y aM hw)
theorem UL{ts:List TypeId}{n0:List (DataW H)}(h:(DataW.weightsEach P ts n0).all (· <=reachBytes)=true){j:Nat}{t:TypeId}{d:DataW H}(aJ:ts[j]?=some t)(hd:n0[j]?=some d):∀k,k∈d.weights P t->k<=reachBytes:=λk hk=>by have:=apt.1 h _ (DataW.weights_mem_each aJ hd k hk);simpa using this
theorem Ws{r:Reach}{b0:Nat}{t:TypeId}{v:Value}{d:DataW H}{p:List MemPlace}{Φ:List Value->Prop}(aj:∃cs,v=.agg cs)(h:DataW.Trod enc P W 0 (λ_=>true) true t v d p)(ej:∀k,k∈d.weights P t->k<=reachBytes)(bn:oz enc P W t Φ): ∃cs,v=.agg cs.toArray/\Φ cs:=by obtain⟨cs,rfl⟩:=aj;obtain⟨fuel,hf⟩:=h;exact⟨cs.toList,by simp,bn _ _ _ hf ej⟩
theorem Wu{r:Reach}{b0:Nat}{t:TypeId}{fO:Array Field}{v:Value}{d:DataW H}{p:List MemPlace}{Φ:List Value->Prop}(aj:P.underlying t=some (.struct fO))(ax:Value.okWide P W r b0 t v)(h:DataW.Trod enc P W 0 (λ_=>true) true t v d p)(ej:∀k,k∈d.weights P t->k<=reachBytes)(bn:oz enc P W t Φ): ∃cs,v=.agg cs.toArray/\Φ cs:=by obtain⟨cs,fP,_⟩:=okWide_struct aj ax;exact Ws (r:=r) (b0:=b0) ⟨cs,fP⟩ h ej bn
theorem Wt{t:TypeId}{v:Value}{d:DataW H}{p:List MemPlace}{Φ:List Value->Prop}(ax:v.cells=#[v])(h:DataW.Trod enc P W 0 (λ_=>true) true t v d p)(ej:∀k,k∈d.weights P t->k<=reachBytes)(bn:oz enc P W t Φ):Φ [v]:=by obtain⟨fuel,hf⟩:=h;rw[ax]at hf;exact bn _ _ _ hf ej
theorem Xi{r:Reach}{b0:Nat}{t:TypeId}{k:IntKind}{v:Value}(aJ:P.underlying t=some (.int k))(ax:Value.okWide P W r b0 t v):v.cells=#[v]:=by obtain⟨n,rfl⟩:=okWide_int aJ ax;rfl
end
end Go.w4
namespace Go.Proofs.bA
open Go Go.b9 Go.gG Go.w4 Go.ChangeShapes Go.WideShapes Go.ChangeAt Go.RowKit Go.Joins
theorem own:ownKnob prog.godebug=none:=by kernel_rfl
theorem laidOut:laidOutB prog=true:=by kernel_rfl
abbrev zc:List (String×DataW Unit):=[("math/bits.deBruijn64tab",Rows.laid_math_bits_deBruijn64tab),("unicode/utf8.acceptRanges",Rows.laid_unicode_utf8_acceptRanges),("unicode/utf8.first",Rows.laid_unicode_utf8_first)]
theorem YY:prog.globalNamed "math/bits.deBruijn64tab" =some 3:=by kernel_rfl
theorem aiC:(prog.globals[3]?).map (·.type)=some 424:=by kernel_rfl
theorem X5(os:Os)(args:Array Value):laidMetH prog zc ((World.laidAll prog os zc).forCall (λ_ _=>0) ⟨#[],args,[]⟩).memory:=by rw[MakeChecks.laidMetH_plain _ _ _ (by kernel_rfl)];exact laidMet_laidAll _ (by kernel_rfl) (by kernel_rfl)
theorem aiE{W:World}(h:laidMetH prog zc W):lK W:=by rw[MakeChecks.laidMetH_plain _ _ _ (by kernel_rfl)]at h;obtain⟨hl,⟨g0,t0,akC,f0,aes,q0,P4,aa3,FB,ZF,_,_⟩,_,_⟩:=h;obtain rfl:=aqW (YY.symm.trans P4);obtain rfl:=aqW (aiC.symm.trans aa3);exact aiF (zs:=Lib.deBruijn64tab) underlying424 underlying5 (by kernel_rfl) rfl (by decide) P4 FB ZF
end Go.Proofs.bA
