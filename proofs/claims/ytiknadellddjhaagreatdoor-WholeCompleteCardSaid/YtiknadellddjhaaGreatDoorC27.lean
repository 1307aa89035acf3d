/- Lemmas for the law WholeComplete. -/
import Derived.Shelf.SlSortCmp.NoneTotal
import Derived.IntWalk
import Derived.Lib.Hide
import Derived.Test.YtiknadellddjhaaGreatDoorC20
import Derived.Test.YtiknadellddjhaaGreatDoorC24
set_option linter.all false
open Go.Proofs.Tryz
set_option maxHeartbeats 6400000
open Go Go.b9 Go.bM
attribute [local irreducible] Go.wpList Go.Code.wp Go.bodyPost Go.Exit.then Go.Exit.inBlock Go.Calls
namespace Go.bM
def DP(a b:cK):Int:=
 if a.aH= -1/\b.aH= -1 then Lib.compareBytes a.loc.data.toList b.loc.data.toList
 else if a.aH= -1 then 1 else if b.aH= -1 then -1 else if ¬a.aH=b.aH then a.aH-b.aH else a.bo-b.bo
end Go.bM
namespace Go.Proofs.bA
open Go Go.b9 Go.bM Go.Proofs Go.RowKit Go.Sort Go.Shelf Go.Lib
set_option maxRecDepth 100000 in
theorem XA(x y:cK)(hx:iH x)(aY:iH y)(W:World):Calls prog 148 #[.agg (eH x).toArray,.agg (eH y).toArray] W λe I=>e=.returned (.int .i64 (DP x y))/\∃q Dt,I=grow (W.drewN q) Dt:=by
 have Aw:=λmw=>Any.strings_Compare acF x.loc y.loc mw;change ∀mw,Calls prog 233 _ _ _ at Aw;have AL:Hid (wrap64 (x.bo-y.bo)=x.bo-y.bo/\wrap64 (x.aH-y.aH)=x.aH-y.aH):=by
  have a:∀z,iH z-> -1<=z.aH/\z.aH<16/\0<=z.bo/\z.bo<32:=λz a1=>by rcases wV.1 a1 with h | h<;>omega
  have:=a x hx;have:=a y aY;exact Lib.hid ⟨by unfold wrap64;omega,by unfold wrap64;omega⟩
 clear hx aY;obtain⟨sV,akk,M4⟩:=x;obtain⟨Hp,ako,M5⟩:=y;unfold DP;dsimp only at Aw⊢;generalize Lib.compareBytes M4.data.toList M5.data.toList=r at Aw⊢;change Calls _ _ #[.agg #[.int .i64 sV,.int .i64 akk,.string M4],.agg #[.int .i64 Hp,.int .i64 ako,.string M5]] W _;by_cases h1:sV= -1
 ·by_cases h2:Hp= -1
  ·subst h1 h2
   go_enter func148,ntmps148
   go_wp2_with (go_at_call 233;refine(Aw _).mono ?_;rintro e I ⟨rfl,rfl⟩)
   go_ret
   exact⟨rfl,0,_,by rw[alloc_eq_grow,alloc_eq_grow,grow_grow];rfl⟩
  rw[aot λq=>h2 q.2,aou h1];subst h1;clear Aw
  go_enter func148,ntmps148
  go_wp2
  go_ret
  exact⟨rfl,0,_,by rw[alloc_eq_grow,alloc_eq_grow,grow_grow];rfl⟩
 rw[aot λq=>h1 q.1,aot h1];clear Aw;by_cases h2:Hp= -1
 ·rw[aou h2];subst h2
  go_enter func148,ntmps148
  go_wp2
  go_ret
  exact⟨rfl,0,_,by rw[alloc_eq_grow,alloc_eq_grow,grow_grow];rfl⟩
 rw[aot h2];by_cases h3:sV=Hp
 ·rw[aot λq=>q h3];subst h3
  go_enter func148,ntmps148
  go_wp2
  go_ret
  exact⟨aoI (λn=>Ending.returned (.int .i64 n)) AL.out.1,0,_,by rw[alloc_eq_grow,alloc_eq_grow,grow_grow];rfl⟩
 rw[aou h3]
 go_enter func148,ntmps148
 go_wp2
 go_ret
 exact⟨aoI (λn=>Ending.returned (.int .i64 n)) AL.out.2,0,_,by rw[alloc_eq_grow,alloc_eq_grow,grow_grow];rfl⟩
set_option maxRecDepth 100000 in
theorem ai7(x y:ca)(hx: -1000<=x.A/\x.A<=1000/\ -1000<=x.B/\x.B<=1000)(aY: -1000<=y.A/\y.A<=1000/\ -1000<=y.B/\y.B<=1000)(W:World):Calls prog 78 #[.agg (bB x).toArray,.agg (bB y).toArray] W λe I=>e=.returned (.int .i64 (if ¬x.A=y.A then x.A-y.A else x.B-y.B))/\∃q Dt,I=grow (W.drewN q) Dt:=by
 have AL:Hid (wrap64 (x.A-y.A)=x.A-y.A/\wrap64 (x.B-y.B)=x.B-y.B):=Lib.hid ⟨by unfold wrap64;omega,by unfold wrap64;omega⟩;clear hx aY;obtain⟨M3,mr⟩:=x;obtain⟨VJ,akl⟩:=y;dsimp only at AL⊢;change Calls _ _ #[.agg #[.int .i64 M3,.int .i64 mr],.agg #[.int .i64 VJ,.int .i64 akl]] W _;by_cases h3:M3=VJ
 ·rw[aot λq=>q h3];subst h3
  go_enter func78,ntmps78
  go_wp2
  go_ret
  exact⟨aoI (λn=>Ending.returned (.int .i64 n)) AL.out.2,0,_,by rw[alloc_eq_grow,alloc_eq_grow,grow_grow];rfl⟩
 rw[aou h3]
 go_enter func78,ntmps78
 go_wp2
 go_ret
 exact⟨aoI (λn=>Ending.returned (.int .i64 n)) AL.out.1,0,_,by rw[alloc_eq_grow,alloc_eq_grow,grow_grow];rfl⟩
theorem arq{aX:Type}{enc:aX->List Value}{sz:Nat}[he:eg enc sz]:∀(xs:List aX) (i j:Nat) (x:aX),xs[i]?=some x->j<sz->(xs.flatMap enc)[i* sz+j]?=(enc x)[j]?
 | [],i,j,x,h,_=>by simp at h
 | y::r,0,j,x,h,ae=>by rw[ao8,Nat.zero_mul,aqX,aoT (by rw[he.len];exact ae)];simp at h;rw[h]
 | y::r,i+1,j,x,h,ae=>by rw[ao8,aoS (by rw[he.len,aqi];omega),he.len,show(i+1)* sz+j-sz=i* sz+j by rw[aqi];omega];exact arq r i j x (by simpa using h) ae
theorem Pq{aX:Type}[Inhabited aX]{enc:aX->List Value}{sz:Nat}[he:eg enc sz](xs:List aX):flatK enc sz xs.toArray=(xs.flatMap enc).toArray:=by
 refine ext_get! (by rw[size_flatK,ap8,ap8,n2]) λt aJ=>?_;rw[size_flatK,ap8]at aJ;have hp:=he.pos;have h1:t / sz<xs.length:=Nat.div_lt_of_lt_mul (by rwa[Nat.mul_comm]at aJ);have h2:t % sz<sz:=are _ hp;rw[get_flatK _ _ _ _ (by simpa using aJ)];have h3:=arq (enc:=enc) xs (t / sz) (t % sz) xs[t / sz] (aov h1) h2;rw[Nat.mul_comm,Nat.div_add_mod]at h3;have aL:t<(xs.flatMap enc).length:=by rw[n2];exact aJ
 have sm:t % sz<(enc xs[t / sz]).length:=by rw[he.len];exact h2
 rw[aov aL,aov sm,aqj]at h3;rw[getElem!_pos xs.toArray _ (by simpa using h1),getElem!_pos (xs.flatMap enc).toArray t (by simpa using aL)];simp only[List.getElem_toArray];rw[h3];exact getElem!_pos (enc xs[t / sz]) (t % sz) sm
theorem Uu{P:Program}{gb:Shelf.Ren}(L:SlLaysF0.n6 P gb){aX:Type}{enc:aX->List Value}{sz tt:Nat}[he:eg enc sz](ok:aX->Prop)(h1:∀x,∀v∈enc x,v.oneCell'=true) (Wh:∀w,(isAgg (gb.t 24)).run P w=.ok true w) (akp:∀w,(Go.sizeOf (gb.t 24)).run P w=.ok sz w) (tf:aX->aX->Int) (lt:aX->aX->Bool) (dq:∀x y,ok x->ok y->decide (tf x y<0)=lt x y) (y7:∀x,ok x->lt x x=false) (cq:∀x y z,ok x->ok y->ok z->lt x y=true->lt y z=true->lt x z=true) (DT:∀x y,ok x->ok y->lt x y=true\/x=y\/lt y x=true) (VG:aX) (h0:ok VG) (g:Nat) (Ya:∀args w,(callFunc g args).run P w=.ok (.enter g args) w) (ZC:∀x y W,ok x->ok y->Calls P g #[.agg (enc x).toArray,.agg (enc y).toArray] W λe I=>e=.returned (.int .i64 (tf x y))/\∃q Dt,I=grow (W.drewN q) Dt) (v:Value) (xs:List aX) (w:World) (hx:xs.length<=100000) (hok:∀x,x∈xs->ok x) (hw:Mem [] [.own v tt sz enc xs] w): oy P (gb.f 6) [v,.func (.func g) #[] #[]] (.own v tt sz enc xs) w λ_ r e' _=>r=.tuple #[]/\∃ys,e'=.own v tt sz enc ys/\ys.Perm xs/\ys.Pairwise λa b=>lt b a=false:=by
 have gY:=hw.fC _ aP;obtain⟨aL,bn⟩:=hw.own _ aP;unfold oy;rcases bn with⟨rfl,xq⟩ | ⟨EV,cap,cur,rfl,az,eC,bd,hm,ej,gj⟩
 ·have:xs=[]:=aoY xq;subst this;refine(AnyF.slices_SortFunc_none L none 0 _ w).mono ?_;rintro e I ⟨rfl,rfl⟩;unfold r1;exact⟨_,_,rfl,⟨rfl,[],rfl,.refl _,.nil⟩,zg hw⟩
 have CA:EV<w.heap.size:=gY EV (by simp[aB.cN,Value.ownBlock])
 haveI:Inhabited {x // ok x}:=⟨⟨VG,h0⟩⟩
 let ED:{x // ok x}->List Value:=λa=>enc a.1
 haveI ft:eg ED sz:=⟨λa=>he.len a.1,he.pos⟩
 let l:List {x // ok x}:=xs.attachWith ok hok
 have iy:l.length=xs.length:=by simp[l]
 have pJ:l.map (·.1)=xs:=by simp[l]
 have tA:∀m:List {x // ok x},m.flatMap ED=(m.map (·.1)).flatMap enc:=λm=>by
  induction m with
  | nil=>rfl
  | cons a m bP=>rw[ao8,apg,ao8,bP]
 have AH:SWO (ltOf λa b:{x // ok x}=>tf a.1 b.1):=by
  have ba:∀a b:{x // ok x},ltOf (λa b:{x // ok x}=>tf a.1 b.1) a b=lt a.1 b.1:=λa b=>dq a.1 b.1 a.2 b.2;refine⟨λa=>by rw[ba];exact y7 a.1 a.2,λa b c h1 h2=>by rw[ba]at *;exact cq a.1 b.1 c.1 a.2 b.2 c.2 h1 h2,λa b c h1 h2=>?_⟩;rw[ba]at *;refine aoW.2 λh3=>?_;rcases DT a.1 b.1 a.2 b.2 with q | q | q
  ·rw[q]at h1;cases h1
  ·rw[q,h2]at h3;cases h3
  have:=cq b.1 a.1 c.1 b.2 a.2 c.2 q h3;rw[this]at h2;cases h2
 have bL:∀a b:{x // ok x},ltOf (λa b:{x // ok x}=>tf a.1 b.1) a b=false->ltOf (λa b:{x // ok x}=>tf a.1 b.1) b a=false->a=b:=λa b h1 h2=>by
  have bU:=(dq a.1 b.1 a.2 b.2).symm.trans h1;have bq:=(dq b.1 a.1 b.2 a.2).symm.trans h2;rcases DT a.1 b.1 a.2 b.2 with q | q | q
  ·rw[q]at bU;cases bU
  ·exact Subtype.ext q
  rw[q]at bq;cases bq
 have hH:HoldsK ED sz w EV 0 l.toArray:=by unfold HoldsK;rw[Pq,tA,pJ];refine Qk eC ?_;rw[List.map_id,n2];exact gj
 have cG:=AnyQ.slices_SortFunc_total L sz Wh akp ED (λa=>he.len a.1) (λa=>h1 a.1) (λa b=>tf a.1 b.1) AH g #[] EV 0 cap l.toArray w Ya (λm os akE aj a b=>ZC a.1 b.1 _ a.2 b.2) hH CA (by simp[iy];omega) bL;rw[ap8,iy]at cG;refine cG.mono ?_;rintro e I ⟨rfl,n,os,rfl⟩;unfold r1
 let ts:List {x // ok x}:=l.mergeSort λx y=>!(ltOf λa b:{x // ok x}=>tf a.1 b.1) y x
 have Qo:(ts.map (·.1)).Perm xs:=by have:=(aql l λx y=>!(ltOf λa b:{x // ok x}=>tf a.1 b.1) y x).map (·.1);rwa[pJ]at this
 refine⟨_,_,rfl,⟨rfl,ts.map (·.1),rfl,Qo,?_⟩,?_⟩
 ·rw[apI];refine ap1 ?_ (aqy (le:=λx y=>!(ltOf λa b:{x // ok x}=>tf a.1 b.1) y x) (λa b c h1 h2=>by
   rw[aoq]at *;exact AH.ntrans _ _ _ h2 h1) (λa b=>by
   rw[aox,aoq,aoq];by_cases q:ltOf (λa b:{x // ok x}=>tf a.1 b.1) b a=true
   ·right;refine aoW.2 λbz=>?_;have:=AH.trans _ _ _ q bz;rw[AH.irrefl]at this;cases this
   left;exact aoW.2 q) l)
  intro a b h;rw[aoq]at h;exact(dq b.1 a.1 b.2 a.2).symm.trans h
 unfold sortWorldK putRowK;rw[Pq,tA];exact S1 (f:=id) (os:=os) (n:=n) hw Qo.length_eq (List.map_id _)
theorem adO{P:Program}{k:FuncId}{args:List Value}{e:aB}{w:World}{Ψ sW:Nat->Value->aB->World->Prop}(h:oy P k args e w Ψ)(hi:∀n v e' I,Ψ n v e' I->sW n v e' I):oy P k args e w sW:=by unfold oy at *;refine Calls.mono h λx I h=>?_;unfold r1 at *;obtain⟨v,e',h1,h2,h3⟩:=h;exact⟨v,e',h1,hi _ _ _ _ h2,h3⟩
theorem aie{x y:cK}(hx:iH x)(aY:iH y):decide (DP x y<0)=h6 x y:=by
 have hb:∀a b:List UInt8,decide (Lib.compareBytes a b<0)=Op.bytesLess a b:=by
  intro a
  induction a with
  | nil=>intro b;cases b<;>simp[Lib.compareBytes,Op.bytesLess]
  | cons p a bP=>
   intro b;cases b with
   | nil=>simp[Lib.compareBytes,Op.bytesLess]
   | cons q b=>
    unfold Lib.compareBytes Op.bytesLess;rw[<-bP b];by_cases h1:p<q
    ·simp[h1]
    by_cases h2:q<p
    ·have:¬p=q:=λe=>by subst e;exact h1 h2
     simp[h1,h2,this]
    have:p=q:=UInt8.le_antisymm (UInt8.not_lt.1 h2) (UInt8.not_lt.1 h1);simp[h1,h2,this]
 unfold DP h6;by_cases h1:x.aH= -1
 ·by_cases h2:y.aH= -1
  ·rw[aou ⟨h1,h2⟩,aou (.inl h1),hb,aow h1,aow h2];unfold fL;rw[DS,DS];rfl
  rw[aot λq=>h2 q.2,aou h1,aou (.inl h1),aow h1,aoE h2];rfl
 rw[aot λq=>h1 q.1,aot h1];by_cases h2:y.aH= -1
 ·rw[aou h2,aou (.inr h2),aoE h1];rfl
 rw[aot h2,aot (show ¬(x.aH= -1\/y.aH= -1)from λq=>q.elim h1 h2)];by_cases h3:x.aH=y.aH
 ·rw[aot λq=>q h3,aou h3];exact ao7.2 (by omega)
 rw[aou h3,aot h3];exact ao7.2 (by omega)
theorem aia(v:Value)(xs:List cK)(w:World)(hx:xs.length<=100000)(hok:∀x,x∈xs->iH x)(hw:Mem [] [.own v 25 3 eH xs] w): oy prog 147 [v,.func (.func 148) #[] #[]] (.own v 25 3 eH xs) w λ_ r e' _=>r=.tuple #[]/\∃ys,e'=.own v 25 3 eH ys/\ys.Perm xs/\ys.Pairwise λa b=>h6 b a=false:=
 Uu acO iH (λx v ax=>by simp[eH]at ax;rcases ax with rfl | rfl | rfl<;>rfl) (Tryz.isAgg25) (Tryz.sizeOf25) DP h6 (λx y hx aY=>aie hx aY) (λx hx=>aoW.2 (Ei hx)) (λx y z hx aY a1 h1 h2=>B2 hx aY a1 h1 h2) (λx y hx aY=>HC hx aY) ⟨0,0,bg⟩ (wV.2 (.inr ⟨by decide,by decide,by decide,by decide,rfl⟩)) 148 (enters_of func148 (by kernel_rfl) rfl) (λx y W hx aY=>XA x y hx aY W) v xs w hx hok hw
def arn(x:ca):Prop:= -1000<=x.A/\x.A<=1000/\ -1000<=x.B/\x.B<=1000
theorem ah8(v:Value)(xs:List ca)(w:World)(hx:xs.length<=100000)(hok:∀x,x∈xs->arn x)(hw:Mem [] [.own v 178 2 bB xs] w): oy prog 77 [v,.func (.func 78) #[] #[]] (.own v 178 2 bB xs) w λ_ r e' _=>r=.tuple #[]/\∃ys,e'=.own v 178 2 bB ys/\ys.Perm xs/\ys.Pairwise λa b=>kY a b=true:=by
 refine adO (Uu acM arn (λx v ax=>by simp[bB]at ax;rcases ax with rfl | rfl<;>rfl) (Tryz.isAgg178) (Tryz.sizeOf178) (λx y=>if ¬x.A=y.A then x.A-y.A else x.B-y.B) (λx y=>!kY y x) (λx y hx aY=>?_) (λx hx=>?_) (λx y z hx aY a1 h1 h2=>?_) (λx y hx aY=>?_) ⟨0,0⟩ (by unfold arn;decide) 78 (enters_of func78 (by kernel_rfl) rfl) (λx y W hx aY=>ai7 x y hx aY W) v xs w hx hok hw) λ_ r e' _ h=>?_
 ·unfold kY;rw[aoR,aop,aoq,aoz,aoC,aoA,aoA,aoA];split<;>omega
 ·unfold kY;rw[aos,aox,aoo,aop,aop,aop];omega
 ·unfold kY at *;rw[aoq,aoz,aoC,aoA,aoA,aoA]at *;omega
 ·unfold kY;rw[aoq,aoz,aoC,aoA,aoA,aoA,aoq,aoz,aoC,aoA,aoA,aoA];obtain⟨a,b⟩:=x;obtain⟨c,d⟩:=y;simp only[ca.mk.injEq];omega
 obtain⟨h1,ys,h2,h3,aA⟩:=h;exact⟨h1,ys,h2,h3,aA.imp λh=>by simpa using h⟩
end Go.Proofs.bA
namespace Go.Proofs.bA
theorem Mx(v:Value)(l:List ca)(first:Nat)(w:World)(h:aZ al w bB 2 v l)(aL:l.length<=50000)(hf:first<=256)(hp:∀p,p∈l->0<=p.A/\p.A<=256/\0<=p.B/\p.B<=256): bl prog 26 [v,.int .i64 (first:Int)] w λm r I=>aZ (Fr m) I bB 2 r (h9 l first):=by
 have hle:=h.le;refine bZ func26 ntmps26 ?_;refine ea 178 2 bB ?_;refine bX (λs:Nat×Value=>s.1<=l.length/\aD s.2) (λs=>[(10,true,.int .i64 s.1),(9,true,.int .i64 l.length),(8,true,v),(5,true,s.2),(1,true,.int .i64 (first:Int))]) (λs=>Mem [(w,al)] [.own s.2 178 2 bB ((l.take s.1).map (nP first))]) (λs=>l.length-s.1) (0,aa) ⟨aoD _,cU⟩ ?_
 rintro⟨i,u⟩ ⟨hi,hu⟩;dsimp only at hi hu⊢;refine a8 (λh1=>?_) λh1=>?_
 ·have bU:i<l.length:=by rw[an]at h1;omega
  have hb:=hp _ (eN bU);refine U ?_;refine cH λzY=>?_;refine bN 0 ?_;refine aq (eI (ab:=λv24 abj=>U ?_));refine aq (e6 2 (hk:=rfl) (bH:=by simp;omega) (ab:=λv25 JT=>U ?_));refine bm (i+1,v25) ⟨by dsimp only;omega,JT⟩ (by dsimp only;omega) (hA:=λ_ h=>?_);have e:(l.take (i+1)).map (nP first)=(l.take i).map (nP first)++[⟨(first:Int)+(l.getD i default).A,(first:Int)+(l.getD i default).B⟩]:=by rw[apn,getD_some bU,apm];rfl
  dsimp only;rw[e];exact h.cC [2]
 have bU:i=l.length:=by rw[au]at h1;omega
 subst bU;rw[aoZ];refine U ?_;refine aq (uB 0 rfl (bb:=λI hw=>ah8 u (l.map (nP first)) I (by rw[aoJ];omega) (λx hx=>?_) (hw.only aP)) (ab:=?_))
 ·obtain⟨p,uK,rfl⟩:=ao9.1 hx;have:=hp p uK;unfold arn nP;dsimp only;omega
 rintro DD ck b2 bY ⟨rfl,ys,rfl,sr,aj⟩;refine bf λI hw=>?_;rw[<-adJ sr aj];exact hw.im aP aP
theorem ai4(aU:Nat)(t:aV)(ah ad ao:Value)(bI:Int)(ak:Value)(ahead:Nat)(q:j0)(s:cg)(full:Bool)(d:Int)(first:Nat)(w:World)(hd:0<=d/\d<s.ag.length)(hf:first<=256)(aJ:(x0 (s.ag.getD d.toNat default).has).1<=256) (hb:gQ al w aU (gK t ah ad ao bI ak q s.bh ahead full)) (aM:aZ al w e5 5 q.aE (s.ag.map c9)): bl prog 25 [av aU,.int .i64 d,.int .i64 (first:Int)] w λ_ v _=>v=.tuple #[.agg (oF ((vN first (s.ag.getD d.toNat default).has).getD ⟨0,0⟩)).toArray,.bool (vN first (s.ag.getD d.toNat default).has).isSome]:=by
 have ep:(s.ag.map c9).length=s.ag.length:=aoJ _;have iz:=aM.aK;have az:=wO (l:=s.ag) (i:=d.toNat) (by omega);have h0:0<=(x0 (s.ag.getD d.toNat default).has).1:=by cases(s.ag.getD d.toNat default).has<;>simp[x0]
 refine ha func25 ntmps25 ?_;refine ei λbe=>?_;rw[az];refine dh (BB (s.ag.getD d.toNat default).has (b3 rfl)) (ab:=af ?_);refine bC (λh1=>?_) λh1=>?_
 ·refine af ?_;refine c7 0 ?_;refine bT rfl (.dv rfl aP rfl (.t1 rfl)) λI hw=>?_;rw[sC h1];rfl
 refine af ?_;refine dh (aiD (s.ag.getD d.toNat default).has (b3 rfl)) (ab:=af ?_);refine bC (λh2=>?_) λh2=>?_
 ·refine af ?_;refine c7 0 ?_;refine bT rfl (.dv rfl aP rfl (.t1 rfl)) λI hw=>?_;revert h2;cases(s.ag.getD d.toNat default).has<;>intro h2<;>first | (cases h2;done) | rfl
 refine af ?_;refine c7 0 ?_;refine bT rfl (.dv rfl aP rfl (.t1 rfl)) λI hw=>?_;revert h1 h2;cases(s.ag.getD d.toNat default).has<;>intro h1 h2<;>first | (cases h1;done) | (cases h2;done) | rfl
end Go.Proofs.bA
namespace Go.bM
section
variable {aX:Type} [Inhabited aX] [DecidableEq aX] {ok:aX->Prop} {lt:aX->aX->Bool}
theorem KJ{xs:List aX}{x:aX}:x∈l5 xs↔x∈xs:=by
 unfold l5 qE;rw[ao9];constructor
 ·rintro⟨j,ae,rfl⟩;rw[apd,aoQ]at ae;exact eN ae.1
 intro h;have key:∀j,j<xs.length->∃i,i∈(List.range xs.length).filter (jW xs)/\xs.getD i default=xs.getD j default:=by
  intro j
  induction j with
  | zero=>intro ae;exact⟨0,by rw[apd,aoQ];exact⟨ae,rfl⟩,rfl⟩
  | succ j bP=>
   intro ae;by_cases e:jW xs (j+1)=true
   ·exact⟨j+1,by rw[apd,aoQ];exact⟨ae,e⟩,rfl⟩
   obtain⟨i,h1,h2⟩:=bP (by omega);refine⟨i,h1,h2.trans ?_⟩;unfold jW at e;rw[aoE (by omega),ap6,apS,aos,aop]at e;exact e.symm
 obtain⟨j,ae,rfl⟩:=pj h;exact key j ae
theorem OB(y7:∀x,ok x->lt x x=false)(cq:∀x y z,ok x->ok y->ok z->lt x y=true->lt y z=true->lt x z=true)(DT:∀x y,ok x->ok y->lt x y=true\/x=y\/lt y x=true) {xs:List aX} (hok:∀x,x∈xs->ok x) (h:xs.Pairwise λa b=>lt b a=false):(l5 xs).Pairwise λa b=>lt a b=true:=by
 unfold l5 qE;rw[apI,aph];have hs:∀i j,i<j->j<xs.length->lt (xs.getD j default) (xs.getD i default)=false:=λi j iw ae=>by have:=aph.1 h i j (by omega) ae iw;rwa[aor,aor,aov ae,aov (show i<xs.length by omega)]
 intro a b ay hb l8;have aj:((List.range xs.length).filter (jW xs)).Pairwise (· <·):=apL _ aq6;have dq:=aph.1 aj a b ay hb l8;have AE:=apC hb;rw[apd,aoQ]at AE;generalize((List.range xs.length).filter (jW xs))[a]=i at dq⊢;generalize((List.range xs.length).filter (jW xs))[b]=j at dq AE⊢;have o:∀q,q<xs.length->ok (xs.getD q default):=λq ba=>hok _ (eN ba);have h1:¬xs.getD j default=xs.getD (j-1) default:=by have:=AE.2;unfold jW at this;rw[aoE (by omega),ap6,aoq,aoA]at this;exact this
 have h2:lt (xs.getD (j-1) default) (xs.getD j default)=true:=by
  rcases DT _ _ (o (j-1) (by omega)) (o j AE.1)with q | q | q
  ·exact q
  ·exact absurd q.symm h1
  rw[hs (j-1) j (by omega) AE.1]at q;cases q
 by_cases e:i=j-1
 ·rw[e];exact h2
 rcases DT _ _ (o i (by omega)) (o (j-1) (by omega))with q | q | q
 ·exact cq _ _ _ (o i (by omega)) (o (j-1) (by omega)) (o j AE.1) q h2
 ·rw[q];exact h2
 rw[hs i (j-1) (by omega) (by omega)]at q;cases q
theorem MJ{R:aX->aX->Prop}(y7:∀x,ok x->¬R x x)(cq:∀x y z,ok x->ok y->ok z->R x y->R y z->R x z):∀(l m:List aX),(∀x,x∈l->ok x)->l.Pairwise R->m.Pairwise R->(∀x,x∈l↔x∈m)->l=m
 | [],m,_,_,_,h=>by
  cases m with
  | nil=>rfl
  | cons b m=>exact absurd ((h b).2 aP) (by simp)
 | a::l,[],_,_,_,h=>absurd ((h a).1 aP) (by simp)
 | a::l,b::m,bn,aL,hm,h=>by
  rw[apa]at aL hm;have ay:=bn a aP;have hb:ok b:=bn b ((h b).2 aP);have l8:a=b:=by
   rcases aoO.1 ((h a).1 aP)with q | q
   ·exact q
   rcases aoO.1 ((h b).2 aP)with bz | bz
   ·exact bz.symm
   exact absurd (cq _ _ _ ay hb ay (aL.1 b bz) (hm.1 a q)) (y7 a ay)
  subst l8;rw[MJ y7 cq l m (λx hx=>bn x (.tail _ hx)) aL.2 hm.2 λx=>⟨λq=>by
   rcases aoO.1 ((h x).1 (.tail _ q))with e | e
   ·rw[e]at q;exact absurd (aL.1 a q) (y7 a ay)
   ·exact e,λq=>by
   rcases aoO.1 ((h x).2 (.tail _ q))with e | e
   ·rw[e]at q;exact absurd (hm.1 a q) (y7 a ay)
   exact e⟩]
end
theorem aiP{ls ys:List cK}(hok:∀x,x∈ls->iH x)(hp:ys.Perm ls)(aj:ys.Pairwise λa b=>h6 b a=false):l5 ys=qZ ls []:=by
 have Qn:∀x,x∈ys->iH x:=λx hx=>hok x (hp.mem_iff.1 hx);have hf:=ES ls [] hok (λx hx=>by cases hx) List.Pairwise.nil;refine MJ (ok:=iH) (R:=vn) (λx hx=>Ei hx) (λx y z hx aY a1 h1 h2=>B2 hx aY a1 h1 h2) _ _ (λx hx=>Qn x (KJ.1 hx)) (OB (ok:=iH) (lt:=h6) (λx hx=>aoW.2 (Ei hx)) (λx y z hx aY a1 h1 h2=>B2 hx aY a1 h1 h2) (λx y hx aY=>HC hx aY) Qn aj) hf.1 λx=>?_
 rw[KJ,hp.mem_iff];exact⟨λq=>(hf.2 x).2 (.inl q),λq=>((hf.2 x).1 q).resolve_right (by simp)⟩
theorem W2(x:List UInt8):Op.bytesLess x []=false:=by cases x<;>rfl
theorem adZ{t:aV}{ys:List ByteArray}(hp:ys.Perm (ni t))(aj:ys.Pairwise λa b=>fL b a=false):(if 0<(l5 ys).length/\(l5 ys).getD 0 default=bg then(l5 ys).drop 1 else l5 ys)=cc t:=by
 have hs:=OB (ok:=λ_:ByteArray=>True) (lt:=fL) (λx _=>tP x) (λx y z _ _ _ h1 h2=>wA h1 h2) (λx y _ _=>KA x y) dz aj;have hm:∀x,x∈l5 ys↔x∈ni t:=λx=>by rw[KJ,hp.mem_iff]
 refine MJ (ok:=λ_=>True) (R:=qw) (λx _ h=>by unfold qw at h;rw[tP]at h;cases h) (λx y z _ _ _ h1 h2=>wA h1 h2) _ _ dz ?_ (xS t) λx=>?_
 ·split
  ·exact List.Pairwise.drop hs
  exact hs
 rw[uY,<-hm];cases a1:l5 ys with
 | nil=>simp
 | cons a r=>
  rw[a1,apa]at hs;have dS:∀b,b∈r->b≠bg:=λb hb e=>by have:=hs.1 b hb;rw[e]at this;unfold fL at this;rw[DS bg]at this;rw[show bg.data.toList=[]from rfl,W2]at this;cases this
  show x∈(if 0<(a::r).length/\a=bg then r else a::r)↔_;by_cases e:a=bg
  ·rw[aou ⟨by simp,e⟩,aoO];exact⟨λq=>⟨.inr q,dS x q⟩,λq=>q.1.resolve_left λbz=>q.2 (bz.trans e)⟩
  rw[aot λq=>e q.2,aoO];refine⟨λq=>⟨q,?_⟩,λq=>q.1⟩;rcases q with q | q
  ·rw[q];exact e
  exact dS x q
end Go.bM
namespace Go.Proofs.bA
theorem XC(n:e3)(ao:Value)(w:World)(bd:k6 al w n ao)(hok:∀x,x∈jM n->iH x)(xC:(jM n).length<=1024): bl prog 70 [.agg (gX (iZ n ao)).toArray] w λm v I=>aZ (Fr m) I eH 3 v (qZ (jM n) []):=by have hr:=bd.aK;refine bZ func70 ntmps70 ?_;refine b7 λkt=>?_;refine cH λcZ=>?_;refine ea 25 3 eH ?_;refine cA (Mem [(w,al)] (oA cZ aa []++[.box kt (gX (iZ n ao)) 28])) (b4 [1,0,2]) ?_;refine aq (eB (bb:=λI hw=>Xr cZ (SizeOf.sizeOf n+1) n ao aa [] I (by omega) cU (by simpa using(by omega:(jM n).length<=4096)) hw.dt.ew (bd.map λv db h=>hw.iD h aP λe he=>aoK _ he)) (ab:=?_));rintro r bx es bc ⟨rfl,v,ax,rfl⟩;show cR _ _ _ (Mem _ (.box cZ [v] 38::.own v 25 3 eH ([]++jM n)::[.box kt (gX (iZ n ao)) 28]));rw[apb];refine U ?_;refine aq (uB 1 rfl (bb:=λI hw=>aia v (jM n) I (by omega) hok (hw.only dg)) (ab:=?_));rintro DD ck b2 bY ⟨rfl,ys,rfl,hp,aj⟩;have pf:=hp.length_eq;refine U ?_;refine aq (uB 1 rfl (bb:=λI hw=>ah0 v ys I ax (by omega) (hw.only dg)) (ab:=?_));rintro GC hj gg fW ⟨dG,yY,rfl,rfl⟩;refine bf λI hw=>?_;rw[<-aiP hok hp aj];exact hw.im dg aP
theorem Og(dH:Int)(n:e3)(ao:Value)(w:World)(bd:k6 al w n ao):bl prog 22 [.agg (.int .i64 dH::gX (iZ n ao)).toArray] w λm v I=>∃aT,v=.tuple #[aT,.int .i64 (o4 2 dH n)]/\aZ (Fr m) I eH 3 aT (fS dH n):=by
 have hr:=bd.aK;refine bZ func22 ntmps22 ?_;refine b7 λfy=>?_;refine aq (bp (λI hw=>Of 2 dH n ao I (bd.map λv db h=>hw.now h)) ?_);rintro v bx bc rfl cu;refine U ?_;unfold fS;refine bC (λh1=>?_) λh1=>?_
 ·rw[aoq,au]at h1;refine U ?_;refine bT rfl (.tmp rfl (.t1 rfl)) λI hw=>?_;rw[aot h1];exact⟨_,rfl,DN _ _⟩
 rw[aos,an]at h1;rw[aou h1];have tK:(iE 2 n 0 0).2=0:=by
  unfold o4 at h1;rw[aou (.inr rfl)]at h1;split at h1
  ·cases h1
  exact h1
 have bH:=(wZ n 0 0 tK).2;have oI:vu n:=⟨0,0,tK⟩;refine U ?_;refine aq (hq (bb:=λI hw=>XC n ao I (bd.map λv db h=>hw.now h) oI.atoms (by omega)) (ab:=?_));rintro v2 ck bY hS eZ;have mc:=Gu (jM n) [];refine U ?_;refine aq (hq (bb:=λI hw=>(ahY v2 _ I (hw.now hS) (by simp at mc;omega)).size (hw.sz hy)) (ab:=?_));rintro v3 hj fW ⟨pL,J0⟩ nG;refine U ?_;refine bT rfl (.tmp rfl (.t1 rfl)) λI hw=>?_;rw[h1];exact⟨_,rfl,hw.pass pL aP J0⟩
theorem Pa(t:aV)(ah ad ao:Value)(vs:List Value)(w:World)(h:gW al w ah ad ao vs t):bl prog 64 [.agg (c6 t ah ad ao).toArray] w λm v I=>aZ (Fr m) I eH 3 v (fS t.dH t.node):=by obtain⟨s1,s2,cJ⟩:=h.jY;refine bZ func64 ntmps64 ?_;refine b7 λaQ=>?_;refine aq (bp (λI hw=>(Og t.dH t.node ao I (h.now hw).node).size (hw.sz aP)) ?_);rintro v bx bc ⟨⟨aT,rfl,bL⟩,ej⟩ cu;refine bf λI hw=>?_;exact hw.pass bL aP ej
theorem Pd(t:aV)(ah ad ao:Value)(vs:List Value)(w:World)(h:gW al w ah ad ao vs t)(eS:uS t)(gJ:t.init.length<=1024):bl prog 65 [.agg (c6 t ah ad ao).toArray] w λm v I=>aZ (Fr m) I dU 1 v (cc t):=by
 obtain⟨s1,s2,cJ⟩:=h.jY;have eA:=h.nX;have iv:=h.nA;have hle:=iv.le;have fs:=h.init;have IB:=fs.le;have qR:=zB t.dH t.node;have ep:=Tp eS gJ;have tF:=Lt t;refine bZ func65 ntmps65 ?_;refine b7 λaQ=>?_;refine ea 9 1 dU ?_;refine bX (λs:Nat×Value×List ByteArray=>s.1<=t.init.length/\aD s.2.1/\s.2.2++((t.init.drop s.1).flatMap C6++(t.code.flatMap tc++(fS t.dH t.node).map (·.loc)))=ni t) (λs=>[(15,true,.int .i64 s.1),(14,true,.int .i64 t.init.length),(13,true,ah),(3,true,s.2.1),(1,true,av aQ)]) (λs=>Mem [(w,al)] [.own s.2.1 9 1 dU s.2.2,.box aQ (c6 t ah ad ao) 32]) (λs=>t.init.length-s.1) (0,aa,[]) ⟨aoD _,cU,by rw[aqB,tF];rfl⟩ ?_
 rintro⟨i,v,ys⟩ ⟨hi,ax,cj⟩;dsimp only at hi ax cj⊢;refine a8 (λh1=>?_) λh1=>?_
 ·have bU:i<t.init.length:=by rw[an]at h1;omega
  rw[vK bU,ao8,aoP]at cj;have pf:=aoI List.length cj;simp only[aoy]at pf;refine U ?_;refine cH λcZ=>?_;refine bN 0 ?_;refine aq (eI (ab:=λv25 JT=>U ?_));refine aq (e6 2 (hk:=rfl) (bH:=by simp;omega) (ab:=λv26 JU=>U ?_));exact bm (i+1,v26,ys++C6 (t.init.getD i default)) ⟨by dsimp only;omega,JU,by dsimp only;rw[aoP];exact cj⟩ (by dsimp only;omega) (hA:=b4 [2,3])
 have bU:i=t.init.length:=by rw[au]at h1;omega
 rw[bU,apT,List.flatMap_nil,apb]at cj;refine U ?_;refine bX (λs:Nat×Value×List ByteArray=>s.1<=t.code.length/\aD s.2.1/\s.2.2++((t.code.drop s.1).flatMap tc++(fS t.dH t.node).map (·.loc))=ni t) (λs=>[(31,true,.int .i64 s.1),(30,true,.int .i64 vs.length),(29,true,ad),(3,true,s.2.1),(1,true,av aQ)]) (λs=>Mem [(w,al)] [.own s.2.1 9 1 dU s.2.2,.box aQ (c6 t ah ad ao) 32]) (λs=>t.code.length-s.1) (0,v,ys) ⟨aoD _,ax,by rw[aqB];exact cj⟩ ?_
 clear cj ax;rintro⟨k,v,ys⟩ ⟨hk,ax,cj⟩;dsimp only at hk ax cj⊢;refine a8 (λh2=>?_) λh2=>?_
 ·have bq:k<t.code.length:=by rw[an]at h2;omega
  have qL:=h.code k (by omega);have sn:=qL.le;rw[Ol bq]at cj;refine U ?_;refine bX (λs:Nat×Value×List ByteArray=>s.1<=(t.code.getD k default).length/\aD s.2.1/\s.2.2++(((t.code.getD k default).drop s.1).map (·.loc)++((t.code.drop (k+1)).flatMap tc++(fS t.dH t.node).map (·.loc)))=ni t) (λs=>[(37,true,.int .i64 s.1),(36,true,.int .i64 (t.code.getD k default).length),(35,true,vs.getD k default),(31,true,.int .i64 k),(30,true,.int .i64 vs.length),(29,true,ad),(3,true,s.2.1),(1,true,av aQ)]) (λs=>Mem [(w,al)] [.own s.2.1 9 1 dU s.2.2,.box aQ (c6 t ah ad ao) 32]) (λs=>(t.code.getD k default).length-s.1) (0,v,ys) ⟨aoD _,ax,by rw[aqB];exact cj⟩ ?_
  clear cj ax;rintro⟨i,v,ys⟩ ⟨hi,ax,cj⟩;dsimp only at hi ax cj⊢;refine a8 (λh3=>?_) λh3=>?_
  ·have dE:i<(t.code.getD k default).length:=by rw[an]at h3;omega
   rw[vK dE,apg]at cj;have pf:=aoI List.length cj;simp only[aoy]at pf;refine U ?_;refine cH λcZ=>?_;refine bN 0 ?_;refine aq (eI (ab:=λv44 QT=>U ?_));refine aq (e6 2 (hk:=rfl) (bH:=by simp;omega) (ab:=λv45 abl=>U ?_));exact bm (i+1,v45,ys++[((t.code.getD k default).getD i default).loc]) ⟨by dsimp only;omega,abl,by dsimp only;rw[aoP];exact cj⟩ (by dsimp only;omega) (hA:=b4 [2,3])
  have dE:i=(t.code.getD k default).length:=by rw[au]at h3;omega
  rw[dE,apT,List.map_nil,apb]at cj;refine U ?_;exact bm (k+1,v,ys) ⟨by dsimp only;omega,ax,cj⟩ (by dsimp only;omega)
 have bq:k=t.code.length:=by rw[au]at h2;omega
 rw[bq,apT,List.flatMap_nil,apb]at cj;refine U ?_;refine aq (bp (λI hw=>Pa t ah ad ao vs I (h.now hw)) ?_);rintro aT ck bY bL eZ;have yz:=bL.le;refine U ?_;refine bX (λs:Nat×Value×List ByteArray=>s.1<=(fS t.dH t.node).length/\aD s.2.1/\s.2.2++((fS t.dH t.node).drop s.1).map (·.loc)=ni t) (λs=>[(51,true,.int .i64 s.1),(50,true,.int .i64 (fS t.dH t.node).length),(49,true,aT),(3,true,s.2.1)]) (λs=>Mem [(bY,Fr ck),(w,al)] [.own s.2.1 9 1 dU s.2.2]) (λs=>(fS t.dH t.node).length-s.1) (0,v,ys) ⟨aoD _,ax,by rw[aqB];exact cj⟩ ?_ ⟨rfl,rfl,rfl,rfl,trivial⟩ (b4 [0])
 clear cj ax;rintro⟨i,v,ys⟩ ⟨hi,ax,cj⟩;dsimp only at hi ax cj⊢;refine a8 (λh3=>?_) λh3=>?_
 ·have dE:i<(fS t.dH t.node).length:=by rw[an]at h3;omega
  rw[vK dE,apg]at cj;have pf:=aoI List.length cj;simp only[aoy]at pf;refine U ?_;refine cH λcZ=>?_;refine bN 0 ?_;refine aq (eI (ab:=λv58 abo=>U ?_));refine aq (e6 2 (hk:=rfl) (bH:=by simp;omega) (ab:=λv59 CY=>U ?_));exact bm (i+1,v59,ys++[((fS t.dH t.node).getD i default).loc]) ⟨by dsimp only;omega,CY,by dsimp only;rw[aoP];exact cj⟩ (by dsimp only;omega) (hA:=b4 [2])
 have dE:i=(fS t.dH t.node).length:=by rw[au]at h3;omega
 rw[dE,apT,List.map_nil,aoH]at cj;subst cj;refine U ?_;refine aq (uB 0 rfl (bb:=λI hw=>ah9 v (ni t) I (by omega) (hw.only aP)) (ab:=?_));rintro DD hj b2 fW ⟨rfl,zs,rfl,hp,aj⟩;have uQ:=hp.length_eq;have IW:=XP zs zs.length;have Fs:=adZ hp aj;refine U ?_;refine aq (uB 0 rfl (bb:=λI hw=>ahZ v zs I ax (by omega) (hw.only aP)) (ab:=?_));rintro GC ia gg ig ⟨dG,yY,rfl,rfl⟩;refine a8 (λa6=>?_) λa6=>?_
 ·rw[aoo,an,an]at a6;rw[aou ⟨by omega,a6.2⟩]at Fs;refine U ?_;refine dh (zr dU 9 1 (l5 zs) (b3 rfl) (b3 rfl) aP λ_=>by omega) (ab:=U ?_);refine bT rfl (.t1 rfl) λI hw=>?_;have:=(hw.im aP dg).sub 1 (l5 zs).length (by omega) (aoL _);rw[aoZ,Fs]at this;exact this
 rw[aoC,au,au]at a6;rw[aot λq=>a6.elim (λbz=>bz (by omega)) λbz=>bz q.2]at Fs;refine bf λI hw=>?_;rw[<-Fs];exact hw.im aP dg
end Go.Proofs.bA
namespace Go.bM
def rI:Nat->List Int->Nat->List Int
 | 0,_,_=>[]
 | m+1,l,n=>l.getD (n / fact m) default::rI m (l.eraseIdx (n / fact m)) (n % fact m)
def u3(l:List Int)(n:Nat):List Int:=rI l.length l n
theorem Sv:∀(m:Nat) (l:List Int) (n:Nat),(rI m l n).length=m
 | 0,_,_=>rfl
 | m+1,l,n=>by rw[rI,aoN,Sv m]
theorem aej(l:List Int)(n:Nat):(u3 l n).length=l.length:=Sv _ _ _
theorem Ik(m:Nat):fact (m+1)=(m+1)* fact m:=rfl
theorem ael{m n:Nat}(h:n<fact (m+1)):n / fact m<m+1:=by rw[Nat.div_lt_iff_lt_mul (rr m),<-Ik];exact h
def oU(t:aW)(n:Nat):Nat->Nat
 | 0=>n
 | d+1=>oU t n d / fact (wr t ((t.aO.length-1-d:Nat):Int)).length
def tg(t:aW)(n k:Nat):List Int:=u3 (wr t (k:Int)) (oU t n (t.aO.length-1-k) % fact (wr t (k:Int)).length)
def oo(t:aW)(n:Nat):Nat->Nat
 | 0=>oU t n t.aO.length
 | d+1=>oo t n d / (jj t (t.J.length-1-d)).length
def sL(t:aW)(n i:Nat):Int:=(jj t i).getD (oo t n (t.J.length-1-i) % (jj t i).length) default
def la(t:aW)(n:Nat):cw:=⟨(List.range t.J.length).map (sL t n),(List.range t.aO.length).map (tg t n)⟩
def tR:cw:=⟨[],[]⟩
theorem Tr(t:aW)(i:Nat):(jj t i).length=xl t i:=by unfold jj xl;split<;>simp[Nat.add_comm]
theorem Ts(t:aW)(i:Nat):0<(jj t i).length:=by rw[Tr];exact EG t i
def mx(t:aW)(n:Int):Int:=if ln t=0 then if 0<=n/\n<nW t then 0 else 4 else ln t
def oB(t:aW)(n:Int):cw:=if mx t n=0 then la t n.toNat else tR
def ari(t:aW)(n d:Nat):List (List Int):=(List.range t.aO.length).map λk=>if t.aO.length-d<=k then tg t n k else []
def oV(t:aW)(n d:Nat):List Int:=(List.range t.J.length).map λi=>if t.J.length-d<=i then sL t n i else 0
theorem aro(t:aW)(n d:Nat):(ari t n d).length=t.aO.length:=by unfold ari;rw[aoJ,aqC]
theorem GL(t:aW)(n d:Nat):(oV t n d).length=t.J.length:=by unfold oV;rw[aoJ,aqC]
theorem Oj(t:aW)(n:Nat):ari t n 0=List.replicate t.aO.length []:=by unfold ari;apply apq (by simp);intro i h1 h2;simp at h1;simp[show ¬t.aO.length<=i by omega]
theorem TI(t:aW)(n:Nat):oV t n 0=List.replicate t.J.length 0:=by unfold oV;apply apq (by simp);intro i h1 h2;simp at h1;simp[show ¬t.J.length<=i by omega]
theorem z8(t:aW)(n:Nat):ari t n t.aO.length=(la t n).co:=by unfold ari la;refine apP λk _=>?_;rw[aou (by omega)]
theorem GK(t:aW)(n:Nat):oV t n t.J.length=(la t n).bE:=by unfold oV la;refine apP λk _=>?_;rw[aou (by omega)]
theorem Oh(t:aW)(n:Nat){d:Nat}(hd:d<t.aO.length){k:Nat}(hk:k=t.aO.length-1-d){x:List Int}(hx:x=tg t n k):(ari t n d).set k x=ari t n (d+1):=by
 subst hx;unfold ari;apply apq (by simp);intro i h1 h2;simp at h1 h2;rw[aqK];simp only[aq3,aqO];by_cases q:k=i
 ·subst q;rw[aou rfl,aou (by omega)]
 rw[aot q];by_cases r:t.aO.length-d<=i
 ·rw[aou r,aou (by omega)]
 rw[aot r,aot (by omega)]
theorem TH(t:aW)(n:Nat){d:Nat}(hd:d<t.J.length){k:Nat}(hk:k=t.J.length-1-d){x:Int}(hx:x=sL t n k):(oV t n d).set k x=oV t n (d+1):=by
 subst hx;unfold oV;apply apq (by simp);intro i h1 h2;simp at h1 h2;rw[aqK];simp only[aq3,aqO];by_cases q:k=i
 ·subst q;rw[aou rfl,aou (by omega)]
 rw[aot q];by_cases r:t.J.length-d<=i
 ·rw[aou r,aou (by omega)]
 rw[aot r,aot (by omega)]
theorem GJ(t:aW)(n:Nat):∀d,oU t n d<=n
 | 0=>aoL _
 | d+1=>ao5 (Nat.div_le_self _ _) (GJ t n d)
theorem LJ(t:aW)(n:Nat):∀d,oo t n d<=n
 | 0=>GJ t n _
 | d+1=>ao5 (Nat.div_le_self _ _) (LJ t n d)
theorem O5{t:aW}(h:iT t<=65536){k:Nat}(hk:k<t.aO.length):fact (wr t (k:Int)).length<=65536:=by have h1:oO t (k+1)<=iT t:=ao5 (Kz t _ hk) (aqI _ (EF t _));rw[oO]at h1;exact ao5 (aqI _ (F6 t k)) (ao5 h1 h)
theorem aja{t:aW}(h:e0 t=true){i:Nat}(hi:i<t.J.length):(t.J.getD i default).dir=1\/(t.J.getD i default).dir=2:=by simp only[e0,aoo,jP,fT]at h;have h1:=h.1.1.1.1.1.2.2 i hi;simp only[lL,qH,Ac,aoo,aox,aop]at h1;have:=h1.1.2;omega
theorem ai9{t:aW}(h:e0 t=true){i:Nat}(hi:i<t.J.length)(hd:¬(t.J.getD i default).dir=2):(t.J.getD i default).dir=1:=by have:=aja h hi;omega
end Go.bM
