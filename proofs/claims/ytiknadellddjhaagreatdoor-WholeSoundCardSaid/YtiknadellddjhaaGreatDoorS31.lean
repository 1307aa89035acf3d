/- Lemmas for the law WholeSound. -/
import Derived.ScopeJumps
import Derived.Test.YtiknadellddjhaaGreatDoorS29
import Derived.Test.YtiknadellddjhaaGreatDoorS30
set_option linter.all false
open Go.Proofs.Tryz
set_option maxHeartbeats 6400000
open Go Go.cc Go.bU Go.gH Go.eV
universe u
namespace Go.cc
open Go
section
variable {P:Program} {N:Nat} {Q:Exit->Act->World->Prop} {tm:dU} {A:World->Prop}
theorem aii{c rest:Code}{eT:Type u}(l:Nat)(dX:eT->Prop)(T:eT->dU)(bN:eT->World->Prop)(iV:eT->Nat)(hf:findLabel c l=some rest)(first:fh P N c (Exit.jump l (mn N dX T bN) Q) tm A) (pass:∀s,dX s->fh P N rest (Exit.jump l (uY N dX T bN iV s) Q) (T s) (bN s)):fh P N (.scope c) Q tm A:=by
 unfold fh cL at *;intro a w ag hw;have least:∀(a:Act) (w:World),mn N dX T bN a w->∃m,(∃s,dX s/\iq N (T s) a/\bN s w/\iV s=m)/\∀s,dX s->iq N (T s) a->bN s w->m<=iV s:=λa w hex=>by
  unfold mn at hex;obtain⟨s,h1,h2,h3⟩:=hex;generalize hk:iV s=k
  induction k using Nat.strongRecOn generalizing s with
  | ind k bH=>
   by_cases dn:∃s',dX s'/\iq N (T s') a/\bN s' w/\iV s'<k
   ·obtain⟨s',g1,g2,g3,g4⟩:=dn;exact bH _ g4 s' g1 g2 g3 rfl
   exact⟨k,⟨s,h1,h2,h3,hk⟩,λs' g1 g2 g3=>Nat.le_of_not_lt λg4=>dn ⟨s',g1,g2,g3,g4⟩⟩
 refine wp_scope_jumps l (mn N dX T bN) (λa w=>Classical.epsilon λm=>(∃s,dX s/\iq N (T s) a/\bN s w/\iV s=m)/\∀s,dX s->iq N (T s) a->bN s w->m<=iV s) hf (first a w ag hw) λa w ia=>?_;obtain⟨⟨s,h1,h2,h3,aC⟩,Za⟩:=aoJ (least a w ia);refine wp_mono (pass s h1 a w h2 h3) λe dI I q=>?_;cases e with
 | goto l'=>
  obtain⟨e,q⟩:=q;unfold uY at q;obtain⟨s',g1,g2,g3,g4⟩:=q;have ai:mn N dX T bN dI I:=by unfold mn;exact⟨s',g1,g3,g4⟩
  have ki:=aoJ (least dI I ai);exact⟨e,ai,Nat.lt_of_le_of_lt (ki.2 s' g1 g3 g4) (anH g2 (Nat.le_of_eq aC))⟩
 | _=>exact q
theorem aij{c rest:Code}{eT:Type u}(l:Nat)(dX:eT->Prop)(T:eT->dU)(bN:eT->World->Prop)(iV:eT->Nat)(hf:findLabel c l=some (.seq .skip rest)) (pass:∀s,dX s->fh P N rest (Exit.jump l (uY N dX T bN iV s) Q) (T s) (bN s)) (first:(∀s,dX s->fh P N rest (Exit.jump l (mn N dX T bN) Q) (T s) (bN s))->fh P N c (Exit.jump l (mn N dX T bN) Q) tm A):fh P N (.scope c) Q tm A:=by
 refine aii l dX T bN iV hf (first λs ia=>?_) λs ia=>?_
 ·have h:=pass s ia;unfold fh cL at *;intro a w h2 h3;refine wp_mono (h a w h2 h3) λe dI I q=>?_;cases e with
  | goto l'=>obtain⟨e,q⟩:=q;unfold uY at q;obtain⟨s',g1,g2,g3,g4⟩:=q;exact⟨e,by unfold mn;exact⟨s',g1,g3,g4⟩⟩
  | _=>exact q
 have h:=pass s ia;unfold fh cL at *;exact λa w ag hw=>wp_seq (wp_skip (h a w ag hw))
theorem aic{l:Nat}{rest:Code}{eT:Type u}{dX:eT->Prop}{T:eT->dU}{bN:eT->World->Prop}{pU:Exit->Act->World->Prop}(hp:∀s,dX s->fh P N rest Q (T s) (bN s))(s:eT)(ia:dX s)(ag:u2 (T s) tm)(hA:∀w,A w->bN s w): fh P N (.label l) (Exit.then (λa w=>rest.wp P Q a w) pU) tm A:=by have h:=hp s ia;unfold fh cL at *;exact λa w cn hw=>wp_label (h a w (cn.sub ag) (hA w hw))
theorem aie{l:Nat}(h:gN N (.goto l) Q tm A):fh P N (.goto l) Q tm A:=by unfold fh gN cL at *;exact λa w ag hw=>wp_goto (h a w ag hw)
theorem adq{K:Act->World->Prop}{l:Nat}(h:gN N (.goto l) Q tm A):gN N (.goto l) (Exit.then K Q) tm A:=h
theorem Ku{l:Nat}{dX:Act->World->Prop}(h:gN N .ret Q tm A):gN N .ret (Exit.jump l dX Q) tm A:=h
theorem adi{eT:Type u}{l:Nat}{dX:eT->Prop}{T:eT->dU}{bN:eT->World->Prop}{iV:eT->Nat}{s:eT}(s':eT)(ia:dX s')(Jx:iV s'<iV s)(ag:u2 (T s') tm)(hA:∀w,A w->bN s' w):gN N (.goto l) (Exit.jump l (uY N dX T bN iV s) Q) tm A:=by unfold gN cL;refine λ_ w cn hw=>⟨rfl,?_⟩;unfold uY;exact⟨s',ia,Jx,cn.sub ag,hA w hw⟩
theorem uz{bs:List dr}{H:List aA}{fn:Func}{es:List aA}{w:World}{Ψ:Nat->Value->List aA->World->Prop}{rs:List ResultVar}{vs:List Value}(aH:fn.results=rs.toArray)(h:jf P tm H rs vs)(hB:(w,bB es)∈bs) (ew:∀I,Mem [(w,bB es)] H I->∃fF,Ψ w.heap.size (pI vs) fF I/\Mem [(w,bB es)] fF I):gN N .normal (bodyPost P fn (qV es w Ψ)) tm (Mem bs H):=
 Kt aH h λI hw=>by obtain⟨fF,g1,g2⟩:=ew I (hw.one hB);unfold qV;exact⟨_,fF,rfl,g1,g2⟩
theorem FH{bs:List dr}{H:List aA}{fn:Func}{es:List aA}{w:World}{Ψ:Nat->Value->List aA->World->Prop}{rs:List ResultVar}{vs:List Value}(aH:fn.results=rs.toArray)(h:jf P tm H rs vs)(hB:(w,bB es)∈bs) (ew:∀I,Mem [(w,bB es)] H I->∃fF,Ψ w.heap.size (pI vs) fF I/\Mem [(w,bB es)] fF I):gN N .ret (bodyPost P fn (qV es w Ψ)) tm (Mem bs H):=
 yM aH h λI hw=>by obtain⟨fF,g1,g2⟩:=ew I (hw.one hB);unfold qV;exact⟨_,fF,rfl,g1,g2⟩
theorem J7{bs:List dr}{H:List aA}{fn:Func}{w:World}{Ψ:Nat->Value->List aA->World->Prop}{rs:List ResultVar}{vs:List Value}(aH:fn.results=rs.toArray)(h:jf P tm H rs vs)(hB:(w,an)∈bs) (ew:∀I,Mem bs H I->∃fF,Ψ w.heap.size (pI vs) fF I/\Mem [(w,an)] fF I):gN N .ret (bodyPost P fn (sI w Ψ)) tm (Mem bs H):=
 yM aH h λI hw=>by obtain⟨fF,g1,g2⟩:=ew I hw;unfold sI;exact⟨_,fF,rfl,g1,g2⟩
theorem KK{c:Bool}{t dt:TypeId}{x y:Operand}{p:Int}{n:Nat}(hx:bo tm c x (.int .i64 p))(aR:bo tm c y (.int .i64 (n:Int)))(bh:0<n):bR P N (.binOp .rem t x y dt) tm A c (.int .i64 (p.tmod n)):=by
 have h0:¬n=0:=by omega
 exact oA hx aR (λw=>by simp[binOp,Op.intDiv,h0])
theorem Sl{c:Bool}{t dt hq:TypeId}{x y:Operand}{Bl:Addr}(aE:P.underlying t=some (.pointer hq))(hx:bo tm c x (.pointer (some Bl)))(aR:bo tm c y (.pointer none)):bR P N (.binOp .neq t x y dt) tm A c (.bool true):=by
 unfold bR;intro ai a w d ty pos cR g cn hw;simp only[execOp,hx.get cn ai,aR.get cn ai];have ay:(eqGuard .neq t x y (.pointer (some Bl)) (.pointer none)).run P w=.ok () w:=rfl;have h:∀d:Nat,(Op.equalIn (d+1) t (.pointer (some Bl)) (.pointer none)).run P w=.ok false w:=λd=>by simp[Op.equalIn,run_underlying aE]
 have hb:(binOp .neq t (.pointer (some Bl)) (.pointer none)).run P w=.ok (.bool true) w:=by simp only[binOp];simp[Op.equal,Op.maxDepth,h 9999]
 simp[ay,hb]
theorem Mem.va{S:Nat->Prop}{B I:World}{b:Nat}{cs:List Value}{bs:List dr}{H:List aA}(hw:Mem bs H I)(h:gM S B b cs)(hB:(B,S)∈bs):gM an I b cs:=h.mono (hw.base _ hB) λ_=>trivial
end
end Go.cc
attribute [local irreducible] Go.wpList Go.Code.wp Go.bodyPost Go.Exit.then Go.Exit.inBlock Go.Calls
namespace Go.Proofs.bK
theorem LG(v:Value)(l:List b5)(first:Nat)(w:World)(h:aV an w bz 2 v l)(aB:l.length<=50000)(hf:first<=256)(hp:∀p,p∈l->0<=p.A/\p.A<=256/\0<=p.B/\p.B<=256): bj prog 26 [v,.int .i64 (first:Int)] w λm r I=>aV (Fr m) I bz 2 r (h4 l first):=by
 have hle:=h.le;refine ca func26 ntmps26 ?_;refine dZ 178 2 bz ?_;refine b9 (λs:Nat×Value=>s.1<=l.length/\aD s.2) (λs=>[(10,true,.int .i64 s.1),(9,true,.int .i64 l.length),(8,true,v),(5,true,s.2),(1,true,.int .i64 (first:Int))]) (λs=>Mem [(w,an)] [.own s.2 178 2 bz ((l.take s.1).map (nw first))]) (λs=>l.length-s.1) (0,U) ⟨amz _,cZ⟩ ?_
 rintro⟨i,u⟩ ⟨hi,hu⟩;dsimp only at hi hu⊢;refine bg (λh1=>?_) λh1=>?_
 ·have cb:i<l.length:=by rw[aq]at h1;omega
  have hb:=hp _ (er cb);refine aa ?_;refine cU λBu=>?_;refine bQ 0 ?_;refine ao (eA _ _ (ab:=λv24 Z3=>aa ?_));refine ao (e6 2 (hk:=rfl) (bG:=by simp;omega) (ab:=λv25 Jg=>aa ?_));refine bt (i+1,v25) ⟨by dsimp only;omega,Jg⟩ (by dsimp only;omega) (hA:=λ_ h=>?_);have e:(l.take (i+1)).map (nw first)=(l.take i).map (nw first)++[⟨(first:Int)+(l.getD i default).A,(first:Int)+(l.getD i default).B⟩]:=by rw[ang,getD_some cb,ane];rfl
  dsimp only;rw[e];exact h.cm [2]
 have cb:i=l.length:=by rw[ar]at h1;omega
 subst cb;rw[amU];refine aa ?_;refine ao (vj 0 rfl (a7:=λI hw=>ago u (l.map (nw first)) I (by rw[amD];omega) (λx hx=>?_) (hw.only aL)) (ab:=?_))
 ·obtain⟨p,uh,rfl⟩:=am1.1 hx;have:=hp p uh;unfold ao3 nw;dsimp only;omega
 rintro AD cp cd bX ⟨rfl,ys,rfl,r8,ag⟩;refine bl λI hw=>?_;rw[<-acq r8 ag];exact hw.hK aL aL
theorem ahj(aO:Nat)(t:aM)(aj ae ak:Value)(bu:Int)(lv:Value)(ahead:Nat)(q:jL)(s:b6)(full:Bool)(d:Int)(first:Nat)(w:World)(hd:0<=d/\d<s.ah.length)(hf:first<=256)(aE:(xq (s.ah.getD d.toNat default).has).1<=256) (hb:gM an w aO (gE t aj ae ak bu lv q s.ba ahead full)) (aH:aV an w eX 5 q.aJ (s.ah.map c8)): bj prog 25 [ax aO,.int .i64 d,.int .i64 (first:Int)] w λ_ v _=>v=.tuple #[.agg (pv ((vd first (s.ah.getD d.toNat default).has).getD ⟨0,0⟩)).toArray,.bool (vd first (s.ah.getD d.toNat default).has).isSome]:=by
 have eP:(s.ah.map c8).length=s.ah.length:=amD _;have ig:=aH.aG;have ay:=wb (l:=s.ah) (i:=d.toNat) (by omega);have h0:0<=(xq (s.ah.getD d.toNat default).has).1:=by cases(s.ah.getD d.toNat default).has<;>simp[xq]
 refine gP func25 ntmps25 ?_;refine dH λbe=>?_;rw[ay];refine dg (AV (s.ah.getD d.toNat default).has (bY rfl)) (ab:=af ?_);refine bA (λh1=>?_) λh1=>?_
 ·refine af ?_;refine c0 0 ?_;refine bP rfl (.dz rfl aL rfl (.t1 rfl)) λI hw=>?_;rw[sg h1];rfl
 refine af ?_;refine dg (agT (s.ah.getD d.toNat default).has (bY rfl)) (ab:=af ?_);refine bA (λh2=>?_) λh2=>?_
 ·refine af ?_;refine c0 0 ?_;refine bP rfl (.dz rfl aL rfl (.t1 rfl)) λI hw=>?_;revert h2;cases(s.ah.getD d.toNat default).has<;>intro h2<;>first | (cases h2;done) | rfl
 refine af ?_;refine c0 0 ?_;refine bP rfl (.dz rfl aL rfl (.t1 rfl)) λI hw=>?_;revert h1 h2;cases(s.ah.getD d.toNat default).has<;>intro h1 h2<;>first | (cases h1;done) | (cases h2;done) | rfl
end Go.Proofs.bK
namespace Go.eV
def yE(p:Nat->Bool):Nat->W
 | 0=>0#64
 | n+1=>if p n=true then yE p n||| (1#64<<<(BitVec.ofInt 64 (n:Int)).toNat)else yE p n
theorem JZ(p:Nat->Bool):∀(n:Nat),n<=64->∀j,(yE p n).getLsbD j=(decide (j<n)&&p j)
 | 0,_,j=>by unfold yE;simp
 | n+1,h,j=>by
  have bH:=JZ p n (by omega) j;unfold yE;rw[FL n (by omega)];by_cases hp:p n=true
  ·rw[amo hp,anW,bH,anQ,amN];simp only[amr,ami,amj,amk,amu,an4];constructor
   ·rintro(⟨h1,h2⟩ | h1)
    ·exact⟨by omega,h2⟩
    have:j=n:=by omega
    subst this;exact⟨by omega,hp⟩
   rintro⟨h1,h2⟩;by_cases q:j=n
   ·subst q;right;omega
   left;exact⟨by omega,h2⟩
  rw[amn hp,bH,amN];simp only[ami,amj];constructor
  ·rintro⟨h1,h2⟩;exact⟨by omega,h2⟩
  rintro⟨h1,h2⟩;refine⟨?_,h2⟩;by_cases q:j=n
  ·subst q;exact absurd h2 hp
  omega
end Go.eV
namespace Go.Proofs.bK
theorem Rz(p d:Int)(w:World)(hd:d=1\/d=2): bj prog 258 [.int .i64 p,.int .i64 d] w λ_ v _=>v=.bool (BP p d):=by refine ca func258 ntmps258 ?_;refine bP rfl (.t1 rfl) λI hw=>?_;simp only[ch];rfl
theorem acZ{f a b:Int}(h:¬((a=1\/a=2)/\(b=1\/b=2))):qg f a b=false:=amn h
theorem acY{f a b:Int}(h:(a=1\/a=2)/\(b=1\/b=2))(h1:f=1):qg f a b=true:=by unfold qg;rw[amo h,amo h1]
theorem ac1{f a b:Int}(h:(a=1\/a=2)/\(b=1\/b=2))(h1:¬f=1)(h2:f=2):qg f a b=(decide (a=1)||decide (b=2)):=by unfold qg;rw[amo h,amn h1,amo h2]
theorem ac0{f a b:Int}(h:(a=1\/a=2)/\(b=1\/b=2))(h1:¬f=1)(h2:¬f=2)(h3:f<3\/11<f):qg f a b=false:=by unfold qg;rw[amo h,amn h1,amn h2,amo h3]
theorem acX{f a b:Int}(h:(a=1\/a=2)/\(b=1\/b=2))(m:Nat)(hm:m<=8)(hf:f=m+3):qg f a b=(BP ((m / 3:Nat):Int) a&&BP ((m % 3:Nat):Int) b):=by unfold qg;rw[amo h,amn (by omega),amn (by omega),amn (by omega),show f-3=(m:Int) by omega,show((m:Int).tdiv 3)=((m / 3:Nat):Int)from(Int.ofNat_tdiv m 3).symm,show((m:Int).tmod 3)=((m % 3:Nat):Int)from(Int.ofNat_tmod m 3).symm]
theorem ac3{a b:Int}(h:(decide (a≠1)&&decide (a≠2)||(decide (b≠1)&&decide (b≠2)))=false):(a=1\/a=2)/\(b=1\/b=2):=by simp only[amt,amx,amu]at h;omega
theorem ac4{a b:Int}(h:(decide (a≠1)&&decide (a≠2)||(decide (b≠1)&&decide (b≠2)))=true):¬((a=1\/a=2)/\(b=1\/b=2)):=by simp only[amr,ami,amj]at h;omega
theorem LD(f a b:Int)(w:World): bj prog 170 [.int .i64 f,.int .i64 a,.int .i64 b] w λ_ v _=>v=.bool (qg f a b):=by
 refine ca func170 ntmps170 ?_;refine bA (λh1=>?_) λh1=>?_
 ·refine bl λI hw=>?_;rw[acZ (ac4 (by simpa only[ch,ne_eq,decide_not]using h1))];rfl
 have hd:=ac3 (a:=a) (b:=b) (by simpa only[ch,ne_eq,decide_not]using h1);refine bg (λh2=>?_) λh2=>?_
 ·rw[aq]at h2;refine bl λI hw=>?_;rw[acY hd h2];rfl
 rw[ar]at h2;refine bg (λh3=>?_) λh3=>?_
 ·rw[aq]at h3;refine bl λI hw=>?_;rw[ac1 hd h2 h3];simp only[ch];rfl
 rw[ar]at h3;refine bg (λaC=>?_) λaC=>?_
 ·simp only[ch,amr,amj]at aC;refine bl λI hw=>?_;rw[ac0 hd h2 h3 (by omega)];rfl
 simp only[ch,amt,amu]at aC;have hx:∃m:Nat,m<=8/\f=m+3:=⟨(f-3).toNat,by omega,by omega⟩;clear aC;refine aa ?_;obtain⟨m,hm,hf⟩:=hx;have YE:f-3=(m:Int):=by omega
 rw[YE];refine dg ?_ (v:=.int .i64 ((m / 3:Nat):Int)) (ab:=?_)
 ·exact yP 3 _
 refine aa ?_;refine aa ?_;refine ao (iJ (k:=258) (first:=[]) (cap:=[]) (a7:=λI hw=>Rz _ a I hd.1) (ab:=?_));rintro v bx a6 rfl cA;refine aa ?_;refine uR (v:=.int .i64 ((m % 3:Nat):Int)) (h:=?_) (ab:=?_)
 ·exact yQ 3 _
 refine aa ?_;refine fm (h:=eY (k:=258) (first:=[]) (cap:=[]) (a7:=λ_ I hw=>Rz _ b I hd.2)) (ab:=aa ?_);refine bP rfl (.t1 rfl) λI hw=>?_;rw[acX hd m hm hf];rfl
theorem Xn{lv aj aN bv aK aX ae aU bE:Value}{t:a1}(a b:eL)(bi:Nat)(w:World)(h:ha an w lv aj aN bv aK aX ae aU bE t)(hb:gM an w bi [lv,aj,aN,bv,aK,aX,ae,aU,bE]): bj prog 345 [.agg (ec a).toArray,.agg (ec b).toArray,ax bi] w λ_ v _=>v=.bool (vh t.bars a b):=by
 have hB:=h.bars;have aja:=hB.le;refine ca func345 ntmps345 ?_;refine ck λdS=>?_;refine ck λdc=>?_;refine b9 (λk:Nat=>k<=t.bars.length/\∀j,j<k->zd a b (t.bars.getD j default)=false) (λs=>[(11,true,.int .i64 s),(10,true,.int .i64 t.bars.length),(9,true,bv),(4,true,ax dc),(3,true,ax dS)]) (λs=>Mem [(w,an)] [.box dc (ec b) 138,.box dS (ec a) 138]) (λs=>t.bars.length-s) 0 ⟨amz _,λj ad=>absurd ad (anp _)⟩ ?_ ⟨rfl,rfl,rfl,rfl,rfl,trivial⟩ c7
 rintro k ⟨hk,e7⟩;refine bg (λh1=>?_) λh1=>?_
 ·have cb:k<t.bars.length:=by rw[aq]at h1;omega
  refine aa ?_;refine cU λeN=>?_;refine bQ 0 ?_;refine fm (h:=eY (a7:=λ_ I hw=>LD _ _ _ I)) (ab:=aa ?_);have aZ:(((bO ((t.bars.getD k default).aI=a.aI)&&bO (a.place<(t.bars.getD k default).place))&&bO ((t.bars.getD k default).place<b.place))&&qg (t.bars.getD k default).dE a.dir b.dir)=zd a b (t.bars.getD k default):=by simp only[ch];rfl
  refine bA (λh2=>?_) λh2=>?_
  ·rw[aZ]at h2;refine bl λI hw=>?_;have:vh t.bars a b=true:=by unfold vh;rw[anl];exact⟨t.bars.getD k default,by rw[aml,amp cb];exact anx cb,h2⟩
   rw[this];rfl
  rw[aZ]at h2;refine aa ?_;refine bt (k+1) ⟨by omega,λj ad=>?_⟩ (by omega) (hA:=λ_ h=>(h.last rfl).tail);by_cases q:j<k
  ·exact e7 j q
  obtain rfl:j=k:=by omega
  exact h2
 rw[ar]at h1;refine bl λI hw=>?_;have:vh t.bars a b=false:=by unfold vh;rw[aoi];intro x hx hp;obtain⟨i,hi⟩:=anv hx;have gB:=(amV.1 hi).1;have:=e7 i (by omega);rw[aml,hi]at this;rw[show zd a b x=false from this]at hp;cases hp
 rw[this];rfl
theorem ag3{lv aj aN bv aK aX ae aU bE:Value}{t:a1}(w:World)(h:ha an w lv aj aN bv aK aX ae aU bE t): eH prog 280 [.agg #[lv,aj,aN,bv,aK,aX,ae,aU,bE]] w (tM (su t) (qP t (vi t)) (pN t)):=by
 refine iY func280 ntmps280 ?_;refine ck λaT=>?_;refine cU λHg=>?_;refine ao (gS (a7:=λI hw=>MU (t:=t) 345 [ax aT] (vh t.bars) I (h.now hw) λa b bX hj=>Xn a b aT bX ((h.now hw).now hj aL) ((hw.eN (S:=an) ds trivial).mono (hj.base _ aL) λ_=>trivial)) (ab:=?_))
 rintro v bx es a6 ⟨aG,gZ,rfl,rfl⟩;refine aa ?_;refine bQ 1 ?_;refine eR rfl (.dz rfl ds rfl (.t1 rfl)) [_] [0] λI hw=>?_;exact⟨aG,gZ,rfl,rfl⟩
theorem ahg{lv aj aN bv aK aX ae aU bE:Value}{t:a1}(w:World)(h:ha an w lv aj aN bv aK aX ae aU bE t): eH prog 196 [.agg #[lv,aj,aN,bv,aK,aX,ae,aU,bE]] w (tM (su t) (qP t (nu t)) (pN t)):=by
 have cP:=h.J;have Eo:=cP.le;refine iY func196 ntmps196 ?_;refine ck λjA=>?_;refine cU λHg=>?_;refine ao (gr (λI hw=>T2 (t:=t) I (h.now hw)) ?_);rintro v bx es a6 ⟨s1,fk,rfl,rfl⟩;refine aa ?_;refine cU λNb=>?_;refine bQ 0 ?_;refine bA (λh1=>?_) λh1=>?_
 ·rw[A1,amk]at h1;refine aa ?_;refine bQ 2 ?_;refine dZ 81 1 fA ?_;refine eR rfl (.dz rfl mh rfl (.t1 rfl)) [_] [0] λI hw=>?_;unfold su qP;rw[h1];exact⟨_,kL,rfl,rfl⟩
 rw[A1,amm]at h1;obtain⟨hb,w0⟩:=lD h1;have iK:su t=(t.J.length:Int):=by unfold su;rw[amo h1]
 have b8:∀p,qP t p=bT t.J.length p:=λp=>by unfold qP;rw[amo h1]
 rw[iK,b8 (dK t)];refine aa ?_;refine ao (gr (λI hw=>ag3 (t:=t) I (h.now hw)) ?_);rintro v cp es bX ⟨s2,jQ,rfl,rfl⟩;rw[iK,b8 (vi t)];refine aa ?_;refine cU λM1=>?_;refine bQ 0 ?_;refine b9 (λs:Nat×W×W=>s.1<=t.J.length/\s.2.1=yE (λi=>!decide ((bf t i).dir=2)) s.1/\s.2.2=yE (λi=>decide ((bf t i).dir=2)) s.1) (λs=>[(33,true,.int .i64 s.1),(32,true,.int .i64 t.J.length),(31,true,aN),(9,true,u64 s.2.1),(8,true,u64 s.2.2),(6,true,ax M1),(4,true,ax Nb),(2,true,ax Hg)]) (λs=>Mem [(w,an)] [.box M1 [.int .i64 t.J.length,s2] 113,et s2 (bT t.J.length (vi t)),.box Nb [.int .i64 t.J.length,s1] 113,et s1 (bT t.J.length (dK t)),.box Hg [.int .i64 0,U] 113,.box jA [lv,aj,aN,bv,aK,aX,ae,aU,bE] 41]) (λs=>t.J.length-s.1) (0,0#64,0#64) ⟨amz _,rfl,rfl⟩ ?_ ⟨rfl,rfl,rfl,rfl,rfl,rfl,rfl,rfl,trivial⟩ c7
 rintro⟨i,Gi,GL⟩ ⟨hi,w2,E7⟩;dsimp only at hi w2 E7⊢;refine bg (λh2=>?_) λh2=>?_
 ·have bF:i<t.J.length:=by rw[aq]at h2;omega
  refine aa ?_;refine cU λeN=>?_;refine bQ 0 ?_;refine bA (λh3=>?_) λh3=>?_
  ·rw[aq]at h3;refine aa ?_;refine bt (i+1,Gi,GL||| (1#64<<<(BitVec.ofInt 64 (i:Int)).toNat)) ⟨by dsimp only;omega,?_,?_⟩ (by dsimp only;omega) (hA:=λ_ h=>(h.last rfl).tail)
   ·dsimp only;rw[w2];exact(amn (by simp;exact h3)).symm
   dsimp only;rw[E7];exact(amo (amq h3)).symm
  rw[ar]at h3;refine aa ?_;refine bt (i+1,Gi||| (1#64<<<(BitVec.ofInt 64 (i:Int)).toNat),GL) ⟨by dsimp only;omega,?_,?_⟩ (by dsimp only;omega) (hA:=λ_ h=>(h.last rfl).tail)
  ·dsimp only;rw[w2];exact(amo (by simp;exact h3)).symm
  dsimp only;rw[E7];exact(amn (by simp;exact h3)).symm
 have hy:i=t.J.length:=by rw[ar]at h2;omega
 subst hy;have iB:=lz t.J.length (dK t) hb;have fT:=lz t.J.length (vi t) hb;refine aa ?_;refine ao (gr (λI hw=>ade t.J.length s1 GL Gi (bT t.J.length (dK t)) I (hw.ed)) ?_);unfold Kb vf Kr;rw[iB,amo rfl,amo rfl,amo rfl,amw];rintro v hD es gb ⟨cy,j4,rfl,rfl⟩;have hY:(bT t.J.length λa b=>aT (bT t.J.length (dK t)) a b&&GL.getLsbD a&&Gi.getLsbD b)=bT t.J.length λa b=>dK t a b&&o3 t a b:=qM λa b au e1=>by rw[uE _ _ hb _ _ au e1,E7,w2,JZ _ _ hb,JZ _ _ hb,amq au,amq e1,Bool.and_assoc];refine amC (dK t a b&&·) ?_;unfold o3;rw[amN];have:=mU h1 e1;simp only[anA,ami,amk,amj,amu];omega
 rw[hY];refine aa ?_;refine cU λcW=>?_;refine bQ 0 ?_;have jr:=lz t.J.length (λa b=>dK t a b&&o3 t a b) hb;refine ao (gr (λI hw=>abD t.J.length s1 (bT t.J.length (dK t)) t.J.length cy (bT t.J.length λa b=>dK t a b&&o3 t a b) I (hw.ed) (hw.ed)) ?_);unfold FF Go.gH.cp;rw[N1 iB jr,amo rfl,amo rfl,amw];rintro v jI es jJ ⟨dq,j5,rfl,rfl⟩;have k0:(bT t.J.length λi j=>aT (bT t.J.length (dK t)) i j&&!aT (bT t.J.length λa b=>dK t a b&&o3 t a b) i j)=bT t.J.length λa b=>dK t a b&&!o3 t a b:=qM λa b au e1=>by rw[uE _ _ hb _ _ au e1,uE _ _ hb _ _ au e1];cases dK t a b<;>simp
 rw[k0];refine aa ?_;refine cU λgg=>?_;refine bQ 0 ?_;refine ao (gr (λI hw=>A2 (lz _ (λa b=>dK t a b&&!o3 t a b) hb) fT (hw.ed) (hw.ed)) ?_);rintro v pG es pO ⟨dd,k4,rfl,rfl⟩;rw[AI hb];refine aa ?_;refine bQ 9 ?_;refine eR rfl (.dz rfl QJ rfl (.t1 rfl)) [_] [0] λI hw=>?_;refine⟨dd,k4,?_,?_⟩
 ·unfold pN;rw[h1];rfl
 rw[b8];refine amC (λr=>[et dd r]) (qM λa b _ _=>?_);unfold nu vi;cases dK t a b<;>simp
end Go.Proofs.bK
