/- Lemmas for the law WholeSound. -/
import Derived.Lib.SliceRun
import Derived.Test.YtiknadellddjhaaGreatDoorS26
set_option linter.all false
open Go.Proofs.Tryz
set_option maxHeartbeats 3200000
open Go Go.cc Go.bU
namespace Go.cc
open Go Go.RowKit
section
variable {P:Program} {N:Nat} {tm:dU} {A:World->Prop} {c:Bool}
theorem AA{t e:TypeId}{x y:Operand}{ty:TypeId}[aE:fz P t e](a:Option Addr) (n:Nat) (m:Nat) (hx:bo tm c x (.slice a n m):=by exact b7) (aR:bo tm c y U:=by exact b7):bR P N (.binOp .eql t x y ty) tm A c (.bool a.isNone):=by unfold bR;intro ai w _ _ _ _ _ _ cn hw;simp only[execOp,hx.get cn ai,aR.get cn ai];exact hG (Go.Lib.run_eql_slice_nil _ _ _ _ _ _ _ _ aE.h)
end
end Go.cc
attribute [local irreducible] Go.wpList Go.Code.wp Go.bodyPost Go.Exit.then Go.Exit.inBlock Go.Calls
namespace Go.Proofs.bK
theorem agd(v:Value)(xs:List ByteArray)(w:World)(h:aV an w dV 1 v xs)(hx:xs.length<=100000):bj prog 66 [v] w λn r I=>aV (Fr n) I dV 1 r xs:=by
 obtain⟨a,m,cap,rfl,hm,_,_,fR⟩:=h.is;refine ca func66 ntmps66 ?_;refine dg (AA a m cap) (ab:=aa ?_);refine bA (λh1=>?_) λh1=>?_
 ·have hxs:xs=[]:=by
   cases xs with
   | nil=>rfl
   | cons y ys=>
    have:=fR (by rw[hm];simp);cases a with
    | none=>cases this
    | some A=>cases h1
  refine bl λI hw=>?_;rw[hxs];exact⟨⟨none,0,0,rfl,rfl,amK _,by decide,λh=>by cases h⟩,λi x j u h=>by simp at h,λa n cap h hp=>by injection h with h;cases h⟩
 refine aa ?_;refine ao (eA _ _ (ab:=λv5 om=>aa ?_));refine ao (tX 0 xs rfl (bG:=by simp;omega) (ab:=λuQ sb=>aa ?_));refine bP rfl (.t1 rfl) λI hw=>?_;exact hw.hK aL aL
theorem age(v:Value)(xs:List cE)(w:World)(h:aV an w ev 3 v xs)(hx:xs.length<=100000):bj prog 69 [v] w λn r I=>aV (Fr n) I ev 3 r xs:=by
 obtain⟨a,m,cap,rfl,hm,_,_,fR⟩:=h.is;refine ca func69 ntmps69 ?_;refine dg (AA a m cap) (ab:=aa ?_);refine bA (λh1=>?_) λh1=>?_
 ·have hxs:xs=[]:=by
   cases xs with
   | nil=>rfl
   | cons y ys=>
    have:=fR (by rw[hm];simp);cases a with
    | none=>cases this
    | some A=>cases h1
  refine bl λI hw=>?_;rw[hxs];exact⟨⟨none,0,0,rfl,rfl,amK _,by decide,λh=>by cases h⟩,λi x j u h=>by simp at h,λa n cap h hp=>by injection h with h;cases h⟩
 refine aa ?_;refine ao (eA _ _ (ab:=λv5 om=>aa ?_));refine ao (tX 0 xs rfl (bG:=by simp;omega) (ab:=λuQ sb=>aa ?_));refine bP rfl (.t1 rfl) λI hw=>?_;exact hw.hK aL aL
theorem Tv(v:Value)(xs:List Instr)(w:World)(h:aV an w cC 8 v xs)(hx:xs.length<=100000):eH prog 161 [v] w λ_ r es _=>aD r/\es=[.own r 169 8 cC xs]:=by
 obtain⟨a,m,cap,rfl,hm,_,_,fR⟩:=h.is;refine iY func161 ntmps161 ?_;refine dg (AA a m cap) (ab:=aa ?_);refine bA (λh1=>?_) λh1=>?_
 ·have hxs:xs=[]:=by
   cases xs with
   | nil=>rfl
   | cons y ys=>
    have:=fR (by rw[hm];simp);cases a with
    | none=>cases this
    | some A=>cases h1
  refine aa ?_;refine dZ 169 8 cC ?_;exact eR rfl (.t1 rfl) _ [0] λ_ _=>⟨cZ,by rw[hxs]⟩
 refine aa ?_;refine ao (eA _ _ (ab:=λv5 om=>aa ?_));refine ao (tX 0 xs rfl (bG:=by simp;omega) (ab:=λuQ sb=>aa ?_));exact eR rfl (.t1 rfl) _ [0] λ_ _=>⟨sb,rfl⟩
theorem C7(v:Value)(xs:List dY)(w:World)(h:aV an w dm 2 v xs)(hx:xs.length<=100000):eH prog 174 [v] w λ_ r es _=>aD r/\es=[.own r 70 2 dm xs]:=by
 obtain⟨a,m,cap,rfl,hm,_,_,fR⟩:=h.is;refine iY func174 ntmps174 ?_;refine dg (AA a m cap) (ab:=aa ?_);refine bA (λh1=>?_) λh1=>?_
 ·have hxs:xs=[]:=by
   cases xs with
   | nil=>rfl
   | cons y ys=>
    have:=fR (by rw[hm];simp);cases a with
    | none=>cases this
    | some A=>cases h1
  refine aa ?_;refine dZ 70 2 dm ?_;exact eR rfl (.t1 rfl) _ [0] λ_ _=>⟨cZ,by rw[hxs]⟩
 refine aa ?_;refine ao (eA _ _ (ab:=λv5 om=>aa ?_));refine ao (tX 0 xs rfl (bG:=by simp;omega) (ab:=λuQ sb=>aa ?_));exact eR rfl (.t1 rfl) _ [0] λ_ _=>⟨sb,rfl⟩
theorem agc(v:Value)(xs:List b5)(w:World)(h:aV an w bz 2 v xs)(hx:xs.length<=100000):eH prog 251 [v] w λ_ r es _=>aD r/\es=[.own r 178 2 bz xs]:=by
 obtain⟨a,m,cap,rfl,hm,_,_,fR⟩:=h.is;refine iY func251 ntmps251 ?_;refine dg (AA a m cap) (ab:=aa ?_);refine bA (λh1=>?_) λh1=>?_
 ·have hxs:xs=[]:=by
   cases xs with
   | nil=>rfl
   | cons y ys=>
    have:=fR (by rw[hm];simp);cases a with
    | none=>cases this
    | some A=>cases h1
  refine aa ?_;refine dZ 178 2 bz ?_;exact eR rfl (.t1 rfl) _ [0] λ_ _=>⟨cZ,by rw[hxs]⟩
 refine aa ?_;refine ao (eA _ _ (ab:=λv5 om=>aa ?_));refine ao (tX 0 xs rfl (bG:=by simp;omega) (ab:=λuQ sb=>aa ?_));exact eR rfl (.t1 rfl) _ [0] λ_ _=>⟨sb,rfl⟩
theorem AQ(v:Value)(xs:List Int)(w:World)(h:aV an w bd 1 v xs)(hx:xs.length<=100000):eH prog 90 [v] w λ_ r es _=>aD r/\es=[.own r 3 1 bd xs]:=by
 obtain⟨a,m,cap,rfl,hm,_,_,fR⟩:=h.is;refine iY func90 ntmps90 ?_;refine dg (AA a m cap) (ab:=aa ?_);refine bA (λh1=>?_) λh1=>?_
 ·have hxs:xs=[]:=by
   cases xs with
   | nil=>rfl
   | cons y ys=>
    have:=fR (by rw[hm];simp);cases a with
    | none=>cases this
    | some A=>cases h1
  refine aa ?_;refine dZ 3 1 bd ?_;exact eR rfl (.t1 rfl) _ [0] λ_ _=>⟨cZ,by rw[hxs]⟩
 refine aa ?_;refine ao (eA _ _ (ab:=λv5 om=>aa ?_));refine ao (tX 0 xs rfl (bG:=by simp;omega) (ab:=λuQ sb=>aa ?_));exact eR rfl (.t1 rfl) _ [0] λ_ _=>⟨sb,rfl⟩
theorem agf(v:Value)(xs:List ByteArray)(w:World)(aw:aD v)(hx:xs.length<=100000)(yn:Mem [] [.own v 9 1 dV xs] w): ph prog 143 [v] (.own v 9 1 dV xs) w λ_ r e' _=>∃dL,aD dL/\r=dL/\e'=.own dL 9 1 dV (lJ xs):=by
 refine HD func143 ntmps143 rfl rfl yn ?_;refine bg (λh1=>?_) λh1=>?_
 ·rw[aq]at h1;refine aa ?_;refine yH rfl (.t1 rfl) aL aL λI hw=>?_;refine⟨v,aw,rfl,?_⟩;rw[show lJ xs=xs from(xI xs _ (amK _) λj ad=>by unfold jH;rw[amq (show j=0 by omega)];rfl).trans (amU)]
 rw[ar]at h1;refine aa ?_;refine b9 (λk:Nat=>1<=k/\k<=xs.length/\∀j,j<k->jH xs j=true) (λk=>[(3,true,.int .i64 k),(0,true,v)]) (λ_=>Mem [(w,pR (.own v 9 1 dV xs))] [.own v 9 1 dV xs]) (λk=>xs.length-k) 1 ⟨amK _,by omega,λj ad=>by unfold jH;rw[amq (show j=0 by omega)];rfl⟩ ?_
 rintro k ⟨lL,hk,bS⟩;refine bg (λh2=>?_) λh2=>?_
 ·have bF:k<xs.length:=by rw[aq]at h2;omega
  have gA:((k:Int)-1).toNat=k-1:=by omega
  refine aa ?_;refine cV [0,1,2,3,4,5,6,7,8,9] mixed ?_;refine aP ?_;refine bg (λh3=>?_) λh3=>?_
  ·have h3:xs.getD k default=xs.getD (k-1) default:=by rw[aq]at h3;rwa[gA]at h3
   have yc:jH xs k=false:=by unfold jH;rw[amq h3,amy (by omega)];rfl
   refine aa ?_;refine dg (AB dV 9 k xs (bY rfl) (bY rfl) aL λ_=>by omega) (ab:=aa ?_);refine b9 (λs:Nat×Nat×List ByteArray=>1<=s.1/\s.1<=xs.length-k/\s.2.1<k+s.1/\s.2.2.length=xs.length/\(∀j,k+s.1<=j+1->s.2.2.getD j default=xs.getD j default)/\s.2.2.take s.2.1=qs xs (k+s.1)/\s.2.1<=xs.length) (λs=>[(5,true,.int .i64 s.1),(4,true,gU 1 k xs.length v),(3,true,.int .i64 s.2.1),(0,true,v)]) (λs=>Mem [(w,pR (.own v 9 1 dV xs))] [.own v 9 1 dV s.2.2]) (λs=>xs.length-s.1) (1,k,xs) ⟨amK _,by dsimp only;omega,by dsimp only;omega,rfl,λ_ _=>rfl,by dsimp only;rw[xJ,yc,amn (by simp),amB,xI xs k hk bS],hk⟩ ?_
   rintro⟨j,q,ys⟩ ⟨EI,ad,aZ,o2,iz,gu,Cb⟩;dsimp only at EI ad aZ o2 iz gu Cb⊢;have r9:q=(qs xs (k+j)).length:=by rw[<-gu,amX];omega
   refine aa ?_;refine dg (Sj (l:=k) (h:=xs.length) (v:=v) (tt:=9) (sz:=1) (enc:=dV) (xs:=ys) (bY rfl) aL) (ab:=aa ?_);refine bA (λaC=>?_) λaC=>?_
   ·have c5:k+j<xs.length:=by rw[aq]at aC;omega
    have gh:k+((j:Int)-1).toNat=k+j-1:=by omega
    have BE:k+((j:Int)).toNat=k+j:=by omega
    refine aa ?_;refine cV [0,1,2,3,4,5,6,7,8,9] mixed ?_;refine aP ?_;refine jb (h:=Az (l:=k) (h:=xs.length) (v:=v) (tt:=9) (sz:=1) (enc:=dV) (xs:=ys) (n:=(j:Int)) (bY rfl) (bY rfl) aL λ_=>by omega) (ab:=?_);rw[BE];have YX:k+j<ys.length:=by omega
    refine aP ?_;refine jb (h:=Az (l:=k) (h:=xs.length) (v:=v) (tt:=9) (sz:=1) (enc:=dV) (xs:=ys) (n:=(j:Int)-1) (bY rfl) (bY rfl) aL λ_=>by omega) (ab:=?_);rw[gh];refine aP ?_;refine bg (λaW=>?_) λaW=>?_
    ·have aW:¬xs.getD (k+j) default=xs.getD (k+j-1) default:=by rw[amk,ar]at aW;rwa[iz (k+j) (by omega),iz (k+j-1) (by omega)]at aW
     have yd:jH xs (k+j)=true:=by unfold jH;rw[amy aW];simp
     have I0:q<ys.length:=by omega
     refine aa ?_;refine dg (Az (l:=k) (h:=xs.length) (v:=v) (tt:=9) (sz:=1) (enc:=dV) (xs:=ys) (n:=(j:Int)) (bY rfl) (bY rfl) aL λ_=>by omega) (ab:=?_);rw[BE];refine aa ?_;refine ao (fB 0 rfl (ys.getD (k+j) default) (ab:=aa ?_));refine bt (j+1,q+1,ys.set q (ys.getD (k+j) default)) ⟨by dsimp only;omega,by dsimp only;omega,by dsimp only;omega,by dsimp only;rw[amQ];exact o2,λi hi=>?_,?_,by dsimp only;omega⟩ (by dsimp only;omega)
     ·dsimp only at hi⊢;rw[fL,amn λe=>by omega];exact iz i (by omega)
     dsimp only;rw[show k+(j+1)=k+j+1 by omega,xJ,yd,amo rfl,<-gu,ang,List.take_set_of_le (amK q),an8 I0,iz (k+j) (by omega)];rfl
    have aW:xs.getD (k+j) default=xs.getD (k+j-1) default:=by rw[amm,aq]at aW;rwa[iz (k+j) (by omega),iz (k+j-1) (by omega)]at aW
    have yd:jH xs (k+j)=false:=by unfold jH;rw[amq aW,amy (by omega)];rfl
    refine aa ?_;exact bt (j+1,q,ys) ⟨by dsimp only;omega,by dsimp only;omega,by dsimp only;omega,o2,λi hi=>iz i (by dsimp only at hi;omega),by dsimp only;rw[show k+(j+1)=k+j+1 by omega,xJ,yd,amn (by simp),amB];exact gu,Cb⟩ (by dsimp only;omega) ⟨rfl,rfl,rfl,rfl,trivial⟩ λ_ h=>h
   have c5:k+j=xs.length:=by rw[ar]at aC;omega
   rw[c5]at gu;have uo:∀z:ByteArray,(ys.take q++List.replicate (ys.length-q) z).length=ys.length:=λz=>by rw[ams,amX,amS];omega
   have Jw:∀z:ByteArray,(ys.take q++List.replicate (ys.length-q) z).take q=lJ xs:=λz=>by rw[List.take_left' (by rw[amX];omega),gu];rfl
   refine aa ?_;refine dg (AB dV 9 q ys (bY rfl) (bY rfl) aL λ_=>by omega) (ab:=aa ?_);refine ao (OC (k:=0) (l:=q) (xs:=ys) (v:=v) (bY rfl) rfl rfl (by exact .cons rfl .nil) (by omega) ?_);refine aa ?_;refine dg (Sf (n:=q) (v:=v) (tt:=9) (enc:=dV) (xs:=ys.take q++List.replicate (ys.length-q) ByteArray.empty) (bY rfl) (bY rfl) aL λ_=>by rw[uo];omega) (ab:=aa ?_);refine cJ (Mem [(w,pR (.own v 9 1 dV xs))] [.own (zl q v) 9 1 dV (lJ xs)]) (λ_ h=>by have:=h.NG 0 rfl q (by rw[uo];omega);rw[Jw]at this;exact this) ?_
   refine yH rfl (.t1 rfl) aL aL λI hw=>?_;exact⟨_,aw.cut q,rfl,rfl⟩
  have h3:¬xs.getD k default=xs.getD (k-1) default:=by rw[ar]at h3;rwa[gA]at h3
  refine aa ?_;exact bt (k+1) ⟨by omega,by omega,λj ad=>by
   by_cases e:j<k
   ·exact bS j e
   rw[show j=k by omega];unfold jH;rw[amy h3];simp⟩ (by omega) ⟨rfl,rfl,trivial⟩ λ_ h=>h
 have bF:k=xs.length:=by rw[ar]at h2;omega
 refine aa ?_;refine yH rfl (.t1 rfl) aL aL λI hw=>?_;refine⟨v,aw,rfl,?_⟩;rw[show lJ xs=xs from(xI xs _ (amK _) λj ad=>bS j (by omega)).trans (amU)]
theorem agh(v:Value)(xs:List cE)(w:World)(aw:aD v)(hx:xs.length<=100000)(yn:Mem [] [.own v 25 3 ev xs] w): ph prog 149 [v] (.own v 25 3 ev xs) w λ_ r e' _=>∃dL,aD dL/\r=dL/\e'=.own dL 25 3 ev (lJ xs):=by
 refine HD func149 ntmps149 rfl rfl yn ?_;refine bg (λh1=>?_) λh1=>?_
 ·rw[aq]at h1;refine aa ?_;refine yH rfl (.t1 rfl) aL aL λI hw=>?_;refine⟨v,aw,rfl,?_⟩;rw[show lJ xs=xs from(xI xs _ (amK _) λj ad=>by unfold jH;rw[amq (show j=0 by omega)];rfl).trans (amU)]
 rw[ar]at h1;refine aa ?_;refine b9 (λk:Nat=>1<=k/\k<=xs.length/\∀j,j<k->jH xs j=true) (λk=>[(3,true,.int .i64 k),(0,true,v)]) (λ_=>Mem [(w,pR (.own v 25 3 ev xs))] [.own v 25 3 ev xs]) (λk=>xs.length-k) 1 ⟨amK _,by omega,λj ad=>by unfold jH;rw[amq (show j=0 by omega)];rfl⟩ ?_
 rintro k ⟨lL,hk,bS⟩;refine bg (λh2=>?_) λh2=>?_
 ·have bF:k<xs.length:=by rw[aq]at h2;omega
  have gA:((k:Int)-1).toNat=k-1:=by omega
  refine aa ?_;refine cV [0,1,2,3,4,5,6,7,8,9] mixed ?_;refine aP ?_;refine bg (λh3=>?_) λh3=>?_
  ·have h3:xs.getD k default=xs.getD (k-1) default:=by rw[aq]at h3;rwa[gA]at h3
   have yc:jH xs k=false:=by unfold jH;rw[amq h3,amy (by omega)];rfl
   refine aa ?_;refine dg (AB ev 25 k xs (bY rfl) (bY rfl) aL λ_=>by omega) (ab:=aa ?_);refine b9 (λs:Nat×Nat×List cE=>1<=s.1/\s.1<=xs.length-k/\s.2.1<k+s.1/\s.2.2.length=xs.length/\(∀j,k+s.1<=j+1->s.2.2.getD j default=xs.getD j default)/\s.2.2.take s.2.1=qs xs (k+s.1)/\s.2.1<=xs.length) (λs=>[(5,true,.int .i64 s.1),(4,true,gU 3 k xs.length v),(3,true,.int .i64 s.2.1),(0,true,v)]) (λs=>Mem [(w,pR (.own v 25 3 ev xs))] [.own v 25 3 ev s.2.2]) (λs=>xs.length-s.1) (1,k,xs) ⟨amK _,by dsimp only;omega,by dsimp only;omega,rfl,λ_ _=>rfl,by dsimp only;rw[xJ,yc,amn (by simp),amB,xI xs k hk bS],hk⟩ ?_
   rintro⟨j,q,ys⟩ ⟨EI,ad,aZ,o2,iz,gu,Cb⟩;dsimp only at EI ad aZ o2 iz gu Cb⊢;have r9:q=(qs xs (k+j)).length:=by rw[<-gu,amX];omega
   refine aa ?_;refine dg (Sj (l:=k) (h:=xs.length) (v:=v) (tt:=25) (sz:=3) (enc:=ev) (xs:=ys) (bY rfl) aL) (ab:=aa ?_);refine bA (λaC=>?_) λaC=>?_
   ·have c5:k+j<xs.length:=by rw[aq]at aC;omega
    have gh:k+((j:Int)-1).toNat=k+j-1:=by omega
    have BE:k+((j:Int)).toNat=k+j:=by omega
    refine aa ?_;refine cV [0,1,2,3,4,5,6,7,8,9] mixed ?_;refine aP ?_;refine jb (h:=Az (l:=k) (h:=xs.length) (v:=v) (tt:=25) (sz:=3) (enc:=ev) (xs:=ys) (n:=(j:Int)) (bY rfl) (bY rfl) aL λ_=>by omega) (ab:=?_);rw[BE];have YX:k+j<ys.length:=by omega
    refine aP ?_;refine jb (h:=Az (l:=k) (h:=xs.length) (v:=v) (tt:=25) (sz:=3) (enc:=ev) (xs:=ys) (n:=(j:Int)-1) (bY rfl) (bY rfl) aL λ_=>by omega) (ab:=?_);rw[gh];refine aP ?_;refine bg (λaW=>?_) λaW=>?_
    ·have aW:¬xs.getD (k+j) default=xs.getD (k+j-1) default:=by rw[amk,ar]at aW;rwa[iz (k+j) (by omega),iz (k+j-1) (by omega)]at aW
     have yd:jH xs (k+j)=true:=by unfold jH;rw[amy aW];simp
     have I0:q<ys.length:=by omega
     refine aa ?_;refine dg (Az (l:=k) (h:=xs.length) (v:=v) (tt:=25) (sz:=3) (enc:=ev) (xs:=ys) (n:=(j:Int)) (bY rfl) (bY rfl) aL λ_=>by omega) (ab:=?_);rw[BE];refine aa ?_;refine ao (fB 0 rfl (ys.getD (k+j) default) (ab:=aa ?_));refine bt (j+1,q+1,ys.set q (ys.getD (k+j) default)) ⟨by dsimp only;omega,by dsimp only;omega,by dsimp only;omega,by dsimp only;rw[amQ];exact o2,λi hi=>?_,?_,by dsimp only;omega⟩ (by dsimp only;omega)
     ·dsimp only at hi⊢;rw[fL,amn λe=>by omega];exact iz i (by omega)
     dsimp only;rw[show k+(j+1)=k+j+1 by omega,xJ,yd,amo rfl,<-gu,ang,List.take_set_of_le (amK q),an8 I0,iz (k+j) (by omega)];rfl
    have aW:xs.getD (k+j) default=xs.getD (k+j-1) default:=by rw[amm,aq]at aW;rwa[iz (k+j) (by omega),iz (k+j-1) (by omega)]at aW
    have yd:jH xs (k+j)=false:=by unfold jH;rw[amq aW,amy (by omega)];rfl
    refine aa ?_;exact bt (j+1,q,ys) ⟨by dsimp only;omega,by dsimp only;omega,by dsimp only;omega,o2,λi hi=>iz i (by dsimp only at hi;omega),by dsimp only;rw[show k+(j+1)=k+j+1 by omega,xJ,yd,amn (by simp),amB];exact gu,Cb⟩ (by dsimp only;omega) ⟨rfl,rfl,rfl,rfl,trivial⟩ λ_ h=>h
   have c5:k+j=xs.length:=by rw[ar]at aC;omega
   rw[c5]at gu;have uo:∀z:cE,(ys.take q++List.replicate (ys.length-q) z).length=ys.length:=λz=>by rw[ams,amX,amS];omega
   have Jw:∀z:cE,(ys.take q++List.replicate (ys.length-q) z).take q=lJ xs:=λz=>by rw[List.take_left' (by rw[amX];omega),gu];rfl
   refine aa ?_;refine dg (AB ev 25 q ys (bY rfl) (bY rfl) aL λ_=>by omega) (ab:=aa ?_);refine ao (OC (k:=0) (l:=q) (xs:=ys) (v:=v) (bY rfl) rfl rfl (by exact .cons rfl (.cons rfl (.cons rfl .nil))) (by omega) ?_);refine aa ?_;refine dg (Sf (n:=q) (v:=v) (tt:=25) (enc:=ev) (xs:=ys.take q++List.replicate (ys.length-q) (⟨0,0,ByteArray.empty⟩:cE)) (bY rfl) (bY rfl) aL λ_=>by rw[uo];omega) (ab:=aa ?_);refine cJ (Mem [(w,pR (.own v 25 3 ev xs))] [.own (zl q v) 25 3 ev (lJ xs)]) (λ_ h=>by have:=h.NG 0 rfl q (by rw[uo];omega);rw[Jw]at this;exact this) ?_
   refine yH rfl (.t1 rfl) aL aL λI hw=>?_;exact⟨_,aw.cut q,rfl,rfl⟩
  have h3:¬xs.getD k default=xs.getD (k-1) default:=by rw[ar]at h3;rwa[gA]at h3
  refine aa ?_;exact bt (k+1) ⟨by omega,by omega,λj ad=>by
   by_cases e:j<k
   ·exact bS j e
   rw[show j=k by omega];unfold jH;rw[amy h3];simp⟩ (by omega) ⟨rfl,rfl,trivial⟩ λ_ h=>h
 have bF:k=xs.length:=by rw[ar]at h2;omega
 refine aa ?_;refine yH rfl (.t1 rfl) aL aL λI hw=>?_;refine⟨v,aw,rfl,?_⟩;rw[show lJ xs=xs from(xI xs _ (amK _) λj ad=>bS j (by omega)).trans (amU)]
end Go.Proofs.bK
