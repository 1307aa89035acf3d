/- Lemmas for the law WholeComplete. -/
import Derived.Lib.SliceRun
import Derived.Test.YtiknadellddjhaaGreatDoorC23
set_option linter.all false
open Go.Proofs.Tryz
set_option maxHeartbeats 6400000
open Go Go.b9 Go.bM
namespace Go.b9
open Go Go.RowKit
section
variable {P:Program} {N:Nat} {tm:dY} {A:World->Prop} {c:Bool}
theorem Bi{t e:TypeId}{x y:Operand}{ty:TypeId}[aJ:fD P t e](a:Option Addr) (n:Nat) (m:Nat) (hx:bt tm c x (.slice a n m):=by exact cb) (aY:bt tm c y aa:=by exact cb):bW P N (.binOp .eql t x y ty) tm A c (.bool a.isNone):=by unfold bW;intro ai w _ _ _ _ _ _ cy hw;simp only[execOp,hx.get cy ai,aY.get cy ai];exact hX (Go.Lib.run_eql_slice_nil _ _ _ _ _ _ _ _ aJ.h)
end
end Go.b9
namespace Go.Proofs.bA
attribute [local irreducible] wpList Code.wp bodyPost Exit.then Exit.inBlock Calls
theorem ahX(v:Value)(xs:List ByteArray)(w:World)(h:aZ al w dU 1 v xs)(hx:xs.length<=100000):bl prog 66 [v] w λn r I=>aZ (Fr n) I dU 1 r xs:=by
 obtain⟨a,m,cap,rfl,hm,_,_,fQ⟩:=h.is;refine bZ func66 ntmps66 ?_;refine dh (Bi a m cap) (ab:=U ?_);refine bC (λh1=>?_) λh1=>?_
 ·have hxs:xs=[]:=by
   cases xs with
   | nil=>rfl
   | cons y ys=>
    have:=fQ (by rw[hm];simp);cases a with
    | none=>cases this
    | some A=>cases h1
  refine bf λI hw=>?_;rw[hxs];exact⟨⟨none,0,0,rfl,rfl,aoL _,by decide,λh=>by cases h⟩,λi x j u h=>by simp at h,λa n cap h hp=>by injection h with h;cases h⟩
 refine U ?_;refine aq (eI (ab:=λv5 nI=>U ?_));refine aq (uA 0 rfl xs (bH:=by simp;omega) (ab:=λvj sv=>U ?_));refine bT rfl (.t1 rfl) λI hw=>?_;exact hw.im aP aP
theorem ahY(v:Value)(xs:List cK)(w:World)(h:aZ al w eH 3 v xs)(hx:xs.length<=100000):bl prog 69 [v] w λn r I=>aZ (Fr n) I eH 3 r xs:=by
 obtain⟨a,m,cap,rfl,hm,_,_,fQ⟩:=h.is;refine bZ func69 ntmps69 ?_;refine dh (Bi a m cap) (ab:=U ?_);refine bC (λh1=>?_) λh1=>?_
 ·have hxs:xs=[]:=by
   cases xs with
   | nil=>rfl
   | cons y ys=>
    have:=fQ (by rw[hm];simp);cases a with
    | none=>cases this
    | some A=>cases h1
  refine bf λI hw=>?_;rw[hxs];exact⟨⟨none,0,0,rfl,rfl,aoL _,by decide,λh=>by cases h⟩,λi x j u h=>by simp at h,λa n cap h hp=>by injection h with h;cases h⟩
 refine U ?_;refine aq (eI (ab:=λv5 nI=>U ?_));refine aq (uA 0 rfl xs (bH:=by simp;omega) (ab:=λvj sv=>U ?_));refine bT rfl (.t1 rfl) λI hw=>?_;exact hw.im aP aP
theorem Uq(v:Value)(xs:List Instr)(w:World)(h:aZ al w cL 8 v xs)(hx:xs.length<=100000):en prog 161 [v] w λ_ r es _=>aD r/\es=[.own r 169 8 cL xs]:=by
 obtain⟨a,m,cap,rfl,hm,_,_,fQ⟩:=h.is;refine hL func161 ntmps161 ?_;refine dh (Bi a m cap) (ab:=U ?_);refine bC (λh1=>?_) λh1=>?_
 ·have hxs:xs=[]:=by
   cases xs with
   | nil=>rfl
   | cons y ys=>
    have:=fQ (by rw[hm];simp);cases a with
    | none=>cases this
    | some A=>cases h1
  refine U ?_;refine ea 169 8 cL ?_;exact et rfl (.t1 rfl) _ [0] λ_ _=>⟨cU,by rw[hxs]⟩
 refine U ?_;refine aq (eI (ab:=λv5 nI=>U ?_));refine aq (uA 0 rfl xs (bH:=by simp;omega) (ab:=λvj sv=>U ?_));exact et rfl (.t1 rfl) _ [0] λ_ _=>⟨sv,rfl⟩
theorem DM(v:Value)(xs:List eh)(w:World)(h:aZ al w dy 2 v xs)(hx:xs.length<=100000):en prog 174 [v] w λ_ r es _=>aD r/\es=[.own r 70 2 dy xs]:=by
 obtain⟨a,m,cap,rfl,hm,_,_,fQ⟩:=h.is;refine hL func174 ntmps174 ?_;refine dh (Bi a m cap) (ab:=U ?_);refine bC (λh1=>?_) λh1=>?_
 ·have hxs:xs=[]:=by
   cases xs with
   | nil=>rfl
   | cons y ys=>
    have:=fQ (by rw[hm];simp);cases a with
    | none=>cases this
    | some A=>cases h1
  refine U ?_;refine ea 70 2 dy ?_;exact et rfl (.t1 rfl) _ [0] λ_ _=>⟨cU,by rw[hxs]⟩
 refine U ?_;refine aq (eI (ab:=λv5 nI=>U ?_));refine aq (uA 0 rfl xs (bH:=by simp;omega) (ab:=λvj sv=>U ?_));exact et rfl (.t1 rfl) _ [0] λ_ _=>⟨sv,rfl⟩
theorem ahW(v:Value)(xs:List ca)(w:World)(h:aZ al w bB 2 v xs)(hx:xs.length<=100000):en prog 251 [v] w λ_ r es _=>aD r/\es=[.own r 178 2 bB xs]:=by
 obtain⟨a,m,cap,rfl,hm,_,_,fQ⟩:=h.is;refine hL func251 ntmps251 ?_;refine dh (Bi a m cap) (ab:=U ?_);refine bC (λh1=>?_) λh1=>?_
 ·have hxs:xs=[]:=by
   cases xs with
   | nil=>rfl
   | cons y ys=>
    have:=fQ (by rw[hm];simp);cases a with
    | none=>cases this
    | some A=>cases h1
  refine U ?_;refine ea 178 2 bB ?_;exact et rfl (.t1 rfl) _ [0] λ_ _=>⟨cU,by rw[hxs]⟩
 refine U ?_;refine aq (eI (ab:=λv5 nI=>U ?_));refine aq (uA 0 rfl xs (bH:=by simp;omega) (ab:=λvj sv=>U ?_));exact et rfl (.t1 rfl) _ [0] λ_ _=>⟨sv,rfl⟩
theorem Bw(v:Value)(xs:List Int)(w:World)(h:aZ al w a7 1 v xs)(hx:xs.length<=100000):en prog 90 [v] w λ_ r es _=>aD r/\es=[.own r 3 1 a7 xs]:=by
 obtain⟨a,m,cap,rfl,hm,_,_,fQ⟩:=h.is;refine hL func90 ntmps90 ?_;refine dh (Bi a m cap) (ab:=U ?_);refine bC (λh1=>?_) λh1=>?_
 ·have hxs:xs=[]:=by
   cases xs with
   | nil=>rfl
   | cons y ys=>
    have:=fQ (by rw[hm];simp);cases a with
    | none=>cases this
    | some A=>cases h1
  refine U ?_;refine ea 3 1 a7 ?_;exact et rfl (.t1 rfl) _ [0] λ_ _=>⟨cU,by rw[hxs]⟩
 refine U ?_;refine aq (eI (ab:=λv5 nI=>U ?_));refine aq (uA 0 rfl xs (bH:=by simp;omega) (ab:=λvj sv=>U ?_));exact et rfl (.t1 rfl) _ [0] λ_ _=>⟨sv,rfl⟩
theorem ahZ(v:Value)(xs:List ByteArray)(w:World)(ax:aD v)(hx:xs.length<=100000)(y1:Mem [] [.own v 9 1 dU xs] w): oy prog 143 [v] (.own v 9 1 dU xs) w λ_ r e' _=>∃dG,aD dG/\r=dG/\e'=.own dG 9 1 dU (l5 xs):=by
 refine Ie func143 ntmps143 rfl rfl y1 ?_;refine a8 (λh1=>?_) λh1=>?_
 ·rw[an]at h1;refine U ?_;refine zh rfl (.t1 rfl) aP aP λI hw=>?_;refine⟨v,ax,rfl,?_⟩;rw[show l5 xs=xs from(yh xs _ (aoL _) λj ae=>by unfold jW;rw[aow (show j=0 by omega)];rfl).trans (aoZ)]
 rw[au]at h1;refine U ?_;refine bX (λk:Nat=>1<=k/\k<=xs.length/\∀j,j<k->jW xs j=true) (λk=>[(3,true,.int .i64 k),(0,true,v)]) (λ_=>Mem [(w,pX (.own v 9 1 dU xs))] [.own v 9 1 dU xs]) (λk=>xs.length-k) 1 ⟨aoL _,by omega,λj ae=>by unfold jW;rw[aow (show j=0 by omega)];rfl⟩ ?_
 rintro k ⟨ix,hk,bG⟩;refine a8 (λh2=>?_) λh2=>?_
 ·have bq:k<xs.length:=by rw[an]at h2;omega
  have fI:((k:Int)-1).toNat=k-1:=by omega
  refine U ?_;refine cz [0,1,2,3,4,5,6,7,8,9] mixed ?_;refine aN ?_;refine a8 (λh3=>?_) λh3=>?_
  ·have h3:xs.getD k default=xs.getD (k-1) default:=by rw[an]at h3;rwa[fI]at h3
   have CB:jW xs k=false:=by unfold jW;rw[aow h3,aoE (by omega)];rfl
   refine U ?_;refine dh (zr dU 9 k xs (b3 rfl) (b3 rfl) aP λ_=>by omega) (ab:=U ?_);refine bX (λs:Nat×Nat×List ByteArray=>1<=s.1/\s.1<=xs.length-k/\s.2.1<k+s.1/\s.2.2.length=xs.length/\(∀j,k+s.1<=j+1->s.2.2.getD j default=xs.getD j default)/\s.2.2.take s.2.1=qE xs (k+s.1)/\s.2.1<=xs.length) (λs=>[(5,true,.int .i64 s.1),(4,true,gU 1 k xs.length v),(3,true,.int .i64 s.2.1),(0,true,v)]) (λs=>Mem [(w,pX (.own v 9 1 dU xs))] [.own v 9 1 dU s.2.2]) (λs=>xs.length-s.1) (1,k,xs) ⟨aoL _,by dsimp only;omega,by dsimp only;omega,rfl,λ_ _=>rfl,by dsimp only;rw[yi,CB,aot (by simp),aoH,yh xs k hk bG],hk⟩ ?_
   rintro⟨j,q,ys⟩ ⟨Fl,ae,ba,pf,iL,gj,CO⟩;dsimp only at Fl ae ba pf iL gj CO⊢;have ss:q=(qE xs (k+j)).length:=by rw[<-gj,ao3];omega
   refine U ?_;refine dh (Th (l:=k) (h:=xs.length) (v:=v) (tt:=9) (sz:=1) (enc:=dU) (xs:=ys) (b3 rfl) aP) (ab:=U ?_);refine bC (λaA=>?_) λaA=>?_
   ·have da:k+j<xs.length:=by rw[an]at aA;omega
    have gr:k+((j:Int)-1).toNat=k+j-1:=by omega
    have Cj:k+((j:Int)).toNat=k+j:=by omega
    refine U ?_;refine cz [0,1,2,3,4,5,6,7,8,9] mixed ?_;refine aN ?_;refine jA (h:=Bh (l:=k) (h:=xs.length) (v:=v) (tt:=9) (sz:=1) (enc:=dU) (xs:=ys) (n:=(j:Int)) (b3 rfl) (b3 rfl) aP λ_=>by omega) (ab:=?_);rw[Cj];have aab:k+j<ys.length:=by omega
    refine aN ?_;refine jA (h:=Bh (l:=k) (h:=xs.length) (v:=v) (tt:=9) (sz:=1) (enc:=dU) (xs:=ys) (n:=(j:Int)-1) (b3 rfl) (b3 rfl) aP λ_=>by omega) (ab:=?_);rw[gr];refine aN ?_;refine a8 (λa6=>?_) λa6=>?_
    ·have a6:¬xs.getD (k+j) default=xs.getD (k+j-1) default:=by rw[aoq,au]at a6;rwa[iL (k+j) (by omega),iL (k+j-1) (by omega)]at a6
     have yM:jW xs (k+j)=true:=by unfold jW;rw[aoE a6];simp
     have JF:q<ys.length:=by omega
     refine U ?_;refine dh (Bh (l:=k) (h:=xs.length) (v:=v) (tt:=9) (sz:=1) (enc:=dU) (xs:=ys) (n:=(j:Int)) (b3 rfl) (b3 rfl) aP λ_=>by omega) (ab:=?_);rw[Cj];refine U ?_;refine aq (fq 0 rfl (ys.getD (k+j) default) (ab:=U ?_));refine bm (j+1,q+1,ys.set q (ys.getD (k+j) default)) ⟨by dsimp only;omega,by dsimp only;omega,by dsimp only;omega,by dsimp only;rw[aoU];exact pf,λi hi=>?_,?_,by dsimp only;omega⟩ (by dsimp only;omega)
     ·dsimp only at hi⊢;rw[fU,aot λe=>by omega];exact iL i (by omega)
     dsimp only;rw[show k+(j+1)=k+j+1 by omega,yi,yM,aou rfl,<-gj,apn,List.take_set_of_le (aoL q),aqf JF,iL (k+j) (by omega)];rfl
    have a6:xs.getD (k+j) default=xs.getD (k+j-1) default:=by rw[aos,an]at a6;rwa[iL (k+j) (by omega),iL (k+j-1) (by omega)]at a6
    have yM:jW xs (k+j)=false:=by unfold jW;rw[aow a6,aoE (by omega)];rfl
    refine U ?_;exact bm (j+1,q,ys) ⟨by dsimp only;omega,by dsimp only;omega,by dsimp only;omega,pf,λi hi=>iL i (by dsimp only at hi;omega),by dsimp only;rw[show k+(j+1)=k+j+1 by omega,yi,yM,aot (by simp),aoH];exact gj,CO⟩ (by dsimp only;omega) ⟨rfl,rfl,rfl,rfl,trivial⟩ λ_ h=>h
   have da:k+j=xs.length:=by rw[au]at aA;omega
   rw[da]at gj;have uQ:∀z:ByteArray,(ys.take q++List.replicate (ys.length-q) z).length=ys.length:=λz=>by rw[aoy,ao3,aoX];omega
   have Ka:∀z:ByteArray,(ys.take q++List.replicate (ys.length-q) z).take q=l5 xs:=λz=>by rw[List.take_left' (by rw[ao3];omega),gj];rfl
   refine U ?_;refine dh (zr dU 9 q ys (b3 rfl) (b3 rfl) aP λ_=>by omega) (ab:=U ?_);refine aq (Pz (k:=0) (l:=q) (xs:=ys) (v:=v) (b3 rfl) rfl rfl (by exact .cons rfl .nil) (by omega) ?_);refine U ?_;refine dh (Lr (n:=q) (v:=v) (tt:=9) (enc:=dU) (xs:=ys.take q++List.replicate (ys.length-q) ByteArray.empty) (b3 rfl) (b3 rfl) aP λ_=>by rw[uQ];omega) (ab:=U ?_);refine cA (Mem [(w,pX (.own v 9 1 dU xs))] [.own (vJ q v) 9 1 dU (l5 xs)]) (λ_ h=>by have:=h.H2 0 rfl q (by rw[uQ];omega);rw[Ka]at this;exact this) ?_
   refine zh rfl (.t1 rfl) aP aP λI hw=>?_;exact⟨_,ax.cut q,rfl,rfl⟩
  have h3:¬xs.getD k default=xs.getD (k-1) default:=by rw[au]at h3;rwa[fI]at h3
  refine U ?_;exact bm (k+1) ⟨by omega,by omega,λj ae=>by
   by_cases e:j<k
   ·exact bG j e
   rw[show j=k by omega];unfold jW;rw[aoE h3];simp⟩ (by omega) ⟨rfl,rfl,trivial⟩ λ_ h=>h
 have bq:k=xs.length:=by rw[au]at h2;omega
 refine U ?_;refine zh rfl (.t1 rfl) aP aP λI hw=>?_;refine⟨v,ax,rfl,?_⟩;rw[show l5 xs=xs from(yh xs _ (aoL _) λj ae=>bG j (by omega)).trans (aoZ)]
theorem ah0(v:Value)(xs:List cK)(w:World)(ax:aD v)(hx:xs.length<=100000)(y1:Mem [] [.own v 25 3 eH xs] w): oy prog 149 [v] (.own v 25 3 eH xs) w λ_ r e' _=>∃dG,aD dG/\r=dG/\e'=.own dG 25 3 eH (l5 xs):=by
 refine Ie func149 ntmps149 rfl rfl y1 ?_;refine a8 (λh1=>?_) λh1=>?_
 ·rw[an]at h1;refine U ?_;refine zh rfl (.t1 rfl) aP aP λI hw=>?_;refine⟨v,ax,rfl,?_⟩;rw[show l5 xs=xs from(yh xs _ (aoL _) λj ae=>by unfold jW;rw[aow (show j=0 by omega)];rfl).trans (aoZ)]
 rw[au]at h1;refine U ?_;refine bX (λk:Nat=>1<=k/\k<=xs.length/\∀j,j<k->jW xs j=true) (λk=>[(3,true,.int .i64 k),(0,true,v)]) (λ_=>Mem [(w,pX (.own v 25 3 eH xs))] [.own v 25 3 eH xs]) (λk=>xs.length-k) 1 ⟨aoL _,by omega,λj ae=>by unfold jW;rw[aow (show j=0 by omega)];rfl⟩ ?_
 rintro k ⟨ix,hk,bG⟩;refine a8 (λh2=>?_) λh2=>?_
 ·have bq:k<xs.length:=by rw[an]at h2;omega
  have fI:((k:Int)-1).toNat=k-1:=by omega
  refine U ?_;refine cz [0,1,2,3,4,5,6,7,8,9] mixed ?_;refine aN ?_;refine a8 (λh3=>?_) λh3=>?_
  ·have h3:xs.getD k default=xs.getD (k-1) default:=by rw[an]at h3;rwa[fI]at h3
   have CB:jW xs k=false:=by unfold jW;rw[aow h3,aoE (by omega)];rfl
   refine U ?_;refine dh (zr eH 25 k xs (b3 rfl) (b3 rfl) aP λ_=>by omega) (ab:=U ?_);refine bX (λs:Nat×Nat×List cK=>1<=s.1/\s.1<=xs.length-k/\s.2.1<k+s.1/\s.2.2.length=xs.length/\(∀j,k+s.1<=j+1->s.2.2.getD j default=xs.getD j default)/\s.2.2.take s.2.1=qE xs (k+s.1)/\s.2.1<=xs.length) (λs=>[(5,true,.int .i64 s.1),(4,true,gU 3 k xs.length v),(3,true,.int .i64 s.2.1),(0,true,v)]) (λs=>Mem [(w,pX (.own v 25 3 eH xs))] [.own v 25 3 eH s.2.2]) (λs=>xs.length-s.1) (1,k,xs) ⟨aoL _,by dsimp only;omega,by dsimp only;omega,rfl,λ_ _=>rfl,by dsimp only;rw[yi,CB,aot (by simp),aoH,yh xs k hk bG],hk⟩ ?_
   rintro⟨j,q,ys⟩ ⟨Fl,ae,ba,pf,iL,gj,CO⟩;dsimp only at Fl ae ba pf iL gj CO⊢;have ss:q=(qE xs (k+j)).length:=by rw[<-gj,ao3];omega
   refine U ?_;refine dh (Th (l:=k) (h:=xs.length) (v:=v) (tt:=25) (sz:=3) (enc:=eH) (xs:=ys) (b3 rfl) aP) (ab:=U ?_);refine bC (λaA=>?_) λaA=>?_
   ·have da:k+j<xs.length:=by rw[an]at aA;omega
    have gr:k+((j:Int)-1).toNat=k+j-1:=by omega
    have Cj:k+((j:Int)).toNat=k+j:=by omega
    refine U ?_;refine cz [0,1,2,3,4,5,6,7,8,9] mixed ?_;refine aN ?_;refine jA (h:=Bh (l:=k) (h:=xs.length) (v:=v) (tt:=25) (sz:=3) (enc:=eH) (xs:=ys) (n:=(j:Int)) (b3 rfl) (b3 rfl) aP λ_=>by omega) (ab:=?_);rw[Cj];have aab:k+j<ys.length:=by omega
    refine aN ?_;refine jA (h:=Bh (l:=k) (h:=xs.length) (v:=v) (tt:=25) (sz:=3) (enc:=eH) (xs:=ys) (n:=(j:Int)-1) (b3 rfl) (b3 rfl) aP λ_=>by omega) (ab:=?_);rw[gr];refine aN ?_;refine a8 (λa6=>?_) λa6=>?_
    ·have a6:¬xs.getD (k+j) default=xs.getD (k+j-1) default:=by rw[aoq,au]at a6;rwa[iL (k+j) (by omega),iL (k+j-1) (by omega)]at a6
     have yM:jW xs (k+j)=true:=by unfold jW;rw[aoE a6];simp
     have JF:q<ys.length:=by omega
     refine U ?_;refine dh (Bh (l:=k) (h:=xs.length) (v:=v) (tt:=25) (sz:=3) (enc:=eH) (xs:=ys) (n:=(j:Int)) (b3 rfl) (b3 rfl) aP λ_=>by omega) (ab:=?_);rw[Cj];refine U ?_;refine aq (fq 0 rfl (ys.getD (k+j) default) (ab:=U ?_));refine bm (j+1,q+1,ys.set q (ys.getD (k+j) default)) ⟨by dsimp only;omega,by dsimp only;omega,by dsimp only;omega,by dsimp only;rw[aoU];exact pf,λi hi=>?_,?_,by dsimp only;omega⟩ (by dsimp only;omega)
     ·dsimp only at hi⊢;rw[fU,aot λe=>by omega];exact iL i (by omega)
     dsimp only;rw[show k+(j+1)=k+j+1 by omega,yi,yM,aou rfl,<-gj,apn,List.take_set_of_le (aoL q),aqf JF,iL (k+j) (by omega)];rfl
    have a6:xs.getD (k+j) default=xs.getD (k+j-1) default:=by rw[aos,an]at a6;rwa[iL (k+j) (by omega),iL (k+j-1) (by omega)]at a6
    have yM:jW xs (k+j)=false:=by unfold jW;rw[aow a6,aoE (by omega)];rfl
    refine U ?_;exact bm (j+1,q,ys) ⟨by dsimp only;omega,by dsimp only;omega,by dsimp only;omega,pf,λi hi=>iL i (by dsimp only at hi;omega),by dsimp only;rw[show k+(j+1)=k+j+1 by omega,yi,yM,aot (by simp),aoH];exact gj,CO⟩ (by dsimp only;omega) ⟨rfl,rfl,rfl,rfl,trivial⟩ λ_ h=>h
   have da:k+j=xs.length:=by rw[au]at aA;omega
   rw[da]at gj;have uQ:∀z:cK,(ys.take q++List.replicate (ys.length-q) z).length=ys.length:=λz=>by rw[aoy,ao3,aoX];omega
   have Ka:∀z:cK,(ys.take q++List.replicate (ys.length-q) z).take q=l5 xs:=λz=>by rw[List.take_left' (by rw[ao3];omega),gj];rfl
   refine U ?_;refine dh (zr eH 25 q ys (b3 rfl) (b3 rfl) aP λ_=>by omega) (ab:=U ?_);refine aq (Pz (k:=0) (l:=q) (xs:=ys) (v:=v) (b3 rfl) rfl rfl (by exact .cons rfl (.cons rfl (.cons rfl .nil))) (by omega) ?_);refine U ?_;refine dh (Lr (n:=q) (v:=v) (tt:=25) (enc:=eH) (xs:=ys.take q++List.replicate (ys.length-q) (⟨0,0,ByteArray.empty⟩:cK)) (b3 rfl) (b3 rfl) aP λ_=>by rw[uQ];omega) (ab:=U ?_);refine cA (Mem [(w,pX (.own v 25 3 eH xs))] [.own (vJ q v) 25 3 eH (l5 xs)]) (λ_ h=>by have:=h.H2 0 rfl q (by rw[uQ];omega);rw[Ka]at this;exact this) ?_
   refine zh rfl (.t1 rfl) aP aP λI hw=>?_;exact⟨_,ax.cut q,rfl,rfl⟩
  have h3:¬xs.getD k default=xs.getD (k-1) default:=by rw[au]at h3;rwa[fI]at h3
  refine U ?_;exact bm (k+1) ⟨by omega,by omega,λj ae=>by
   by_cases e:j<k
   ·exact bG j e
   rw[show j=k by omega];unfold jW;rw[aoE h3];simp⟩ (by omega) ⟨rfl,rfl,trivial⟩ λ_ h=>h
 have bq:k=xs.length:=by rw[au]at h2;omega
 refine U ?_;refine zh rfl (.t1 rfl) aP aP λI hw=>?_;refine⟨v,ax,rfl,?_⟩;rw[show l5 xs=xs from(yh xs _ (aoL _) λj ae=>bG j (by omega)).trans (aoZ)]
end Go.Proofs.bA
namespace Go.bM
def e5(m:Value×BitVec 64):List Value:=[m.1,u64 m.2,u64 0#64,u64 0#64,u64 0#64]
def OH:List Value->Value×BitVec 64 | [a,b,_,_,_]=>(a,UY b) | _=>(.nilIface,0#64)
instance:eg e5 5:=⟨λ_=>rfl,by decide⟩
structure j0 where
 aE:Value
 aI:Value
 bv:Value
 aG:Value
 aR:Value
 ax:Value
def j0.ok(q:j0):Prop:=aD q.aE/\aD q.aI/\aD q.bv/\aD q.aG/\aD q.aR/\aD q.ax
def gK(t:aV)(ah ad ao:Value)(bI:Int)(ak:Value)(q:j0)(bh:BitVec 64)(ahead:Int)(full:Bool):List Value:=c6 t ah ad ao++[.int .i64 bI,ak,q.aE,u64 bh,u64 0#64,u64 0#64,u64 0#64,q.aI,q.bv,q.aG,q.aR,q.ax,.int .i64 ahead,.bool full]
theorem xP{xs:List ByteArray}{s:ByteArray}{k:Nat}{b:Bool}(hu:s5 xs)(aj:s∈xs)(h:zS xs s k b):k=dr xs s:=by
 obtain⟨j,ae,e⟩:=pj aj;have hb:b=true:=by
  cases b with
  | true=>rfl
  | false=>exact absurd e (h.2 rfl j ae)
 obtain⟨hk,aag⟩:=h.1 hb;have aL:dr xs s<xs.length:=by unfold dr;exact List.findIdx_lt_length_of_exists ⟨s,aj,by simp⟩
 have Jo:xs.getD (dr xs s) default=s:=by have:=List.findIdx_getElem (p:=λx=>decide (x=s)) (xs:=xs) (w:=aL);rw[aop]at this;rw[aor,aov aL];exact this
 exact hu.uniq hk aL aag Jo
theorem DV{l:List ByteArray}(h:l.Pairwise qw):s5 l:=λi h0 hi=>by have:=aph.1 h (i-1) i (by omega) hi (by omega);rw[aor,aor,aov hi,aov (show i-1<l.length by omega)];exact this
end Go.bM
namespace Go.Proofs.bA
attribute [local irreducible] wpList Code.wp bodyPost Exit.then Exit.inBlock Calls
instance:jo prog 165 e5 OH:=⟨trivial⟩
def c9(x:eO):Value×BitVec 64:=(iU x.has,x.on)
theorem wO{l:List eO}{i:Nat}(hi:i<l.length):(l.map c9).getD i default=c9 (l.getD i default):=by rw[aor,aor,ao4,aov hi];rfl
theorem qG(h:jZ):(iU h).oneCell'=true:=by cases h<;>rfl
def cP(aU:Nat)(t:aV)(ah ad ao:Value)(bI:Int)(ak:Value)(ahead:Int)(q:j0)(s:cg)(full:Bool):List aB:=
 [.box aU (gK t ah ad ao bI ak q s.bh ahead full) 85,.own q.aE 165 5 e5 (s.ag.map c9),.own q.aI 138 6 ef s.J,.own q.bv 140 3 fE s.bars,.own q.aG 178 2 bB s.addr,.own q.aR 178 2 bB s.data,.own q.ax 178 2 bB s.dF]
theorem MA(v:Value)(l:List ca)(x:BitVec 64)(i:Nat)(w:World)(ax:aD v)(aL:l.length<=100000)(hw:Mem [] [.own v 178 2 bB l] w): oy prog 151 [v,.agg (jv x).toArray,.int .i64 (i:Int)] (.own v 178 2 bB l) w λ_ r e' _=>∃dG,aD dG/\r=dG/\e'=.own dG 178 2 bB (l++hV x i):=by
 have hb:(my x).length<=64:=by unfold my;exact ao5 (apr _ _) (by simp)
 refine Ie func151 ntmps151 rfl rfl hw ?_;refine U ?_;refine b7 λbs=>?_;refine aq (bp (λI hw=>ahO x I) ?_);rintro ak bx bc c0 cu;have yw:=c0.le;have lr:((my x).map λ(a:Nat)=>(a:Int)).length=(my x).length:=aoJ _;refine U ?_;refine bX (λs:Nat×Value=>s.1<=(my x).length/\aD s.2) (λs=>[(12,true,.int .i64 s.1),(11,true,.int .i64 ((my x).map λ(a:Nat)=>(a:Int)).length),(10,true,ak),(2,true,.int .i64 (i:Int)),(0,true,s.2)]) (λs=>Mem [(bc,Fr bx),(w,pX (.own v 178 2 bB l))] [.own s.2 178 2 bB (l++(hV x i).take s.1)]) (λs=>(my x).length-s.1) (0,v) ⟨aoD _,ax⟩ ?_ ⟨rfl,rfl,rfl,rfl,rfl,trivial⟩ (λ_ h=>by dsimp only;rw[List.take_zero,aoH];exact h.cC [1])
 rintro⟨k,u⟩ ⟨hk,hu⟩;dsimp only at hk hu⊢;have mc:(hV x i).length=(my x).length:=by unfold hV;rw[aoJ]
 have qR:((hV x i).take k).length<=64:=by rw[ao3];omega
 refine a8 (λh1=>?_) λh1=>?_
 ·have bU:k<(my x).length:=by rw[an,lr]at h1;omega
  have az:((my x).map λ(a:Nat)=>(a:Int)).getD k default=((my x).getD k default:Nat):=by rw[aor,ao4,aov bU,aor,aov bU];rfl
  have hp:(hV x i).take (k+1)=(hV x i).take k++[⟨((my x).map λ(a:Nat)=>(a:Int)).getD k default,(i:Int)⟩]:=by rw[az,apn];congr 1;unfold hV;rw[ao4,aov bU,aor,aov bU];rfl
  refine U ?_;refine aq (eI (ab:=λv20 AJ=>U ?_));refine aq (e6 1 (hk:=rfl) (bH:=by simp at qR⊢;omega) (ab:=λv21 CW=>U ?_));refine bm (k+1,v21) ⟨by dsimp only;omega,CW⟩ (by dsimp only;omega) (hA:=λ_ h=>?_);dsimp only;rw[hp,<-aoP];exact h.cC [1]
 have bU:k=(my x).length:=by rw[au,lr]at h1;omega
 refine U ?_;refine zh rfl (.t1 rfl) dg aP λI hw=>?_;refine⟨u,hu,rfl,?_⟩;rw[bU,<-mc,aoZ]
def Nj(aU:Nat)(t:aV)(ah ad ao:Value)(bI:Int)(ak:Value)(ahead:Int)(u:Value)(q:j0)(s:cg)(full:Bool):Nat->Value->List aB->World->Prop:=λ_ r es _=>r=u/\es=cP aU t ah ad ao bI ak ahead q s full
theorem MB(aU:Nat)(t:aV)(ah ad ao:Value)(bI:Int)(ak:Value)(ahead:Int)(q:j0)(s:cg)(full:Bool)(d:Int)(x:eO)(w:World)(ba:q.ok)(hd:0<=d/\d<s.ag.length)(hw:Mem [] (cP aU t ah ad ao bI ak ahead q s full) w): eY prog 73 [av aU,.int .i64 d,.agg (e5 (c9 x)).toArray] (cP aU t ah ad ao bI ak ahead q s full) w (Nj aU t ah ad ao bI ak ahead (.tuple #[]) q {s with ag:=gP t.aC s.ag d x} full):=by
 obtain⟨cB,bz,fc,iB,kp,oi⟩:=ba;have ep:(s.ag.map c9).length=s.ag.length:=aoJ _;refine tk func73 ntmps73 rfl rfl hw ?_;unfold cP;refine af ?_;refine e4 λeQ=>?_;refine bC (λh1=>?_) λh1=>?_
 ·refine af ?_;refine cz [0,1,2,3,4,5,6,7] mixed ?_;refine bQ ?_;refine gw (h:=fq 2 rfl (c9 x) (h1:=.cons (qG _) (.cons rfl (.cons rfl (.cons rfl (.cons rfl .nil))))) (ab:=af ?_));refine qV rfl .nil aP (cP aU t ah ad ao bI ak ahead q {s with ag:=gP t.aC s.ag d x} full) [1,2,3,4,5,6,7] ?_ (by decide) λI hw=>⟨rfl,rfl⟩;have:(s.ag.map c9).set d.toNat (c9 x)=(gP t.aC s.ag d x).map c9:=by unfold gP;rw[aot,List.map_set];rintro⟨wJ,xW⟩;rw[aox,aoq,aoq,au,au]at h1;exact h1.elim (λz=>z xW) λz=>z wJ
  rw[this];rfl
 refine af ?_;refine qV rfl .nil aP (cP aU t ah ad ao bI ak ahead q {s with ag:=gP t.aC s.ag d x} full) [1,2,3,4,5,6,7] ?_ (by decide) λI hw=>⟨rfl,rfl⟩;rw[show gP t.aC s.ag d x=s.ag from ?_];rfl;unfold gP;rw[aoz,aos,aos,an,an]at h1;rw[aou ⟨h1.2,h1.1⟩]
def yo(aO:List ByteArray)(bI:Int)(s:cg)(e:eV)(loc:ByteArray)(on:BitVec 64):cg:={s with J:=s.J++[({e with aH:=bI,loc:=((dr aO loc:Nat):Int)}:eV)],addr:=s.addr++hV on s.J.length,dF:=s.dF++hV s.bh s.J.length}
def VV(aU:Nat)(t:aV)(ah ad ao:Value)(bI:Int)(ak:Value)(aO:List ByteArray)(ahead:Nat)(q:j0)(s:cg)(e:eV)(loc:ByteArray)(on:BitVec 64):Nat->Value->List aB->World->Prop:=λ_ r es _=>
 (64<=ahead+s.J.length/\r=.int .i64 0/\es=cP aU t ah ad ao bI ak ahead q s true)\/
 (¬64<=ahead+s.J.length/\r=.int .i64 (s.J.length:Int)/\∃q',j0.ok q'/\es=cP aU t ah ad ao bI ak ahead q' (yo aO bI s e loc on) false)
structure BW(aO:List ByteArray)(ahead:Nat)(q:j0)(s:cg):Prop where
 q:q.ok
 up:s5 aO
 aO:aO.length<=64
 ahead:ahead<=64
 J:s.J.length<=256
 addr:s.addr.length<=50000
 data:s.data.length<=50000
 dF:s.dF.length<=50000
 bars:s.bars.length<=256
theorem U1(aU:Nat)(t:aV)(ah ad ao:Value)(bI:Int)(ak:Value)(aO:List ByteArray)(ahead:Nat)(q:j0)(s:cg)(e:eV)(loc:ByteArray)(on:BitVec 64)(w:World)(bn:BW aO ahead q s)(eS:loc∈aO) (c0:aZ (bJ (cP aU t ah ad ao bI ak ahead q s false)) w dU 1 ak aO) (hw:Mem [] (cP aU t ah ad ao bI ak ahead q s false) w): eY prog 150 [av aU,.agg (ef e).toArray,.string loc,.agg (jv on).toArray] (cP aU t ah ad ao bI ak ahead q s false) w (VV aU t ah ad ao bI ak aO ahead q s e loc on):=by
 obtain⟨⟨cB,bz,fc,iB,kp,oi⟩,fZ,jD,lS,oe,pq,nj,ql,sD⟩:=bn;have Jp:=c0.aK;refine tk func150 ntmps150 rfl rfl hw ?_;refine cA (Mem [(w,bJ (cP aU t ah ad ao bI ak ahead q s false))] [.box aU (gK t ah ad ao bI ak ⟨q.aE,q.aI,q.bv,q.aG,q.aR,q.ax⟩ s.bh ahead false) 85,.own q.aE 165 5 e5 ((s.ag).map c9),.own q.aI 138 6 ef (s.J),.own q.bv 140 3 fE (s.bars),.own q.aG 178 2 bB (s.addr),.own q.aR 178 2 bB (s.data),.own q.ax 178 2 bB (s.dF)]) (λ_ h=>h) (af ?_);refine e4 λec=>?_;refine e4 λey=>?_;refine bC (λh1=>?_) λh1=>?_
 ·rw[an]at h1;refine af ?_;refine c7 2 ?_;refine eL rfl (.t1 rfl) (cP aU t ah ad ao bI ak ahead q s true) [2,3,4,5,6,7,8] λI hw=>.inl ⟨by omega,rfl,rfl⟩
 rw[au]at h1;refine af ?_;refine c7 1 ?_;refine aq (hq (bb:=λI hw=>yd ak loc aO I (hw.now c0) fZ (by omega)) (ab:=?_));rintro v bx bc ⟨k,b,rfl,cS⟩ cu;obtain rfl:=xP fZ eS cS;refine af ?_;refine aq (bK 1 (ab:=?_));refine cA (Mem [(w,bJ (cP aU t ah ad ao bI ak ahead q s false))] [.box ey (jv on) 83,.box ec (ef {e with aH:=bI,loc:=((dr aO loc:Nat):Int)}) 138,.box aU (gK t ah ad ao bI ak ⟨q.aE,q.aI,q.bv,q.aG,q.aR,q.ax⟩ s.bh ahead false) 85,.own q.aE 165 5 e5 ((s.ag).map c9),.own q.aI 138 6 ef (s.J),.own q.bv 140 3 fE (s.bars),.own q.aG 178 2 bB (s.addr),.own q.aR 178 2 bB (s.data),.own q.ax 178 2 bB (s.dF)]) cv (af ?_);refine fw (Mem [(w,bJ (cP aU t ah ad ao bI ak ahead q s false))] [.box ey (jv on) 83,.box ec (ef {e with aH:=bI,loc:=((dr aO loc:Nat):Int)}) 138,.box aU (gK t ah ad ao bI ak ⟨q.aE,q.aI,q.bv,q.aG,q.aR,q.ax⟩ s.bh ahead false) 85]) [0,1,2,3,4,5,6,7,8,9,10] mixed (b4 [0,1,2]) ?_;refine bQ ?_;refine bO _ (h:=eI (enc:=ef) (dec:=H5) (e:=138) (sz:=6) (len:=1) (dM:=[(0,ef {e with aH:=bI,loc:=((dr aO loc:Nat):Int)})]) (ab:=?_));intro v46 al3;refine aF (bQ ?_) (b4 [1,2,3]);refine bO _ (h:=e6 5 (hk:=rfl) (bH:=by simp;omega) (ab:=?_));intro pU y0;refine aF (aN ?_) (b4 [1,2,3]);refine eP (λ_=>True) (h:=uC rfl tT ?_);refine aF (aN ?_) dz;refine bO _ (h:=bK 3 (ab:=?_));refine aF (aN ?_) dz;refine cA (Mem [(w,bJ (cP aU t ah ad ao bI ak ahead q s false))] [.box ey (jv on) 83,.box ec (ef {e with aH:=bI,loc:=((dr aO loc:Nat):Int)}) 138,.box aU (gK t ah ad ao bI ak ⟨q.aE,pU,q.bv,q.aG,q.aR,q.ax⟩ s.bh ahead false) 85,.own q.aE 165 5 e5 ((s.ag).map c9),.own pU 138 6 ef (s.J++[({e with aH:=bI,loc:=((dr aO loc:Nat):Int)}:eV)]),.own q.bv 140 3 fE (s.bars),.own q.aG 178 2 bB (s.addr),.own q.aR 178 2 bB (s.data),.own q.ax 178 2 bB (s.dF)]) (b4 [1,2,3,4,5,6,7,8,9]) (af ?_);refine fw (Mem [(w,bJ (cP aU t ah ad ao bI ak ahead q s false))] [.box ey (jv on) 83,.box ec (ef {e with aH:=bI,loc:=((dr aO loc:Nat):Int)}) 138,.box aU (gK t ah ad ao bI ak ⟨q.aE,pU,q.bv,q.aG,q.aR,q.ax⟩ s.bh ahead false) 85]) [0,1,2,3,4,5,6,7,8,9,10] mixed (b4 [0,1,2]) ?_;refine bQ ?_;refine bO _ (h:=uB 6 rfl (bb:=λI hw=>MA q.aG s.addr on s.J.length I iB (by omega) (hw.only oQ)) (ab:=?_));rintro zD ck _ bY ⟨_,FF,rfl,rfl⟩;refine aF (aN ?_) (b4 [0,1,2]);refine eP (λ_=>True) (h:=uC rfl tT ?_);refine aF (aN ?_) dz;refine bO _ (h:=bK 2 (ab:=?_));refine aF (aN ?_) dz;refine cA (Mem [(w,bJ (cP aU t ah ad ao bI ak ahead q s false))] [.box ey (jv on) 83,.box ec (ef {e with aH:=bI,loc:=((dr aO loc:Nat):Int)}) 138,.box aU (gK t ah ad ao bI ak ⟨q.aE,pU,q.bv,zD,q.aR,q.ax⟩ s.bh ahead false) 85,.own q.aE 165 5 e5 ((s.ag).map c9),.own pU 138 6 ef (s.J++[({e with aH:=bI,loc:=((dr aO loc:Nat):Int)}:eV)]),.own q.bv 140 3 fE (s.bars),.own zD 178 2 bB (s.addr++hV on s.J.length),.own q.aR 178 2 bB (s.data),.own q.ax 178 2 bB (s.dF)]) (λ_ h=>h) (af ?_);refine fw (Mem [(w,bJ (cP aU t ah ad ao bI ak ahead q s false))] [.box ey (jv on) 83,.box ec (ef {e with aH:=bI,loc:=((dr aO loc:Nat):Int)}) 138,.box aU (gK t ah ad ao bI ak ⟨q.aE,pU,q.bv,zD,q.aR,q.ax⟩ s.bh ahead false) 85]) [0,1,2,3,4,5,6,7,8,9,10,11,12,13] mixed (b4 [0,1,2]) ?_;refine bQ ?_;refine bO _ (h:=uB 8 rfl (bb:=λI hw=>MA q.ax s.dF s.bh s.J.length I oi (by omega) (hw.only KD)) (ab:=?_));rintro v70 hj _ fW ⟨_,abq,rfl,rfl⟩;refine aF (aN ?_) (b4 [0,1,2]);refine eP (λ_=>True) (h:=uC rfl tT ?_);refine aF (aN ?_) dz;refine bO _ (h:=bK 2 (ab:=?_));refine aF (aN ?_) dz;refine af ?_;refine eL rfl (.t1 rfl) (cP aU t ah ad ao bI ak ahead ⟨q.aE,pU,q.bv,zD,q.aR,v70⟩ (yo aO bI s e loc on) false) [2,3,4,5,6,7,8] λI hw=>.inr ⟨by omega,rfl,⟨q.aE,pU,q.bv,zD,q.aR,v70⟩,⟨cB,y0,fc,FF,kp,abq⟩,rfl⟩
end Go.Proofs.bA
namespace Go.b9
open Go Go.RowKit
theorem Gz{P:Program}{N:Nat}{tm:dY}{A:World->Prop}{c:Bool}{t len e sz n b kO:Nat}{z eu:Value}[aJ:BX P t len e][cF:dn P e sz b eu][bL:dn P t n kO z]:bW P N (.build t #[]) tm A c (.agg z.cells):=by unfold bW;intro ai a w _ _ _ _ _ cy hw;simp only[execOp];refine hX ?_;obtain⟨i,hi,_,_,a1⟩:=bL.h;obtain⟨i2,yI,_,_,_⟩:=cF.h;simp[Instr.build,zeroValue,typeInfo,hi,a1,run_underlying aJ.h,sizeOf,yI,Instr.fill]
end Go.b9
attribute [local irreducible] Go.wpList Go.Code.wp Go.bodyPost Go.Exit.then Go.Exit.inBlock Go.Calls
namespace Go.Proofs.bA
def zE(aO:List ByteArray)(bI:Int)(s:cg)(k:Int)(loc:ByteArray)(on:BitVec 64)(n:Int)(x:BitVec 64):cg:={yo aO bI s ⟨0,k,2,0,n,0⟩ loc on with data:=s.data++hV x s.J.length}
def Nu(aU:Nat)(t:aV)(ah ad ao:Value)(bI:Int)(ak:Value)(aO:List ByteArray)(ahead:Nat)(q:j0)(s:cg)(k:Int)(loc:ByteArray)(on:BitVec 64)(x:eO):Nat->Value->List aB->World->Prop:=λ_ r es _=>
 ((hz x.has).2=false/\r=.bool false/\es=cP aU t ah ad ao bI ak ahead q s false)\/
 ((hz x.has).2=true/\64<=ahead+s.J.length/\r=.bool true/\es=cP aU t ah ad ao bI ak ahead q s true)\/
 ((hz x.has).2=true/\¬64<=ahead+s.J.length/\r=.bool true/\∃q',j0.ok q'/\es=cP aU t ah ad ao bI ak ahead q' (zE aO bI s k loc on (hz x.has).1 x.on) false)
theorem MD(aU:Nat)(t:aV)(ah ad ao:Value)(bI:Int)(ak:Value)(aO:List ByteArray)(ahead:Nat)(q:j0)(s:cg)(k:Int)(loc:ByteArray)(on:BitVec 64)(x:eO)(w:World)(bn:BW aO ahead q s)(eS:loc∈aO) (c0:aZ (bJ (cP aU t ah ad ao bI ak ahead q s false)) w dU 1 ak aO) (hw:Mem [] (cP aU t ah ad ao bI ak ahead q s false) w): eY prog 71 [av aU,.int .i64 k,.string loc,.agg (jv on).toArray,.agg (e5 (c9 x)).toArray] (cP aU t ah ad ao bI ak ahead q s false) w (Nu aU t ah ad ao bI ak aO ahead q s k loc on x):=by
 have ej:=bn.data;obtain⟨cB,bz,fc,iB,kp,oi⟩:=bn.q;have Jp:=c0.aK;refine tk func71 ntmps71 rfl rfl hw ?_;refine cA (Mem [(w,bJ (cP aU t ah ad ao bI ak ahead q s false))] [.box aU (gK t ah ad ao bI ak ⟨q.aE,q.aI,q.bv,q.aG,q.aR,q.ax⟩ s.bh ahead false) 85,.own q.aE 165 5 e5 ((s.ag).map c9),.own q.aI 138 6 ef (s.J),.own q.bv 140 3 fE (s.bars),.own q.aG 178 2 bB (s.addr),.own q.aR 178 2 bB (s.data),.own q.ax 178 2 bB (s.dF)]) (λ_ h=>h) (af ?_);refine e4 λdx=>?_;refine e4 λqB=>?_;refine dh (BB x.has (b3 rfl)) (ab:=af ?_);refine bC (λh1=>?_) λh1=>?_
 ·rw[aoq]at h1;refine af ?_;exact eL rfl (.t1 rfl) (cP aU t ah ad ao bI ak ahead q s false) [2,3,4,5,6,7,8] λI hw=>.inl ⟨h1,rfl,rfl⟩
 rw[aos]at h1;refine af ?_;refine cA (Mem [(w,bJ (cP aU t ah ad ao bI ak ahead q s false))] (cP aU t ah ad ao bI ak ahead q s false++[.box qB (e5 (c9 x)) 165,.box dx (jv on) 83])) (λ_ h=>h.perm (H':=cP aU t ah ad ao bI ak ahead q s false++[.box qB (e5 (c9 x)) 165,.box dx (jv on) 83]) (apx (l₁:=[_,_]))) ?_;refine aq (eB (bb:=λI hw=>U1 aU t ah ad ao bI ak aO ahead q s ⟨0,k,2,0,(hz x.has).1,0⟩ loc on I bn eS (hw.iD c0 aP λe he=>aoK _ he) hw.dt.ew) (ab:=?_));rintro r bx es bc (⟨fK,rfl,rfl⟩ | ⟨fK,rfl,q',wb,rfl⟩)
 ·refine cA (Mem [(w,bJ (cP aU t ah ad ao bI ak ahead q s false))] [.box aU (gK t ah ad ao bI ak ⟨q.aE,q.aI,q.bv,q.aG,q.aR,q.ax⟩ s.bh ahead true) 85,.own q.aE 165 5 e5 ((s.ag).map c9),.own q.aI 138 6 ef (s.J),.own q.bv 140 3 fE (s.bars),.own q.aG 178 2 bB (s.addr),.own q.aR 178 2 bB (s.data),.own q.ax 178 2 bB (s.dF),.box qB (e5 (c9 x)) 165,.box dx (jv on) 83]) (λ_ h=>h) (af ?_);refine cM rfl (λh2=>?_) (λh2=>by cases h2);refine af ?_;exact eL rfl (.t1 rfl) (cP aU t ah ad ao bI ak ahead q s true) [0,1,2,3,4,5,6] λI hw=>.inr (.inl ⟨h1,fK,rfl,rfl⟩)
 obtain⟨wJ,xW,Gr,SE,SF,SG⟩:=wb;refine cA (Mem [(w,bJ (cP aU t ah ad ao bI ak ahead q s false))] [.box aU (gK t ah ad ao bI ak ⟨q'.aE,q'.aI,q'.bv,q'.aG,q'.aR,q'.ax⟩ s.bh ahead false) 85,.own q'.aE 165 5 e5 ((s.ag).map c9),.own q'.aI 138 6 ef (s.J++[(⟨bI,k,2,((dr aO loc:Nat):Int),(hz x.has).1,0⟩:eV)]),.own q'.bv 140 3 fE (s.bars),.own q'.aG 178 2 bB (s.addr++hV on s.J.length),.own q'.aR 178 2 bB (s.data),.own q'.ax 178 2 bB (s.dF++hV s.bh s.J.length),.box qB (e5 (c9 x)) 165,.box dx (jv on) 83]) (λ_ h=>h) (af ?_);refine cM rfl (λh2=>by cases h2) λh2=>?_;refine af ?_;refine fw (Mem [(w,bJ (cP aU t ah ad ao bI ak ahead q s false))] [.box aU (gK t ah ad ao bI ak ⟨q'.aE,q'.aI,q'.bv,q'.aG,q'.aR,q'.ax⟩ s.bh ahead false) 85,.box qB (e5 (c9 x)) 165]) [0,1,2,3,4,5,6,7,8,9,10,11] mixed (b4 [0,7]) ?_;refine bQ ?_;refine bO _ (h:=uB 5 rfl (bb:=λI hw=>MA q'.aR s.data x.on s.J.length I SF (by omega) (hw.only pN)) (ab:=?_));rintro v41 ck _ bY ⟨_,wm,rfl,rfl⟩;refine aF (aN ?_) (b4 [0,7]);refine eP (λ_=>True) (h:=uC rfl tT ?_);refine aF (aN ?_) dz;refine bO _ (h:=bK 0 (ab:=?_));refine aF (aN ?_) dz;refine af ?_;exact eL rfl (.t1 rfl) (cP aU t ah ad ao bI ak ahead ⟨q'.aE,q'.aI,q'.bv,q'.aG,v41,q'.ax⟩ (zE aO bI s k loc on (hz x.has).1 x.on) false) [0,1,2,3,4,5,6] λI hw=>.inr (.inr ⟨h1,fK,rfl,⟨q'.aE,q'.aI,q'.bv,q'.aG,v41,q'.ax⟩,⟨wJ,xW,Gr,SE,wm,SG⟩,rfl⟩)
def zt(aC:Int)(aO:List ByteArray)(bI:Int)(s:cg)(k:Int)(loc:ByteArray)(on:BitVec 64)(d:Int):cg:={yo aO bI s ⟨0,k,1,0,0,d⟩ loc on with ag:=gP aC s.ag d ⟨.told s.J.length,1#64<<<s.J.length⟩}
def Nl(aU:Nat)(t:aV)(ah ad ao:Value)(bI:Int)(ak:Value)(aO:List ByteArray)(ahead:Nat)(q:j0)(s:cg)(k:Int)(loc:ByteArray)(on:BitVec 64)(d:Int):Nat->Value->List aB->World->Prop:=λ_ r es _=>
 (64<=ahead+s.J.length/\r=.tuple #[]/\es=cP aU t ah ad ao bI ak ahead q s true)\/
 (¬64<=ahead+s.J.length/\r=.tuple #[]/\∃q',j0.ok q'/\es=cP aU t ah ad ao bI ak ahead q' (zt t.aC aO bI s k loc on d) false)
theorem U5(aU:Nat)(t:aV)(ah ad ao:Value)(bI:Int)(ak:Value)(aO:List ByteArray)(ahead:Nat)(q:j0)(s:cg)(k:Int)(loc:ByteArray)(on:BitVec 64)(d:Int)(w:World)(bn:BW aO ahead q s)(eS:loc∈aO)(hd:0<=d/\d<s.ag.length) (c0:aZ (bJ (cP aU t ah ad ao bI ak ahead q s false)) w dU 1 ak aO) (hw:Mem [] (cP aU t ah ad ao bI ak ahead q s false) w): eY prog 72 [av aU,.int .i64 k,.string loc,.agg (jv on).toArray,.int .i64 d] (cP aU t ah ad ao bI ak ahead q s false) w (Nl aU t ah ad ao bI ak aO ahead q s k loc on d):=by
 have Jp:=c0.aK;refine tk func72 ntmps72 rfl rfl hw ?_;refine cA (Mem [(w,bJ (cP aU t ah ad ao bI ak ahead q s false))] [.box aU (gK t ah ad ao bI ak ⟨q.aE,q.aI,q.bv,q.aG,q.aR,q.ax⟩ s.bh ahead false) 85,.own q.aE 165 5 e5 ((s.ag).map c9),.own q.aI 138 6 ef (s.J),.own q.bv 140 3 fE (s.bars),.own q.aG 178 2 bB (s.addr),.own q.aR 178 2 bB (s.data),.own q.ax 178 2 bB (s.dF)]) (λ_ h=>h) (af ?_);refine e4 λdx=>?_;refine cA (Mem [(w,bJ (cP aU t ah ad ao bI ak ahead q s false))] (cP aU t ah ad ao bI ak ahead q s false++[.box dx (jv on) 83])) (λ_ h=>h.perm (H':=cP aU t ah ad ao bI ak ahead q s false++[.box dx (jv on) 83]) (apx (l₁:=[_]))) ?_;refine aq (eB (bb:=λI hw=>U1 aU t ah ad ao bI ak aO ahead q s ⟨0,k,1,0,0,d⟩ loc on I bn eS (hw.iD c0 aP λe he=>aoK _ he) hw.dt.ew) (ab:=?_));rintro r bx es bc (⟨fK,rfl,rfl⟩ | ⟨fK,rfl,q',wb,rfl⟩)
 ·refine cA (Mem [(w,bJ (cP aU t ah ad ao bI ak ahead q s false))] [.box aU (gK t ah ad ao bI ak ⟨q.aE,q.aI,q.bv,q.aG,q.aR,q.ax⟩ s.bh ahead true) 85,.own q.aE 165 5 e5 ((s.ag).map c9),.own q.aI 138 6 ef (s.J),.own q.bv 140 3 fE (s.bars),.own q.aG 178 2 bB (s.addr),.own q.aR 178 2 bB (s.data),.own q.ax 178 2 bB (s.dF),.box dx (jv on) 83]) (λ_ h=>h) (af ?_);refine cM rfl (λh2=>?_) (λh2=>by cases h2);refine af ?_;exact eL rfl .nil (cP aU t ah ad ao bI ak ahead q s true) [0,1,2,3,4,5,6] λI hw=>.inl ⟨fK,rfl,rfl⟩
 have kT:=wb;obtain⟨wJ,xW,Gr,SE,SF,SG⟩:=wb;refine cA (Mem [(w,bJ (cP aU t ah ad ao bI ak ahead q s false))] [.box aU (gK t ah ad ao bI ak ⟨q'.aE,q'.aI,q'.bv,q'.aG,q'.aR,q'.ax⟩ s.bh ahead false) 85,.own q'.aE 165 5 e5 ((s.ag).map c9),.own q'.aI 138 6 ef (s.J++[(⟨bI,k,1,((dr aO loc:Nat):Int),0,d⟩:eV)]),.own q'.bv 140 3 fE (s.bars),.own q'.aG 178 2 bB (s.addr++hV on s.J.length),.own q'.aR 178 2 bB (s.data),.own q'.ax 178 2 bB (s.dF++hV s.bh s.J.length),.box dx (jv on) 83]) (λ_ h=>h) (af ?_);refine cM rfl (λh2=>by cases h2) λh2=>?_;refine af ?_;refine dh (adH (b3 rfl)) (ab:=af ?_);refine dh (om Gz rfl) (v:=.agg (jv 0#64).toArray) (ab:=af ?_);refine aq (hq (bb:=λI hw=>ahP 0#64 s.J.length (by omega) I) (ab:=?_));rintro v ck bY rfl eZ;rw[BitVec.zero_or];refine af ?_;refine cA (Mem [(w,bJ (cP aU t ah ad ao bI ak ahead q s false))] (cP aU t ah ad ao bI ak ahead q' (yo aO bI s ⟨0,k,1,0,0,d⟩ loc on) false++([.box dx (jv on) 83]:List aB))) cv ?_;refine aq (eB (bb:=λI hw=>MB aU t ah ad ao bI ak ahead q' (yo aO bI s ⟨0,k,1,0,0,d⟩ loc on) false d ⟨.told s.J.length,1#64<<<s.J.length⟩ I kT hd hw.dt.ew) (ab:=?_));rintro r hj es fW ⟨rfl,rfl⟩;refine af ?_;exact qV rfl .nil aP (cP aU t ah ad ao bI ak ahead q' (zt t.aC aO bI s k loc on d) false) [0,1,2,3,4,5,6] rfl (by decide) λI hw=>.inr ⟨fK,rfl,q',kT,rfl⟩
end Go.Proofs.bA
