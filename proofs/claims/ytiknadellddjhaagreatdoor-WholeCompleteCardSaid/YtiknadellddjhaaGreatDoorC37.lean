/- Lemmas for the law WholeComplete. -/
import Derived.Test.YtiknadellddjhaaGreatDoorC25
set_option linter.all false
open Go.Proofs.Tryz
set_option maxHeartbeats 6400000
open Go Go.b9 Go.bM
attribute [local irreducible] Go.wpList Go.Code.wp Go.bodyPost Go.Exit.then Go.Exit.inBlock Go.Calls
namespace Go.Proofs.bA
instance:jr prog 361 (.map 3 360):=⟨underlying361⟩
def Tu(i:Instr)(a b:eh)(cT:Int)(aE:Value)(at':Int)(x:k4):List Value:=cL i++dy a++dy b++[.int .i64 cT,aE,.int .i64 at']++rm x
def e8(dc:Nat)(i:Instr)(a b:eh)(cT:Int)(aE:Value)(at':Int)(x:k4)(ag:List eh):List aB:=[.box dc (Tu i a b cT aE at' x) 359,.own aE 70 2 dy ag]
section
variable (dc:Nat) (i:Instr) (a b:eh) (cT:Int) (aE:Value) (at':Int) (x:k4) (ag:List eh) (w:World)
theorem L7(v:eh)(eo:aD aE)(hd:0<=i.d/\i.d<ag.length)(hw:Mem [] (e8 dc i a b cT aE at' x ag) w):eY prog 377 [av dc,.agg (dy v).toArray] (e8 dc i a b cT aE at' x ag) w λ_ r es _=>r=.bool true/\es=e8 dc i a b cT aE at' x (fM 2 ag i.d v):=by
 refine sa func377 ntmps377 hw ?_;refine e4 λbv=>?_;refine bC (λh1=>?_) λh1=>?_
 ·rw[aoq,au]at h1;refine U ?_;refine cz [0,1,2,3,4,5,6,7,8,9,10,11,12] mixed ?_;refine bQ ?_;refine gw (h:=fq 2 rfl v (ab:=U ?_));refine eL rfl (.t1 rfl) (e8 dc i a b cT aE at' x (ag.set i.d.toNat v)) [1,2] λI hw=>⟨rfl,?_⟩;unfold fM;rw[aot λq=>h1 q.2]
 rw[aos,an]at h1;refine U ?_;refine eL rfl (.t1 rfl) (e8 dc i a b cT aE at' x ag) [1,2] λI hw=>⟨rfl,?_⟩;unfold fM;rw[aou ⟨rfl,h1⟩]
end
theorem ag5(a b:eh)(w:World):bl prog 397 [.agg (dy a).toArray,.agg (dy b).toArray] w λ_ v _=>v=.tuple #[.agg (dy ((if b=gL then some a else if a=gL then some b else none).getD gL)).toArray,.bool (if b=gL then some a else if a=gL then some b else none).isSome]:=by
 refine bZ func397 ntmps397 ?_;refine b7 λdT=>?_;refine b7 λdf=>?_;refine cH λcO=>?_;refine dh (GA (enc:=dy) (p:=b) (q:=gL) (b3 rfl) (b3 rfl)) (v:=.bool (bw (b=gL))) (ab:=U ?_);refine bC (λh1=>?_) λh1=>?_
 ·rw[an]at h1;refine U ?_;refine bN 0 ?_;refine bT rfl (.dv rfl aP rfl (.t1 rfl)) λI hw=>?_;rw[aou h1];rfl
 rw[au]at h1;refine U ?_;refine dh (GA (enc:=dy) (p:=a) (q:=gL) (b3 rfl) (b3 rfl)) (v:=.bool (bw (a=gL))) (ab:=U ?_);refine bC (λh2=>?_) λh2=>?_
 ·rw[an]at h2;refine U ?_;refine bN 0 ?_;refine bT rfl (.dv rfl aP rfl (.t1 rfl)) λI hw=>?_;rw[aot h1,aou h2];rfl
 rw[au]at h2;refine U ?_;refine bN 0 ?_;refine bT rfl (.dv rfl aP rfl (.t1 rfl)) λI hw=>?_;rw[aot h1,aot h2];rfl
section
variable (dc:Nat) (i:Instr) (a b:eh) (cT:Int) (aE:Value) (at':Int) (x:k4) (ag:List eh) (w:World)
def Nd(o:Option eh):Nat->Value->List aB->World->Prop:=λ_ r es _=>r=.bool o.isSome/\es=e8 dc i a b cT aE at' x (match o with | some v=>fM 2 ag i.d v | none=>ag)
theorem L4(c5:Nat)[aS prog c5](op:Int)(p q:eh)(AG:∀(u v:BitVec 32) (w:World),bl prog c5 [.int .i32 u.toInt,.int .i32 v.toInt] w λ_ r _=>r=.int .i32 (if op=8 then u||| v else if op=9 then u ^^^ v else u+v).toInt) (eo:aD aE) (hd:0<=i.d/\i.d<ag.length) (hw:Mem [] (e8 dc i a b cT aE at' x ag) w): eY prog 375 [av dc,.agg (dy p).toArray,.agg (dy q).toArray,.func (.func c5) #[] #[]] (e8 dc i a b cT aE at' x ag) w (Nd dc i a b cT aE at' x ag (k0 op p q)):=by
 refine sa func375 ntmps375 hw ?_;refine b7 λzY=>?_;refine b7 λaky=>?_;refine bC (λh1=>?_) λh1=>?_
 ·rw[aoo,an,an]at h1;have h1:p.loc=bg/\q.loc=bg:=h1;refine U ?_;refine dh (wM (n:=p.n)) (ab:=U ?_);refine dh (wM (n:=q.n)) (ab:=U ?_);refine aq (hq (k:=c5) (first:=[]) (cap:=[]) (bb:=λI _=>AG _ _ I) (ab:=?_));rintro v bx bc rfl cu;refine U ?_;refine dh DB (ab:=U ?_);refine cA (Mem [(w,bJ (e8 dc i a b cT aE at' x ag))] (e8 dc i a b cT aE at' x ag++[])) (λ_ h=>h.cX.cC [2,3]) ?_;refine aq (eB (es:=e8 dc i a b cT aE at' x ag) (bb:=λI hw=>L7 dc i a b cT aE at' x ag I ⟨bg,pk op p.n q.n⟩ eo hd hw.dt.ew) (ab:=?_));rintro r ck es bY ⟨rfl,rfl⟩;refine U ?_;refine eL rfl (.t1 rfl) (e8 dc i a b cT aE at' x (fM 2 ag i.d ⟨bg,pk op p.n q.n⟩)) [0,1] λI hw=>?_;unfold Nd k0;rw[aou h1];exact⟨rfl,rfl⟩
 have bU:¬(p.loc=bg/\q.loc=bg):=λg=>by
  have e:(bw (p.loc=ByteArray.empty)&&bw (q.loc=ByteArray.empty))=true:=by rw[aoo,an,an];exact g
  have:=e.symm.trans h1;cases this
 have aat:k0 op p q=if q=gL then some p else if p=gL then some q else none:=by unfold k0;rw[aot bU]
 rw[aat];refine U ?_;refine aq (bp (λI _=>ag5 p q I) ?_);rintro v bx bc rfl cu;generalize(if q=gL then some p else if p=gL then some q else none)=o;refine U ?_;refine cH λbv=>?_;refine bN 0 ?_;cases o with
 | none=>refine e1 (h:=IA rfl) (u:=.bool true) (ab:=U ?_);exact eL rfl (.t1 rfl) (e8 dc i a b cT aE at' x ag) [3,4] λI hw=>⟨rfl,rfl⟩
 | some v=>refine cA (Mem [(w,bJ (e8 dc i a b cT aE at' x ag))] (e8 dc i a b cT aE at' x ag++[])) (λ_ h=>h.cX.cC [3,4]) ?_;refine x3 rfl rfl rfl ?_;refine aq (eB (es:=e8 dc i a b cT aE at' x ag) (bb:=λI hw=>L7 dc i a b cT aE at' x ag I v eo hd hw.dt.ew) (ab:=?_));rintro r ck es bY ⟨rfl,rfl⟩;refine U ?_;exact eL rfl (.t1 rfl) (e8 dc i a b cT aE at' x (fM 2 ag i.d v)) [0,1] λI hw=>⟨rfl,rfl⟩
end
section
variable (dc:Nat) (i:Instr) (a b:eh) (cT:Int) (aE:Value) (n:Nat) (ag:List eh) (w:World)
def w6(o:Option (hJ×k4)):Nat->Value->List aB->World->Prop:=λ_ r es _=>r=.bool o.isSome/\∃(m:Int) (y:k4) (g:List eh),es=e8 dc i a b cT aE m y g/\∀z,o=some z->g=z.1.ag/\m=(z.1.at':Int)/\y=z.2
theorem ag9(hw:Mem [] (e8 dc i a b cT aE n .no ag) w):eY prog 334 [av dc] (e8 dc i a b cT aE n .no ag) w (w6 dc i a b cT aE (if a.loc=bg then none else some (⟨ag,n⟩,.rd a.loc i.d))):=by
 refine j3 func334 ntmps334 hw ?_;refine cz [0,1,2,3,4,5,6,7,8,9,10,11,12,13,14] mixed ?_;refine bQ ?_;refine eP (λ_=>True) (h:=bK 0 (ab:=?_));refine aF (aN ?_) dz;refine af ?_;refine eL rfl (.t1 rfl) (e8 dc i a b cT aE n (.rd a.loc i.d) ag) [0,1] λI hw=>⟨?_,_,_,_,rfl,λz a1=>?_⟩
 ·refine aoI Value.bool ?_;by_cases h:a.loc=bg
  ·rw[aou h];show(!bw (a.loc=ByteArray.empty))=_;rw[show bw (a.loc=ByteArray.empty)=true by rw[an];exact h];rfl
  rw[aot h];show(!bw (a.loc=ByteArray.empty))=_;rw[show bw (a.loc=ByteArray.empty)=false by rw[au];exact h];rfl
 split at a1
 ·cases a1
 injection a1 with a1;subst a1;exact⟨rfl,rfl,rfl⟩
theorem ahg(hw:Mem [] (e8 dc i a b cT aE n .no ag) w):eY prog 335 [av dc] (e8 dc i a b cT aE n .no ag) w (w6 dc i a b cT aE (if a.loc=bg\/b.loc≠bg then none else some (⟨ag,n⟩,.wr a.loc b.n))):=by
 refine j3 func335 ntmps335 hw ?_;refine cz [0,1,2,3,4,5,6,7,8,9,10,11,12,13,14] mixed ?_;refine bQ ?_;refine eP (λ_=>True) (h:=bK 0 (ab:=?_));refine aF (aN ?_) dz;refine af ?_;refine eL rfl (.t1 rfl) (e8 dc i a b cT aE n (.wr a.loc b.n) ag) [0,1] λI hw=>⟨?_,_,_,_,rfl,λz a1=>?_⟩
 ·refine aoI Value.bool ?_;by_cases h:a.loc=bg
  ·rw[aou (.inl h)];show(!bw (a.loc=ByteArray.empty)&&bw (b.loc=ByteArray.empty))=_;rw[show bw (a.loc=ByteArray.empty)=true by rw[an];exact h];rfl
  by_cases h2:b.loc=bg
  ·rw[aot λq=>q.elim h λq=>q h2];show(!bw (a.loc=ByteArray.empty)&&bw (b.loc=ByteArray.empty))=_;rw[show bw (a.loc=ByteArray.empty)=false by rw[au];exact h,show bw (b.loc=ByteArray.empty)=true by rw[an];exact h2];rfl
  rw[aou (.inr h2)];show(!bw (a.loc=ByteArray.empty)&&bw (b.loc=ByteArray.empty))=_;rw[show bw (b.loc=ByteArray.empty)=false by rw[au];exact h2,apu];rfl
 split at a1
 ·cases a1
 injection a1 with a1;subst a1;exact⟨rfl,rfl,rfl⟩
theorem ahc(hw:Mem [] (e8 dc i a b cT aE n .no ag) w):eY prog 340 [av dc] (e8 dc i a b cT aE n .no ag) w (w6 dc i a b cT aE (some (⟨ag,n⟩,.no))):=by refine j3 func340 ntmps340 hw ?_;exact eL rfl (.t1 rfl) (e8 dc i a b cT aE n .no ag) [0,1] λI hw=>⟨rfl,_,_,_,rfl,λz a1=>by injection a1 with a1;subst a1;exact⟨rfl,rfl,rfl⟩⟩
theorem ag6(hw:Mem [] (e8 dc i a b cT aE n .no ag) w):eY prog 341 [av dc] (e8 dc i a b cT aE n .no ag) w (w6 dc i a b cT aE (some (⟨ag,n⟩,.o7 i.dA))):=by refine j3 func341 ntmps341 hw ?_;refine c7 0 ?_;exact eL rfl (.t1 rfl) (e8 dc i a b cT aE n (.o7 i.dA) ag) [0,1] λI hw=>⟨rfl,_,_,_,rfl,λz a1=>by injection a1 with a1;subst a1;exact⟨rfl,rfl,rfl⟩⟩
theorem ag3(hw:Mem [] (e8 dc i a b cT aE n .no ag) w):eY prog 339 [av dc] (e8 dc i a b cT aE n .no ag) w (λ_ r es _=>r=.bool true/\es=e8 dc i a b cT aE (if a=b then(n:Int)else cT) .no ag):=by
 refine j3 func339 ntmps339 hw ?_;refine cz [0,1,2,3,4,5,6,7,8] mixed ?_;refine bQ ?_;refine jA (v:=.bool (!bw (a=b))) (h:=wN dy a b (b3 rfl) (b3 rfl)) (ab:=?_);refine bQ ?_;refine dp (λh1=>?_) λh1=>?_
 ·rw[aoq,au]at h1;refine af ?_;refine c7 0 ?_;exact eL rfl (.t1 rfl) (e8 dc i a b cT aE cT .no ag) [0,1] λI hw=>⟨rfl,by rw[aot h1]⟩
 rw[aos,an]at h1;refine af ?_;exact eL rfl (.t1 rfl) (e8 dc i a b cT aE n .no ag) [0,1] λI hw=>⟨rfl,by rw[aou h1]⟩
omit dc i a b cT aE n ag w in
theorem ahe(u v:BitVec 32)(w:World):bl prog 376 [.int .i32 u.toInt,.int .i32 v.toInt] w λ_ r _=>r=.int .i32 (if(8:Int)=8 then u||| v else if(8:Int)=9 then u ^^^ v else u+v).toInt:=by refine bZ func376 ntmps376 ?_;refine dh (Tk (a:=u) (b:=v)) (ab:=U ?_);exact bT rfl (.t1 rfl) λI hw=>rfl
omit dc i a b cT aE n ag w in
theorem ahj(u v:BitVec 32)(w:World):bl prog 378 [.int .i32 u.toInt,.int .i32 v.toInt] w λ_ r _=>r=.int .i32 (if(9:Int)=8 then u||| v else if(9:Int)=9 then u ^^^ v else u+v).toInt:=by refine bZ func378 ntmps378 ?_;refine dh (Tn (a:=u) (b:=v)) (ab:=U ?_);exact bT rfl (.t1 rfl) λI hw=>rfl
omit dc i a b cT aE n ag w in
theorem ag2(u v:BitVec 32)(w:World):bl prog 379 [.int .i32 u.toInt,.int .i32 v.toInt] w λ_ r _=>r=.int .i32 (if(10:Int)=8 then u||| v else if(10:Int)=9 then u ^^^ v else u+v).toInt:=by refine bZ func379 ntmps379 ?_;refine dh (Td (a:=u) (b:=v)) (ab:=U ?_);exact bT rfl (.t1 rfl) λI hw=>rfl
theorem ahd(eo:aD aE)(hd:0<=i.d/\i.d<ag.length)(hw:Mem [] (e8 dc i a b cT aE n .no ag) w):eY prog 336 [av dc] (e8 dc i a b cT aE n .no ag) w (w6 dc i a b cT aE ((k0 8 a ⟨bg,i.c3⟩).map λv=>(⟨fM 2 ag i.d v,n⟩,.no))):=by
 refine j3 func336 ntmps336 hw ?_;refine cA (Mem [(w,bJ (e8 dc i a b cT aE n .no ag))] (e8 dc i a b cT aE n .no ag++[])) (λ_ h=>by rw[aoH];exact h) ?_;refine cz [0,1,2,3,4,5,6,7,8,9,10,11,12] mixed ?_;refine bQ ?_;refine eP (λ_=>True) (h:=eB (es:=e8 dc i a b cT aE n .no ag) (bb:=λI hw=>L4 dc i a b cT aE n .no ag I 376 8 a ⟨bg,i.c3⟩ ahe eo hd hw.dt.ew) (ab:=?_));rintro r ck es bY ⟨rfl,rfl⟩;refine aF (aN ?_) dz;refine af ?_;refine eL rfl (.t1 rfl) (e8 dc i a b cT aE n .no (match k0 8 a ⟨bg,i.c3⟩with | some v=>fM 2 ag i.d v | none=>ag)) [0,1] λI hw=>⟨?_,_,_,_,rfl,λz a1=>?_⟩
 ·cases k0 8 a ⟨bg,i.c3⟩<;>rfl
 cases h:k0 8 a ⟨bg,i.c3⟩with
 | none=>rw[h]at a1;cases a1
 | some v=>rw[h]at a1;injection a1 with a1;subst a1;exact⟨rfl,rfl,rfl⟩
theorem ag1(eo:aD aE)(hd:0<=i.d/\i.d<ag.length)(hw:Mem [] (e8 dc i a b cT aE n .no ag) w):eY prog 338 [av dc] (e8 dc i a b cT aE n .no ag) w (w6 dc i a b cT aE ((k0 10 a b).map λv=>(⟨fM 2 ag i.d v,n⟩,.no))):=by
 refine j3 func338 ntmps338 hw ?_;refine cA (Mem [(w,bJ (e8 dc i a b cT aE n .no ag))] (e8 dc i a b cT aE n .no ag++[])) (λ_ h=>by rw[aoH];exact h) ?_;refine cz [0,1,2,3,4,5,6,7,8,9,10] mixed ?_;refine bQ ?_;refine eP (λ_=>True) (h:=eB (es:=e8 dc i a b cT aE n .no ag) (bb:=λI hw=>L4 dc i a b cT aE n .no ag I 379 10 a b ag2 eo hd hw.dt.ew) (ab:=?_));rintro r ck es bY ⟨rfl,rfl⟩;refine aF (aN ?_) dz;refine af ?_;refine eL rfl (.t1 rfl) (e8 dc i a b cT aE n .no (match k0 10 a b with | some v=>fM 2 ag i.d v | none=>ag)) [0,1] λI hw=>⟨?_,_,_,_,rfl,λz a1=>?_⟩
 ·cases k0 10 a b<;>rfl
 cases h:k0 10 a b with
 | none=>rw[h]at a1;cases a1
 | some v=>rw[h]at a1;injection a1 with a1;subst a1;exact⟨rfl,rfl,rfl⟩
theorem ahi(eo:aD aE)(hd:0<=i.d/\i.d<ag.length)(hw:Mem [] (e8 dc i a b cT aE n .no ag) w):eY prog 337 [av dc] (e8 dc i a b cT aE n .no ag) w (w6 dc i a b cT aE ((if i.a=i.b then some gL else k0 9 a b).map λv=>(⟨fM 2 ag i.d v,n⟩,.no))):=by
 refine j3 func337 ntmps337 hw ?_;refine cA (Mem [(w,bJ (e8 dc i a b cT aE n .no ag))] (e8 dc i a b cT aE n .no ag++[])) (λ_ h=>by rw[aoH];exact h) ?_;refine cz [0,1,2,3,4,5,6,7,8,9,10] mixed ?_;refine bQ ?_;refine dp (λh1=>?_) λh1=>?_
 ·rw[an]at h1;rw[aou h1];refine af ?_;refine aq (eB (es:=e8 dc i a b cT aE n .no ag) (bb:=λI hw=>L7 dc i a b cT aE n .no ag I gL eo hd hw.dt.ew) (ab:=?_));rintro r ck es bY ⟨rfl,rfl⟩;refine af ?_;exact eL rfl (.t1 rfl) (e8 dc i a b cT aE n .no (fM 2 ag i.d gL)) [0,1] λI hw=>⟨rfl,_,_,_,rfl,λz a1=>by injection a1 with a1;subst a1;exact⟨rfl,rfl,rfl⟩⟩
 rw[au]at h1;rw[aot h1];refine af ?_;refine cz [0,1,2,3,4,5,6,7,8,9,10] mixed ?_;refine bQ ?_;refine eP (λ_=>True) (h:=eB (es:=e8 dc i a b cT aE n .no ag) (bb:=λI hw=>L4 dc i a b cT aE n .no ag I 378 9 a b ahj eo hd hw.dt.ew) (ab:=?_));rintro r ck es bY ⟨rfl,rfl⟩;refine aF (aN ?_) dz;refine af ?_;refine eL rfl (.t1 rfl) (e8 dc i a b cT aE n .no (match k0 9 a b with | some v=>fM 2 ag i.d v | none=>ag)) [0,1] λI hw=>⟨?_,_,_,_,rfl,λz a1=>?_⟩
 ·cases k0 9 a b<;>rfl
 cases h:k0 9 a b with
 | none=>rw[h]at a1;cases a1
 | some v=>rw[h]at a1;injection a1 with a1;subst a1;exact⟨rfl,rfl,rfl⟩
end
theorem ab1(c5:Nat)[aS prog c5](cap:List Value)(p:eh->Bool)(aK:Value)(xs:List eh)(w:World)(aj:aZ al w dy 2 aK xs) (hf:∀i I,i<xs.length->Mem [(w,al)] [] I->bl prog c5 ([.agg (dy (xs.getD i default)).toArray]++cap) I λ_ v _=>v=.bool (p (xs.getD i default))): bl prog 374 [aK,.func (.func c5) #[] cap.toArray] w λ_ v _=>∃n:Int,v=.int .i64 n/\decide (0<=n)=xs.any p:=by
 have hle:=aj.le;refine bZ func374 ntmps374 ?_;refine bX (λi:Nat=>i<=xs.length/\∀j,j<i->p (xs.getD j default)=false) (λi=>[(8,true,.int .i64 i),(7,true,.int .i64 xs.length),(1,true,.func (.func c5) #[] cap.toArray),(0,true,aK)]) (λ_=>Mem [(w,al)] []) (λi=>xs.length-i) 0 ⟨aoD _,λj ae=>by omega⟩ ?_ ⟨rfl,rfl,rfl,rfl,trivial⟩ cv
 rintro i ⟨hi,bG⟩;refine a8 (λh1=>?_) λh1=>?_
 ·have bU:i<xs.length:=by rw[an]at h1;omega
  refine U ?_;refine aq (bp (λI hw=>hf i I bU hw) ?_);rintro v bx bc rfl cu;refine a8 (λh2=>?_) λh2=>?_
  ·refine bf λI hw=>?_;exact⟨i,rfl,by rw[aow (by omega)];exact(apH.2 ⟨_,eN bU,h2⟩).symm⟩
  refine U ?_;exact bm (i+1) ⟨by omega,λj ae=>by
   by_cases e:j<i
   ·exact bG j e
   rw[show j=i by omega];exact h2⟩ (by omega) ⟨rfl,rfl,rfl,rfl,trivial⟩ cv
 refine bf λI hw=>?_;refine⟨-1,rfl,?_⟩;rw[aoE (by omega)];refine(aqp.2 λx hx=>?_).symm;obtain⟨j,ae,rfl⟩:=pj hx;rw[bG j (by rw[au]at h1;omega)];simp
theorem Xt(c5:Nat)[aS prog c5](cap:List Value)(p:eh->Bool)(aK:Value)(xs:List eh)(w:World)(aj:aZ al w dy 2 aK xs) (hf:∀i I,i<xs.length->Mem [(w,al)] [] I->bl prog c5 ([.agg (dy (xs.getD i default)).toArray]++cap) I λ_ v _=>v=.bool (p (xs.getD i default))): bl prog 331 [aK,.func (.func c5) #[] cap.toArray] w λ_ v _=>v=.bool (xs.any p):=by refine bZ func331 ntmps331 ?_;refine aq (bp (λI hw=>ab1 c5 cap p aK xs I (hw.now aj) λi bY hi ht=>hf i bY hi (KM hw ht (Dj bY))) ?_);rintro v bx bc ⟨n,rfl,bd⟩ cu;refine bf λI hw=>?_;rw[cd,<-bd];rfl
theorem aha(v:eh)(w:World):bl prog 333 [.agg (dy v).toArray] w λ_ r _=>r=.bool (lY v):=by
 refine bZ func333 ntmps333 ?_;refine b7 λbv=>?_;refine bC (λh1=>?_) λh1=>?_
 ·rw[an]at h1;refine bf λI hw=>?_;refine aoI Value.bool ?_;unfold lY eF;rw[aou (show v.loc=bg from h1),cd,cd]
 rw[au]at h1;refine U ?_;refine e1 (h:=ev (bb:=λ_ I hw=>L5 v.loc I)) (ab:=U ?_);refine bT rfl (.t1 rfl) λI hw=>?_;refine aoI Value.bool ?_;unfold lY;rw[aot (show ¬v.loc=bg from h1),cd];exact Bool.and_comm _ _
theorem ahb(v:eh)(w:World):bl prog 332 [.agg (dy v).toArray] w λ_ r _=>r=.bool (!lY v):=by refine bZ func332 ntmps332 ?_;refine b7 λbv=>?_;refine aq (bp (λI _=>aha v I) ?_);rintro r bx bc rfl cu;refine U ?_;exact bT rfl (.t1 rfl) λI hw=>rfl
theorem ahf(ad aE:Value)(code:List Instr)(ag:List eh)(a:Nat)(w:World)(ai:aZ al w cL 8 ad code)(aM:aZ al w dy 2 aE ag)(ay:a<code.length)(ok:rl 32 ag)(h0:ag.getD 0 default=gL): bl prog 263 [ad,.agg #[aE,.int .i64 a]] w λ_ v _=>v=.bool true:=by
 have hle:=aM.le;have eA:=ai.le;have bH:=ok.len;have s1:=aM.aK;refine bZ func263 ntmps263 ?_;refine b7 λaQ=>?_;refine vk (v:=.bool (!bw (ag.getD (Int.toNat 0) default=gL))) (h:=wN dy (ag.getD (Int.toNat 0) default) gL ⟨_,rfl,λh=>h⟩ ⟨_,rfl,λh=>h⟩) (ab:=U ?_);refine bC (λh1=>?_) λ_=>?_
 ·exfalso;have Y4:ag.getD (Int.toNat 0) default=gL:=h0;simp only[aox,aoq,an,au]at h1;rcases h1 with((q | q) | q) | q
  ·omega
  ·omega
  ·omega
  exact q Y4
 refine U ?_;refine aq (bp (λI hw=>Xt 332 [] (λv=>!lY v) aE ag I (hw.now aM) λi bY _ _=>ahb _ bY) ?_);rintro v bx bc rfl cu;refine bf λI hw=>?_;refine aoI Value.bool ?_;rw[aoq,aqp];intro x hx;obtain⟨j,ae,rfl⟩:=pj hx;rw[ok.val j (by omega)];simp
def M0:List MapEntry:=[⟨.int .i64 6,.func (.func 334) #[] #[],0⟩,⟨.int .i64 7,.func (.func 335) #[] #[],1⟩,⟨.int .i64 8,.func (.func 336) #[] #[],2⟩,⟨.int .i64 9,.func (.func 337) #[] #[],3⟩,⟨.int .i64 10,.func (.func 338) #[] #[],4⟩,⟨.int .i64 11,.func (.func 339) #[] #[],5⟩,⟨.int .i64 12,.func (.func 340) #[] #[],6⟩,⟨.int .i64 13,.func (.func 341) #[] #[],7⟩]
theorem ahh(w:World):en prog 264 [] w λ_ v es _=>∃r,v=.map (some r)/\es=[tQ r M0 8]:=by refine hL func264 ntmps264 ?_;refine aq (YV (ab:=λr=>U ?_));refine aq (xp 0 rfl (ab:=U ?_));refine aq (xp 0 rfl (ab:=U ?_));refine aq (xp 0 rfl (ab:=U ?_));refine aq (xp 0 rfl (ab:=U ?_));refine aq (xp 0 rfl (ab:=U ?_));refine aq (xp 0 rfl (ab:=U ?_));refine aq (xp 0 rfl (ab:=U ?_));refine aq (xp 0 rfl (ab:=U ?_));exact et rfl (.t1 rfl) [_] [0] λI hw=>⟨r,rfl,rfl⟩
theorem akh(dc:Nat)(code:List Instr)(l:hJ)(aE:Value)(eo:aD aE)(aL:l.ag.length=32)(hi:kW (code.getD l.at' default)=true)(pc:(code.getD l.at' default).op=11->0<=mM code l.at'): ∃(k j:Nat) (_:aS prog k),Go.Instr.findNow (.int .i64) (.int .i64 (code.getD l.at' default).op) M0 0=some (some (j,.func (.func k) #[] #[]))/\ ∀w,Mem [] (e8 dc (code.getD l.at' default) (jH l (code.getD l.at' default).a) (jH l (code.getD l.at' default).b) (mM code l.at') aE ((l.at'+1:Nat):Int) .no l.ag) w-> eY prog k [av dc] (e8 dc (code.getD l.at' default) (jH l (code.getD l.at' default).a) (jH l (code.getD l.at' default).b) (mM code l.at') aE ((l.at'+1:Nat):Int) .no l.ag) w (w6 dc (code.getD l.at' default) (jH l (code.getD l.at' default).a) (jH l (code.getD l.at' default).b) (mM code l.at') aE (lX code l)):=by
 have bV:=(y6 hi).1;have mG:=bV.K1 rfl;have hd:=bV.d;have aM:(cn 2:Int)=32:=rfl;unfold lX;dsimp only;generalize fs:code.getD l.at' default=i at *;obtain bn | bn | bn | bn | bn | bn | bn | bn:i.op=6\/i.op=7\/i.op=8\/i.op=9\/i.op=10\/i.op=11\/i.op=12\/i.op=13:=by omega
 ·refine⟨_,_,inferInstance,by rw[bn];rfl,λw hw=>?_⟩;rw[aou bn];exact ag9 _ _ _ _ _ _ _ _ _ hw
 ·refine⟨_,_,inferInstance,by rw[bn];rfl,λw hw=>?_⟩;rw[aot (by omega),aou bn];exact ahg _ _ _ _ _ _ _ _ _ hw
 ·refine⟨_,_,inferInstance,by rw[bn];rfl,λw hw=>?_⟩;rw[aot (by omega),aot (by omega),aou bn];exact ahd _ _ _ _ _ _ _ _ _ eo (by omega) hw
 ·refine⟨_,_,inferInstance,by rw[bn];rfl,λw hw=>?_⟩;rw[aot (by omega),aot (by omega),aot (by omega),aou bn];exact ahi _ _ _ _ _ _ _ _ _ eo (by omega) hw
 ·refine⟨_,_,inferInstance,by rw[bn];rfl,λw hw=>?_⟩;rw[aot (by omega),aot (by omega),aot (by omega),aot (by omega),aou bn];exact ag1 _ _ _ _ _ _ _ _ _ eo (by omega) hw
 ·refine⟨_,_,inferInstance,by rw[bn];rfl,λw hw=>?_⟩;rw[aot (by omega),aot (by omega),aot (by omega),aot (by omega),aot (by omega),aou bn];refine(ag3 _ _ _ _ _ _ _ _ _ hw).mono λn r es I h=>?_;obtain⟨rfl,rfl⟩:=h;refine⟨rfl,_,_,_,rfl,λz a1=>?_⟩;injection a1 with a1;subst a1;refine⟨rfl,?_,rfl⟩;have:=pc bn;unfold Df;dsimp only;split
  ·rfl
  omega
 ·refine⟨_,_,inferInstance,by rw[bn];rfl,λw hw=>?_⟩;rw[aot (by omega),aot (by omega),aot (by omega),aot (by omega),aot (by omega),aot (by omega),aot (by omega)];exact ahc _ _ _ _ _ _ _ _ _ hw
 refine⟨_,_,inferInstance,by rw[bn];rfl,λw hw=>?_⟩;rw[aot (by omega),aot (by omega),aot (by omega),aot (by omega),aot (by omega),aot (by omega),aou bn];exact ag6 _ _ _ _ _ _ _ _ _ hw
def LA:Option (hJ×k4)->List eh | some x=>x.1.ag | none=>[]
def Lx:Option (hJ×k4)->Int | some x=>(x.1.at':Int) | none=>0
def GF:Option (hJ×k4)->List Value | some x=>rm x.2 | none=>hM 0 bg 0 0 0
def Lz:Option (hJ×k4)->Int | some _=>0 | none=>92
def Nk(o:Option (hJ×k4)):Nat->Value->List aB->World->Prop:=λ_ v es _=>∃cQ,aD cQ/\v=.tuple #[.agg #[cQ,.int .i64 (Lx o)],.agg (GF o).toArray,.int .i64 (Lz o)]/\es=[.own cQ 70 2 dy (LA o)]
theorem ac7{code:List Instr}(h:lQ code=0){k:Nat}(hk:k<code.length)(bn:(code.getD k default).op=11):0<=mM code k:=by
 unfold lQ at h;split at h
 ·cases h
 split at h
 ·rename_i h1;split at h
  ·rename_i h2;have h3:=acD.1 h2 k hk;unfold kX at h3;rw[aot (by omega),aou bn]at h3;obtain⟨j,ae⟩:=apf.1 h3;obtain⟨amg,Kj,ab4,ab5⟩:=wy.1 ae;unfold mM;rw[aou bn];cases ba:lC code (code.getD k default).label 0 with
   | none=>have:=xN.1 ba j (aoD _) Kj;rw[ab4]at this;cases this
   | some q=>exact Int.natCast_nonneg _
  cases h
 cases h
theorem F4{code:List Instr}(h:lQ code=0){k:Nat}(hk:k<code.length):kW (code.getD k default)=true:=by
 unfold lQ at h;split at h
 ·cases h
 split at h
 ·rename_i h1;exact apt.1 h1 _ (eN hk)
 cases h
theorem ag4(ad aE:Value)(code:List Instr)(l:hJ)(w:World)(ai:aZ al w cL 8 ad code)(aM:aZ al w dy 2 aE l.ag)(cF:lQ code=0)(ay:l.at'<code.length)(ok:rl 32 l.ag)(h0:l.ag.getD 0 default=gL): en prog 173 [ad,.agg #[aE,.int .i64 l.at']] w (Nk (lX code l)):=by
 have s1:=aM.aK;have eA:=ai.le;have ep:=aM.le;have bH:=ok.len;have hi:=F4 cF ay;have bV:=(y6 hi).1;have hA:=bV.a;have hB:=bV.b;have tE:(cn 2:Int)=32:=rfl;have iy:(qT code).length=code.length:=by unfold qT;simp
 refine hL func173 ntmps173 ?_;refine b7 λaQ=>?_;refine cH λh7=>?_;refine cH λtb=>?_;refine aq (bp (λI hw=>T5 ad code I (hw.now ai)) ?_);rintro v bx bc ⟨ak,k,tB,rfl,c0⟩ cu;rw[cF]at c0⊢;have c0:=c0 rfl;refine U ?_;refine cM rfl (λh1=>by rw[aoq,au]at h1;exact absurd rfl h1) λ_=>?_;refine U ?_;refine aq (bp (λI hw=>ahf ad aE code l.ag l.at' I (hw.now ai) (hw.now aM) ay ok h0) ?_);rintro v ck bY rfl eZ;refine U ?_;refine cM rfl (λh1=>by cases h1) λ_=>?_;refine U ?_;refine cH λbi=>?_;refine bN 0 ?_;refine cA (Mem [(bc,Fr bx),(w,al)] [.box bi (cL (code.getD l.at' default)) 169,.box tb [.int .i64 0,.string ByteArray.empty,.int .i64 0,.int .i64 0,.int .i64 0] 256,.box h7 [aa,.int .i64 0] 183,.box aQ [aE,.int .i64 l.at'] 183]) ek ?_;refine cz [0,1,2,3,4,5,6,7,8,9,10,11,12,13,14,15,16,17,18,19,21,22,23,25,20,24,26,27,28] mixed ?_;refine aN ?_;rw[show(qT code).getD l.at' default=mM code l.at' from tp ay];refine bO _ (h:=gI (bb:=λI hw=>DM aE l.ag I (hw.now aM) (by omega)) (ab:=?_));rintro v3 hj es fW ⟨pL,rfl⟩;refine aF (aN ?_) λ_ h=>h.cX.tail;refine bO _ (h:=ru ?_);intro dc;refine aF (aN ?_) λ_ h=>h.cX.tail.tail;refine U ?_;refine cA (Mem [(w,al)] (e8 dc (code.getD l.at' default) (jH l (code.getD l.at' default).a) (jH l (code.getD l.at' default).b) (mM code l.at') v3 ((l.at'+1:Nat):Int) .no l.ag++[.box bi (cL (code.getD l.at' default)) 169,.box tb [.int .i64 0,.string ByteArray.empty,.int .i64 0,.int .i64 0,.int .i64 0] 256,.box h7 [aa,.int .i64 0] 183])) (λ_ h=>h.cX.cX.cC [0,1,2,3,4]) ?_;obtain⟨c5,j,hF,I8,bb⟩:=akh dc code l v3 pL bH hi (ac7 cF ay);refine cz [1,2,4,0,3,5,6] mixed ?_;refine aN ?_;refine bO _ (h:=gi (λI hw=>ahh I) ?_);rintro anS ia es ig ⟨r,rfl,rfl⟩;refine aF ?_ λ_ h=>h.cX.tail;refine bO _ (h:=uC rfl (afL (v:=.func (.func c5) #[] #[]) (r:=r) (k:=8) (es:=M0) (hm:=(b3 rfl)) (hx:=(b3 rfl)) (hmem:=.head _) (hf:=I8)) ?_);refine aF ?_ λ_ h=>h.cX.tail;refine cA (Mem [(w,al)] (e8 dc (code.getD l.at' default) (jH l (code.getD l.at' default).a) (jH l (code.getD l.at' default).b) (mM code l.at') v3 ((l.at'+1:Nat):Int) .no l.ag++[.box bi (cL (code.getD l.at' default)) 169,.box tb [.int .i64 0,.string ByteArray.empty,.int .i64 0,.int .i64 0,.int .i64 0] 256,.box h7 [aa,.int .i64 0] 183])) (λ_ h=>h.cX.tail) ?_;refine eP (λ_=>True) (h:=eB (k:=c5) (first:=[]) (cap:=[]) (es:=e8 dc (code.getD l.at' default) (jH l (code.getD l.at' default).a) (jH l (code.getD l.at' default).b) (mM code l.at') v3 ((l.at'+1:Nat):Int) .no l.ag) (bb:=λI hw=>bb I hw.dt.ew) (ab:=?_));rintro agc n6 es wY ⟨rfl,m,y,g,rfl,a1⟩;refine aF (aN ?_) dz;refine U ?_;cases ba:lX code l with
 | none=>refine cM rfl (λ_=>?_) (λh=>by cases h);refine U ?_;refine bN 4 ?_;refine bN 3 ?_;refine ea 70 2 dy ?_;exact et rfl (.dv rfl pN rfl (.dv rfl qU rfl (.t1 rfl))) [_] [0] λI hw=>⟨_,cU,rfl,rfl⟩
 | some x=>
  obtain⟨rfl,rfl,rfl⟩:=a1 x ba;refine cM rfl (λh=>by cases h) λ_=>?_;refine U ?_;obtain⟨fi,dV,aG,fa,gm,dW⟩:=w7 x.2;refine cA (Mem [(w,al)] [.box dc (cL (code.getD l.at' default)++dy (jH l (code.getD l.at' default).a)++dy (jH l (code.getD l.at' default).b)++[.int .i64 (mM code l.at'),v3,.int .i64 (x.1.at':Int)]++hM fi dV aG fa gm) 359,.own v3 70 2 dy x.1.ag,.box tb [.int .i64 0,.string ByteArray.empty,.int .i64 0,.int .i64 0,.int .i64 0] 256,.box h7 [aa,.int .i64 0] 183]) (λ_ h=>by unfold e8 Tu at h;rw[dW]at h;exact h.cC [0,1,3,4]) ?_
  refine fw (Mem [(w,al)] [.box dc (cL (code.getD l.at' default)++dy (jH l (code.getD l.at' default).a)++dy (jH l (code.getD l.at' default).b)++[.int .i64 (mM code l.at'),v3,.int .i64 (x.1.at':Int)]++hM fi dV aG fa gm) 359]) [0,1,2,3,4,5,6,7,8,9,10] mixed (b4 [0]) ?_;refine bQ ?_;refine bO _ (h:=bK 3 (ab:=?_));refine aF (aN ?_) (b4 [0]);refine bO _ (h:=bK 2 (ab:=?_));refine aF (aN ?_) (b4 [0]);refine U ?_;refine et rfl (.dv rfl jC rfl (.dv rfl hy rfl (.t1 rfl))) [.own v3 70 2 dy x.1.ag] [1] λI hw=>⟨v3,pL,?_,rfl⟩;rw[show GF (some x)=hM fi dV aG fa gm from dW];rfl
end Go.Proofs.bA
