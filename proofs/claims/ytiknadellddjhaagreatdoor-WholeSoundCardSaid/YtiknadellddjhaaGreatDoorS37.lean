/- Lemmas for the law WholeSound. -/
import Derived.Test.YtiknadellddjhaaGreatDoorS29
set_option linter.all false
open Go.Proofs.Tryz
set_option maxHeartbeats 6400000
open Go Go.cc Go.bU
attribute [local irreducible] Go.wpList Go.Code.wp Go.bodyPost Go.Exit.then Go.Exit.inBlock Go.Calls
namespace Go.Proofs.bK
instance:jg prog 361 (.map 3 360):=⟨underlying361⟩
def Su(i:Instr)(a b:dY)(cN:Int)(aJ:Value)(at':Int)(x:kN):List Value:=cC i++dm a++dm b++[.int .i64 cN,aJ,.int .i64 at']++qY x
def e2(da:Nat)(i:Instr)(a b:dY)(cN:Int)(aJ:Value)(at':Int)(x:kN)(ah:List dY):List aA:=[.box da (Su i a b cN aJ at' x) 359,.own aJ 70 2 dm ah]
section
variable (da:Nat) (i:Instr) (a b:dY) (cN:Int) (aJ:Value) (at':Int) (x:kN) (ah:List dY) (w:World)
theorem Lk(v:dY)(fv:aD aJ)(hd:0<=i.d/\i.d<ah.length)(hw:Mem [] (e2 da i a b cN aJ at' x ah) w):eM prog 377 [ax da,.agg (dm v).toArray] (e2 da i a b cN aJ at' x ah) w λ_ r es _=>r=.bool true/\es=e2 da i a b cN aJ at' x (fD 2 ah i.d v):=by
 refine rP func377 ntmps377 hw ?_;refine eQ λbv=>?_;refine bA (λh1=>?_) λh1=>?_
 ·rw[amk,ar]at h1;refine aa ?_;refine cV [0,1,2,3,4,5,6,7,8,9,10,11,12] mixed ?_;refine bI ?_;refine hz (h:=fB 2 rfl v (ab:=aa ?_));refine ez rfl (.t1 rfl) (e2 da i a b cN aJ at' x (ah.set i.d.toNat v)) [1,2] λI hw=>⟨rfl,?_⟩;unfold fD;rw[amn λq=>h1 q.2]
 rw[amm,aq]at h1;refine aa ?_;refine ez rfl (.t1 rfl) (e2 da i a b cN aJ at' x ah) [1,2] λI hw=>⟨rfl,?_⟩;unfold fD;rw[amo ⟨rfl,h1⟩]
end
theorem afv(a b:dY)(w:World):bj prog 397 [.agg (dm a).toArray,.agg (dm b).toArray] w λ_ v _=>v=.tuple #[.agg (dm ((if b=gF then some a else if a=gF then some b else none).getD gF)).toArray,.bool (if b=gF then some a else if a=gF then some b else none).isSome]:=by
 refine ca func397 ntmps397 ?_;refine ck λdS=>?_;refine ck λdc=>?_;refine cU λcO=>?_;refine dg (F6 (enc:=dm) (p:=b) (q:=gF) (bY rfl) (bY rfl)) (v:=.bool (bO (b=gF))) (ab:=aa ?_);refine bA (λh1=>?_) λh1=>?_
 ·rw[aq]at h1;refine aa ?_;refine bQ 0 ?_;refine bP rfl (.dz rfl aL rfl (.t1 rfl)) λI hw=>?_;rw[amo h1];rfl
 rw[ar]at h1;refine aa ?_;refine dg (F6 (enc:=dm) (p:=a) (q:=gF) (bY rfl) (bY rfl)) (v:=.bool (bO (a=gF))) (ab:=aa ?_);refine bA (λh2=>?_) λh2=>?_
 ·rw[aq]at h2;refine aa ?_;refine bQ 0 ?_;refine bP rfl (.dz rfl aL rfl (.t1 rfl)) λI hw=>?_;rw[amn h1,amo h2];rfl
 rw[ar]at h2;refine aa ?_;refine bQ 0 ?_;refine bP rfl (.dz rfl aL rfl (.t1 rfl)) λI hw=>?_;rw[amn h1,amn h2];rfl
section
variable (da:Nat) (i:Instr) (a b:dY) (cN:Int) (aJ:Value) (at':Int) (x:kN) (ah:List dY) (w:World)
def Mk(o:Option dY):Nat->Value->List aA->World->Prop:=λ_ r es _=>r=.bool o.isSome/\es=e2 da i a b cN aJ at' x (match o with | some v=>fD 2 ah i.d v | none=>ah)
theorem Lh(c3:Nat)[aS prog c3](op:Int)(p q:dY)(zR:∀(u v:BitVec 32) (w:World),bj prog c3 [.int .i32 u.toInt,.int .i32 v.toInt] w λ_ r _=>r=.int .i32 (if op=8 then u||| v else if op=9 then u ^^^ v else u+v).toInt) (fv:aD aJ) (hd:0<=i.d/\i.d<ah.length) (hw:Mem [] (e2 da i a b cN aJ at' x ah) w): eM prog 375 [ax da,.agg (dm p).toArray,.agg (dm q).toArray,.func (.func c3) #[] #[]] (e2 da i a b cN aJ at' x ah) w (Mk da i a b cN aJ at' x ah (kJ op p q)):=by
 refine rP func375 ntmps375 hw ?_;refine ck λBu=>?_;refine ck λaiQ=>?_;refine bA (λh1=>?_) λh1=>?_
 ·rw[ami,aq,aq]at h1;have h1:p.loc=a8/\q.loc=a8:=h1;refine aa ?_;refine dg (v7 (n:=p.n)) (ab:=aa ?_);refine dg (v7 (n:=q.n)) (ab:=aa ?_);refine ao (iJ (k:=c3) (first:=[]) (cap:=[]) (a7:=λI _=>zR _ _ I) (ab:=?_));rintro v bx a6 rfl cA;refine aa ?_;refine dg CV (ab:=aa ?_);refine cJ (Mem [(w,bB (e2 da i a b cN aJ at' x ah))] (e2 da i a b cN aJ at' x ah++[])) (λ_ h=>h.cI.cm [2,3]) ?_;refine ao (en (es:=e2 da i a b cN aJ at' x ah) (a7:=λI hw=>Lk da i a b cN aJ at' x ah I ⟨a8,o7 op p.n q.n⟩ fv hd hw.dk.ei) (ab:=?_));rintro r cp es bX ⟨rfl,rfl⟩;refine aa ?_;refine ez rfl (.t1 rfl) (e2 da i a b cN aJ at' x (fD 2 ah i.d ⟨a8,o7 op p.n q.n⟩)) [0,1] λI hw=>?_;unfold Mk kJ;rw[amo h1];exact⟨rfl,rfl⟩
 have cb:¬(p.loc=a8/\q.loc=a8):=λg=>by
  have e:(bO (p.loc=ByteArray.empty)&&bO (q.loc=ByteArray.empty))=true:=by rw[ami,aq,aq];exact g
  have:=e.symm.trans h1;cases this
 have Zd:kJ op p q=if q=gF then some p else if p=gF then some q else none:=by unfold kJ;rw[amn cb]
 rw[Zd];refine aa ?_;refine ao (bw (λI _=>afv p q I) ?_);rintro v bx a6 rfl cA;generalize(if q=gF then some p else if p=gF then some q else none)=o;refine aa ?_;refine cU λbv=>?_;refine bQ 0 ?_;cases o with
 | none=>refine fm (h:=OK rfl) (u:=.bool true) (ab:=aa ?_);exact ez rfl (.t1 rfl) (e2 da i a b cN aJ at' x ah) [3,4] λI hw=>⟨rfl,rfl⟩
 | some v=>refine cJ (Mem [(w,bB (e2 da i a b cN aJ at' x ah))] (e2 da i a b cN aJ at' x ah++[])) (λ_ h=>h.cI.cm [3,4]) ?_;refine L2 rfl rfl rfl ?_;refine ao (en (es:=e2 da i a b cN aJ at' x ah) (a7:=λI hw=>Lk da i a b cN aJ at' x ah I v fv hd hw.dk.ei) (ab:=?_));rintro r cp es bX ⟨rfl,rfl⟩;refine aa ?_;exact ez rfl (.t1 rfl) (e2 da i a b cN aJ at' x (fD 2 ah i.d v)) [0,1] λI hw=>⟨rfl,rfl⟩
end
section
variable (da:Nat) (i:Instr) (a b:dY) (cN:Int) (aJ:Value) (n:Nat) (ah:List dY) (w:World)
def wA(o:Option (ht×kN)):Nat->Value->List aA->World->Prop:=λ_ r es _=>r=.bool o.isSome/\∃(m:Int) (y:kN) (g:List dY),es=e2 da i a b cN aJ m y g/\∀z,o=some z->g=z.1.ah/\m=(z.1.at':Int)/\y=z.2
theorem afz(hw:Mem [] (e2 da i a b cN aJ n .no ah) w):eM prog 334 [ax da] (e2 da i a b cN aJ n .no ah) w (wA da i a b cN aJ (if a.loc=a8 then none else some (⟨ah,n⟩,.rd a.loc i.d))):=by
 refine jO func334 ntmps334 hw ?_;refine cV [0,1,2,3,4,5,6,7,8,9,10,11,12,13,14] mixed ?_;refine bI ?_;refine eG (λ_=>True) (h:=bD 0 (ab:=?_));refine aF (aP ?_) dx;refine af ?_;refine ez rfl (.t1 rfl) (e2 da i a b cN aJ n (.rd a.loc i.d) ah) [0,1] λI hw=>⟨?_,_,_,_,rfl,λz aY=>?_⟩
 ·refine amC Value.bool ?_;by_cases h:a.loc=a8
  ·rw[amo h];show(!bO (a.loc=ByteArray.empty))=_;rw[show bO (a.loc=ByteArray.empty)=true by rw[aq];exact h];rfl
  rw[amn h];show(!bO (a.loc=ByteArray.empty))=_;rw[show bO (a.loc=ByteArray.empty)=false by rw[ar];exact h];rfl
 split at aY
 ·cases aY
 injection aY with aY;subst aY;exact⟨rfl,rfl,rfl⟩
theorem afG(hw:Mem [] (e2 da i a b cN aJ n .no ah) w):eM prog 335 [ax da] (e2 da i a b cN aJ n .no ah) w (wA da i a b cN aJ (if a.loc=a8\/b.loc≠a8 then none else some (⟨ah,n⟩,.wr a.loc b.n))):=by
 refine jO func335 ntmps335 hw ?_;refine cV [0,1,2,3,4,5,6,7,8,9,10,11,12,13,14] mixed ?_;refine bI ?_;refine eG (λ_=>True) (h:=bD 0 (ab:=?_));refine aF (aP ?_) dx;refine af ?_;refine ez rfl (.t1 rfl) (e2 da i a b cN aJ n (.wr a.loc b.n) ah) [0,1] λI hw=>⟨?_,_,_,_,rfl,λz aY=>?_⟩
 ·refine amC Value.bool ?_;by_cases h:a.loc=a8
  ·rw[amo (.inl h)];show(!bO (a.loc=ByteArray.empty)&&bO (b.loc=ByteArray.empty))=_;rw[show bO (a.loc=ByteArray.empty)=true by rw[aq];exact h];rfl
  by_cases h2:b.loc=a8
  ·rw[amn λq=>q.elim h λq=>q h2];show(!bO (a.loc=ByteArray.empty)&&bO (b.loc=ByteArray.empty))=_;rw[show bO (a.loc=ByteArray.empty)=false by rw[ar];exact h,show bO (b.loc=ByteArray.empty)=true by rw[aq];exact h2];rfl
  rw[amo (.inr h2)];show(!bO (a.loc=ByteArray.empty)&&bO (b.loc=ByteArray.empty))=_;rw[show bO (b.loc=ByteArray.empty)=false by rw[ar];exact h2,anM];rfl
 split at aY
 ·cases aY
 injection aY with aY;subst aY;exact⟨rfl,rfl,rfl⟩
theorem afC(hw:Mem [] (e2 da i a b cN aJ n .no ah) w):eM prog 340 [ax da] (e2 da i a b cN aJ n .no ah) w (wA da i a b cN aJ (some (⟨ah,n⟩,.no))):=by refine jO func340 ntmps340 hw ?_;exact ez rfl (.t1 rfl) (e2 da i a b cN aJ n .no ah) [0,1] λI hw=>⟨rfl,_,_,_,rfl,λz aY=>by injection aY with aY;subst aY;exact⟨rfl,rfl,rfl⟩⟩
theorem afw(hw:Mem [] (e2 da i a b cN aJ n .no ah) w):eM prog 341 [ax da] (e2 da i a b cN aJ n .no ah) w (wA da i a b cN aJ (some (⟨ah,n⟩,.oQ i.dE))):=by refine jO func341 ntmps341 hw ?_;refine c0 0 ?_;exact ez rfl (.t1 rfl) (e2 da i a b cN aJ n (.oQ i.dE) ah) [0,1] λI hw=>⟨rfl,_,_,_,rfl,λz aY=>by injection aY with aY;subst aY;exact⟨rfl,rfl,rfl⟩⟩
theorem aft(hw:Mem [] (e2 da i a b cN aJ n .no ah) w):eM prog 339 [ax da] (e2 da i a b cN aJ n .no ah) w (λ_ r es _=>r=.bool true/\es=e2 da i a b cN aJ (if a=b then(n:Int)else cN) .no ah):=by
 refine jO func339 ntmps339 hw ?_;refine cV [0,1,2,3,4,5,6,7,8] mixed ?_;refine bI ?_;refine jb (v:=.bool (!bO (a=b))) (h:=v8 dm a b (bY rfl) (bY rfl)) (ab:=?_);refine bI ?_;refine di (λh1=>?_) λh1=>?_
 ·rw[amk,ar]at h1;refine af ?_;refine c0 0 ?_;exact ez rfl (.t1 rfl) (e2 da i a b cN aJ cN .no ah) [0,1] λI hw=>⟨rfl,by rw[amn h1]⟩
 rw[amm,aq]at h1;refine af ?_;exact ez rfl (.t1 rfl) (e2 da i a b cN aJ n .no ah) [0,1] λI hw=>⟨rfl,by rw[amo h1]⟩
omit da i a b cN aJ n ah w in
theorem afE(u v:BitVec 32)(w:World):bj prog 376 [.int .i32 u.toInt,.int .i32 v.toInt] w λ_ r _=>r=.int .i32 (if(8:Int)=8 then u||| v else if(8:Int)=9 then u ^^^ v else u+v).toInt:=by refine ca func376 ntmps376 ?_;refine dg (Sm (a:=u) (b:=v)) (ab:=aa ?_);exact bP rfl (.t1 rfl) λI hw=>rfl
omit da i a b cN aJ n ah w in
theorem afJ(u v:BitVec 32)(w:World):bj prog 378 [.int .i32 u.toInt,.int .i32 v.toInt] w λ_ r _=>r=.int .i32 (if(9:Int)=8 then u||| v else if(9:Int)=9 then u ^^^ v else u+v).toInt:=by refine ca func378 ntmps378 ?_;refine dg (Sp (a:=u) (b:=v)) (ab:=aa ?_);exact bP rfl (.t1 rfl) λI hw=>rfl
omit da i a b cN aJ n ah w in
theorem afs(u v:BitVec 32)(w:World):bj prog 379 [.int .i32 u.toInt,.int .i32 v.toInt] w λ_ r _=>r=.int .i32 (if(10:Int)=8 then u||| v else if(10:Int)=9 then u ^^^ v else u+v).toInt:=by refine ca func379 ntmps379 ?_;refine dg (Se (a:=u) (b:=v)) (ab:=aa ?_);exact bP rfl (.t1 rfl) λI hw=>rfl
theorem afD(fv:aD aJ)(hd:0<=i.d/\i.d<ah.length)(hw:Mem [] (e2 da i a b cN aJ n .no ah) w):eM prog 336 [ax da] (e2 da i a b cN aJ n .no ah) w (wA da i a b cN aJ ((kJ 8 a ⟨a8,i.cY⟩).map λv=>(⟨fD 2 ah i.d v,n⟩,.no))):=by
 refine jO func336 ntmps336 hw ?_;refine cJ (Mem [(w,bB (e2 da i a b cN aJ n .no ah))] (e2 da i a b cN aJ n .no ah++[])) (λ_ h=>by rw[amB];exact h) ?_;refine cV [0,1,2,3,4,5,6,7,8,9,10,11,12] mixed ?_;refine bI ?_;refine eG (λ_=>True) (h:=en (es:=e2 da i a b cN aJ n .no ah) (a7:=λI hw=>Lh da i a b cN aJ n .no ah I 376 8 a ⟨a8,i.cY⟩ afE fv hd hw.dk.ei) (ab:=?_));rintro r cp es bX ⟨rfl,rfl⟩;refine aF (aP ?_) dx;refine af ?_;refine ez rfl (.t1 rfl) (e2 da i a b cN aJ n .no (match kJ 8 a ⟨a8,i.cY⟩with | some v=>fD 2 ah i.d v | none=>ah)) [0,1] λI hw=>⟨?_,_,_,_,rfl,λz aY=>?_⟩
 ·cases kJ 8 a ⟨a8,i.cY⟩<;>rfl
 cases h:kJ 8 a ⟨a8,i.cY⟩with
 | none=>rw[h]at aY;cases aY
 | some v=>rw[h]at aY;injection aY with aY;subst aY;exact⟨rfl,rfl,rfl⟩
theorem afr(fv:aD aJ)(hd:0<=i.d/\i.d<ah.length)(hw:Mem [] (e2 da i a b cN aJ n .no ah) w):eM prog 338 [ax da] (e2 da i a b cN aJ n .no ah) w (wA da i a b cN aJ ((kJ 10 a b).map λv=>(⟨fD 2 ah i.d v,n⟩,.no))):=by
 refine jO func338 ntmps338 hw ?_;refine cJ (Mem [(w,bB (e2 da i a b cN aJ n .no ah))] (e2 da i a b cN aJ n .no ah++[])) (λ_ h=>by rw[amB];exact h) ?_;refine cV [0,1,2,3,4,5,6,7,8,9,10] mixed ?_;refine bI ?_;refine eG (λ_=>True) (h:=en (es:=e2 da i a b cN aJ n .no ah) (a7:=λI hw=>Lh da i a b cN aJ n .no ah I 379 10 a b afs fv hd hw.dk.ei) (ab:=?_));rintro r cp es bX ⟨rfl,rfl⟩;refine aF (aP ?_) dx;refine af ?_;refine ez rfl (.t1 rfl) (e2 da i a b cN aJ n .no (match kJ 10 a b with | some v=>fD 2 ah i.d v | none=>ah)) [0,1] λI hw=>⟨?_,_,_,_,rfl,λz aY=>?_⟩
 ·cases kJ 10 a b<;>rfl
 cases h:kJ 10 a b with
 | none=>rw[h]at aY;cases aY
 | some v=>rw[h]at aY;injection aY with aY;subst aY;exact⟨rfl,rfl,rfl⟩
theorem afI(fv:aD aJ)(hd:0<=i.d/\i.d<ah.length)(hw:Mem [] (e2 da i a b cN aJ n .no ah) w):eM prog 337 [ax da] (e2 da i a b cN aJ n .no ah) w (wA da i a b cN aJ ((if i.a=i.b then some gF else kJ 9 a b).map λv=>(⟨fD 2 ah i.d v,n⟩,.no))):=by
 refine jO func337 ntmps337 hw ?_;refine cJ (Mem [(w,bB (e2 da i a b cN aJ n .no ah))] (e2 da i a b cN aJ n .no ah++[])) (λ_ h=>by rw[amB];exact h) ?_;refine cV [0,1,2,3,4,5,6,7,8,9,10] mixed ?_;refine bI ?_;refine di (λh1=>?_) λh1=>?_
 ·rw[aq]at h1;rw[amo h1];refine af ?_;refine ao (en (es:=e2 da i a b cN aJ n .no ah) (a7:=λI hw=>Lk da i a b cN aJ n .no ah I gF fv hd hw.dk.ei) (ab:=?_));rintro r cp es bX ⟨rfl,rfl⟩;refine af ?_;exact ez rfl (.t1 rfl) (e2 da i a b cN aJ n .no (fD 2 ah i.d gF)) [0,1] λI hw=>⟨rfl,_,_,_,rfl,λz aY=>by injection aY with aY;subst aY;exact⟨rfl,rfl,rfl⟩⟩
 rw[ar]at h1;rw[amn h1];refine af ?_;refine cV [0,1,2,3,4,5,6,7,8,9,10] mixed ?_;refine bI ?_;refine eG (λ_=>True) (h:=en (es:=e2 da i a b cN aJ n .no ah) (a7:=λI hw=>Lh da i a b cN aJ n .no ah I 378 9 a b afJ fv hd hw.dk.ei) (ab:=?_));rintro r cp es bX ⟨rfl,rfl⟩;refine aF (aP ?_) dx;refine af ?_;refine ez rfl (.t1 rfl) (e2 da i a b cN aJ n .no (match kJ 9 a b with | some v=>fD 2 ah i.d v | none=>ah)) [0,1] λI hw=>⟨?_,_,_,_,rfl,λz aY=>?_⟩
 ·cases kJ 9 a b<;>rfl
 cases h:kJ 9 a b with
 | none=>rw[h]at aY;cases aY
 | some v=>rw[h]at aY;injection aY with aY;subst aY;exact⟨rfl,rfl,rfl⟩
end
theorem aaO(c3:Nat)[aS prog c3](cap:List Value)(p:dY->Bool)(aG:Value)(xs:List dY)(w:World)(ag:aV an w dm 2 aG xs) (hf:∀i I,i<xs.length->Mem [(w,an)] [] I->bj prog c3 ([.agg (dm (xs.getD i default)).toArray]++cap) I λ_ v _=>v=.bool (p (xs.getD i default))): bj prog 374 [aG,.func (.func c3) #[] cap.toArray] w λ_ v _=>∃n:Int,v=.int .i64 n/\decide (0<=n)=xs.any p:=by
 have hle:=ag.le;refine ca func374 ntmps374 ?_;refine b9 (λi:Nat=>i<=xs.length/\∀j,j<i->p (xs.getD j default)=false) (λi=>[(8,true,.int .i64 i),(7,true,.int .i64 xs.length),(1,true,.func (.func c3) #[] cap.toArray),(0,true,aG)]) (λ_=>Mem [(w,an)] []) (λi=>xs.length-i) 0 ⟨amz _,λj ad=>by omega⟩ ?_ ⟨rfl,rfl,rfl,rfl,trivial⟩ c7
 rintro i ⟨hi,bS⟩;refine bg (λh1=>?_) λh1=>?_
 ·have cb:i<xs.length:=by rw[aq]at h1;omega
  refine aa ?_;refine ao (bw (λI hw=>hf i I cb hw) ?_);rintro v bx a6 rfl cA;refine bg (λh2=>?_) λh2=>?_
  ·refine bl λI hw=>?_;exact⟨i,rfl,by rw[amq (by omega)];exact(anl.2 ⟨_,er cb,h2⟩).symm⟩
  refine aa ?_;exact bt (i+1) ⟨by omega,λj ad=>by
   by_cases e:j<i
   ·exact bS j e
   rw[show j=i by omega];exact h2⟩ (by omega) ⟨rfl,rfl,rfl,rfl,trivial⟩ c7
 refine bl λI hw=>?_;refine⟨-1,rfl,?_⟩;rw[amy (by omega)];refine(aoi.2 λx hx=>?_).symm;obtain⟨j,ad,rfl⟩:=o6 hx;rw[bS j (by rw[ar]at h1;omega)];simp
theorem Wi(c3:Nat)[aS prog c3](cap:List Value)(p:dY->Bool)(aG:Value)(xs:List dY)(w:World)(ag:aV an w dm 2 aG xs) (hf:∀i I,i<xs.length->Mem [(w,an)] [] I->bj prog c3 ([.agg (dm (xs.getD i default)).toArray]++cap) I λ_ v _=>v=.bool (p (xs.getD i default))): bj prog 331 [aG,.func (.func c3) #[] cap.toArray] w λ_ v _=>v=.bool (xs.any p):=by refine ca func331 ntmps331 ?_;refine ao (bw (λI hw=>aaO c3 cap p aG xs I (hw.now ag) λi bX hi hj=>hf i bX hi (J4 hw hj (FC bX))) ?_);rintro v bx a6 ⟨n,rfl,bh⟩ cA;refine bl λI hw=>?_;rw[ch,<-bh];rfl
theorem afA(v:dY)(w:World):bj prog 333 [.agg (dm v).toArray] w λ_ r _=>r=.bool (lE v):=by
 refine ca func333 ntmps333 ?_;refine ck λbv=>?_;refine bA (λh1=>?_) λh1=>?_
 ·rw[aq]at h1;refine bl λI hw=>?_;refine amC Value.bool ?_;unfold lE eJ;rw[amo (show v.loc=a8 from h1),ch,ch]
 rw[ar]at h1;refine aa ?_;refine fm (h:=eY (a7:=λ_ I hw=>Li v.loc I)) (ab:=aa ?_);refine bP rfl (.t1 rfl) λI hw=>?_;refine amC Value.bool ?_;unfold lE;rw[amn (show ¬v.loc=a8 from h1),ch];exact Bool.and_comm _ _
theorem afB(v:dY)(w:World):bj prog 332 [.agg (dm v).toArray] w λ_ r _=>r=.bool (!lE v):=by refine ca func332 ntmps332 ?_;refine ck λbv=>?_;refine ao (bw (λI _=>afA v I) ?_);rintro r bx a6 rfl cA;refine aa ?_;exact bP rfl (.t1 rfl) λI hw=>rfl
theorem afF(ae aJ:Value)(code:List Instr)(ah:List dY)(a:Nat)(w:World)(ai:aV an w cC 8 ae code)(aH:aV an w dm 2 aJ ah)(au:a<code.length)(ok:qW 32 ah)(h0:ah.getD 0 default=gF): bj prog 263 [ae,.agg #[aJ,.int .i64 a]] w λ_ v _=>v=.bool true:=by
 have hle:=aH.le;have eE:=ai.le;have bG:=ok.len;have s1:=aH.aG;refine ca func263 ntmps263 ?_;refine ck λaT=>?_;refine uR (v:=.bool (!bO (ah.getD (Int.toNat 0) default=gF))) (h:=v8 dm (ah.getD (Int.toNat 0) default) gF ⟨_,rfl,λh=>h⟩ ⟨_,rfl,λh=>h⟩) (ab:=aa ?_);refine bA (λh1=>?_) λ_=>?_
 ·exfalso;have XQ:ah.getD (Int.toNat 0) default=gF:=h0;simp only[amr,amk,aq,ar]at h1;rcases h1 with((q | q) | q) | q
  ·omega
  ·omega
  ·omega
  exact q XQ
 refine aa ?_;refine ao (bw (λI hw=>Wi 332 [] (λv=>!lE v) aJ ah I (hw.now aH) λi bX _ _=>afB _ bX) ?_);rintro v bx a6 rfl cA;refine bl λI hw=>?_;refine amC Value.bool ?_;rw[amk,aoi];intro x hx;obtain⟨j,ad,rfl⟩:=o6 hx;rw[ok.val j (by omega)];simp
def L8:List MapEntry:=[⟨.int .i64 6,.func (.func 334) #[] #[],0⟩,⟨.int .i64 7,.func (.func 335) #[] #[],1⟩,⟨.int .i64 8,.func (.func 336) #[] #[],2⟩,⟨.int .i64 9,.func (.func 337) #[] #[],3⟩,⟨.int .i64 10,.func (.func 338) #[] #[],4⟩,⟨.int .i64 11,.func (.func 339) #[] #[],5⟩,⟨.int .i64 12,.func (.func 340) #[] #[],6⟩,⟨.int .i64 13,.func (.func 341) #[] #[],7⟩]
theorem afH(w:World):eH prog 264 [] w λ_ v es _=>∃r,v=.map (some r)/\es=[tx r L8 8]:=by refine iY func264 ntmps264 ?_;refine ao (XH (ab:=λr=>aa ?_));refine ao (wS 0 rfl (ab:=aa ?_));refine ao (wS 0 rfl (ab:=aa ?_));refine ao (wS 0 rfl (ab:=aa ?_));refine ao (wS 0 rfl (ab:=aa ?_));refine ao (wS 0 rfl (ab:=aa ?_));refine ao (wS 0 rfl (ab:=aa ?_));refine ao (wS 0 rfl (ab:=aa ?_));refine ao (wS 0 rfl (ab:=aa ?_));exact eR rfl (.t1 rfl) [_] [0] λI hw=>⟨r,rfl,rfl⟩
theorem aiy(da:Nat)(code:List Instr)(l:ht)(aJ:Value)(fv:aD aJ)(aB:l.ah.length=32)(hi:kG (code.getD l.at' default)=true)(oW:(code.getD l.at' default).op=11->0<=mg code l.at'): ∃(k j:Nat) (_:aS prog k),Go.Instr.findNow (.int .i64) (.int .i64 (code.getD l.at' default).op) L8 0=some (some (j,.func (.func k) #[] #[]))/\ ∀w,Mem [] (e2 da (code.getD l.at' default) (ju l (code.getD l.at' default).a) (ju l (code.getD l.at' default).b) (mg code l.at') aJ ((l.at'+1:Nat):Int) .no l.ah) w-> eM prog k [ax da] (e2 da (code.getD l.at' default) (ju l (code.getD l.at' default).a) (ju l (code.getD l.at' default).b) (mg code l.at') aJ ((l.at'+1:Nat):Int) .no l.ah) w (wA da (code.getD l.at' default) (ju l (code.getD l.at' default).a) (ju l (code.getD l.at' default).b) (mg code l.at') aJ (lC code l)):=by
 have bN:=(yu hi).1;have mb:=bN.Ki rfl;have hd:=bN.d;have aH:(b3 2:Int)=32:=rfl;unfold lC;dsimp only;generalize fi:code.getD l.at' default=i at *;obtain bm | bm | bm | bm | bm | bm | bm | bm:i.op=6\/i.op=7\/i.op=8\/i.op=9\/i.op=10\/i.op=11\/i.op=12\/i.op=13:=by omega
 ·refine⟨_,_,inferInstance,by rw[bm];rfl,λw hw=>?_⟩;rw[amo bm];exact afz _ _ _ _ _ _ _ _ _ hw
 ·refine⟨_,_,inferInstance,by rw[bm];rfl,λw hw=>?_⟩;rw[amn (by omega),amo bm];exact afG _ _ _ _ _ _ _ _ _ hw
 ·refine⟨_,_,inferInstance,by rw[bm];rfl,λw hw=>?_⟩;rw[amn (by omega),amn (by omega),amo bm];exact afD _ _ _ _ _ _ _ _ _ fv (by omega) hw
 ·refine⟨_,_,inferInstance,by rw[bm];rfl,λw hw=>?_⟩;rw[amn (by omega),amn (by omega),amn (by omega),amo bm];exact afI _ _ _ _ _ _ _ _ _ fv (by omega) hw
 ·refine⟨_,_,inferInstance,by rw[bm];rfl,λw hw=>?_⟩;rw[amn (by omega),amn (by omega),amn (by omega),amn (by omega),amo bm];exact afr _ _ _ _ _ _ _ _ _ fv (by omega) hw
 ·refine⟨_,_,inferInstance,by rw[bm];rfl,λw hw=>?_⟩;rw[amn (by omega),amn (by omega),amn (by omega),amn (by omega),amn (by omega),amo bm];refine(aft _ _ _ _ _ _ _ _ _ hw).mono λn r es I h=>?_;obtain⟨rfl,rfl⟩:=h;refine⟨rfl,_,_,_,rfl,λz aY=>?_⟩;injection aY with aY;subst aY;refine⟨rfl,?_,rfl⟩;have:=oW bm;unfold CA;dsimp only;split
  ·rfl
  omega
 ·refine⟨_,_,inferInstance,by rw[bm];rfl,λw hw=>?_⟩;rw[amn (by omega),amn (by omega),amn (by omega),amn (by omega),amn (by omega),amn (by omega),amn (by omega)];exact afC _ _ _ _ _ _ _ _ _ hw
 refine⟨_,_,inferInstance,by rw[bm];rfl,λw hw=>?_⟩;rw[amn (by omega),amn (by omega),amn (by omega),amn (by omega),amn (by omega),amn (by omega),amo bm];exact afw _ _ _ _ _ _ _ _ _ hw
def KR:Option (ht×kN)->List dY | some x=>x.1.ah | none=>[]
def KO:Option (ht×kN)->Int | some x=>(x.1.at':Int) | none=>0
def Gb:Option (ht×kN)->List Value | some x=>qY x.2 | none=>hv 0 a8 0 0 0
def KQ:Option (ht×kN)->Int | some _=>0 | none=>92
def Mq(o:Option (ht×kN)):Nat->Value->List aA->World->Prop:=λ_ v es _=>∃cH,aD cH/\v=.tuple #[.agg #[cH,.int .i64 (KO o)],.agg (Gb o).toArray,.int .i64 (KQ o)]/\es=[.own cH 70 2 dm (KR o)]
theorem abL{code:List Instr}(h:lp code=0){k:Nat}(hk:k<code.length)(bm:(code.getD k default).op=11):0<=mg code k:=by
 unfold lp at h;split at h
 ·cases h
 split at h
 ·rename_i h1;split at h
  ·rename_i h2;have h3:=abn.1 h2 k hk;unfold kH at h3;rw[amn (by omega),amo bm]at h3;obtain⟨j,ad⟩:=am7.1 h3;obtain⟨akt,JF,aaR,aaS⟩:=vK.1 ad;unfold mg;rw[amo bm];cases aZ:k6 code (code.getD k default).label 0 with
   | none=>have:=xa.1 aZ j (amz _) JF;rw[aaR]at this;cases this
   | some q=>exact Int.natCast_nonneg _
  cases h
 cases h
theorem Fv{code:List Instr}(h:lp code=0){k:Nat}(hk:k<code.length):kG (code.getD k default)=true:=by
 unfold lp at h;split at h
 ·cases h
 split at h
 ·rename_i h1;exact ank.1 h1 _ (er hk)
 cases h
theorem afu(ae aJ:Value)(code:List Instr)(l:ht)(w:World)(ai:aV an w cC 8 ae code)(aH:aV an w dm 2 aJ l.ah)(cP:lp code=0)(au:l.at'<code.length)(ok:qW 32 l.ah)(h0:l.ah.getD 0 default=gF): eH prog 173 [ae,.agg #[aJ,.int .i64 l.at']] w (Mq (lC code l)):=by
 have s1:=aH.aG;have eE:=ai.le;have eP:=aH.le;have bG:=ok.len;have hi:=Fv cP au;have bN:=(yu hi).1;have hA:=bN.a;have hB:=bN.b;have tj:(b3 2:Int)=32:=rfl;have ja:(qD code).length=code.length:=by unfold qD;simp
 refine iY func173 ntmps173 ?_;refine ck λaT=>?_;refine cU λnB=>?_;refine cU λsT=>?_;refine ao (bw (λI hw=>S6 ae code I (hw.now ai)) ?_);rintro v bx a6 ⟨lv,k,te,rfl,c6⟩ cA;rw[cP]at c6⊢;have c6:=c6 rfl;refine aa ?_;refine cK rfl (λh1=>by rw[amk,ar]at h1;exact absurd rfl h1) λ_=>?_;refine aa ?_;refine ao (bw (λI hw=>afF ae aJ code l.ah l.at' I (hw.now ai) (hw.now aH) au ok h0) ?_);rintro v cp bX rfl fq;refine aa ?_;refine cK rfl (λh1=>by cases h1) λ_=>?_;refine aa ?_;refine cU λbi=>?_;refine bQ 0 ?_;refine cJ (Mem [(a6,Fr bx),(w,an)] [.box bi (cC (code.getD l.at' default)) 169,.box sT [.int .i64 0,.string ByteArray.empty,.int .i64 0,.int .i64 0,.int .i64 0] 256,.box nB [U,.int .i64 0] 183,.box aT [aJ,.int .i64 l.at'] 183]) eS ?_;refine cV [0,1,2,3,4,5,6,7,8,9,10,11,12,13,14,15,16,17,18,19,21,22,23,25,20,24,26,27,28] mixed ?_;refine aP ?_;rw[show(qD code).getD l.at' default=mg code l.at' from s7 au];refine bL _ (h:=gS (a7:=λI hw=>C7 aJ l.ah I (hw.now aH) (by omega)) (ab:=?_));rintro v3 hD es gb ⟨pC,rfl⟩;refine aF (aP ?_) λ_ h=>h.cI.tail;refine bL _ (h:=q5 ?_);intro da;refine aF (aP ?_) λ_ h=>h.cI.tail.tail;refine aa ?_;refine cJ (Mem [(w,an)] (e2 da (code.getD l.at' default) (ju l (code.getD l.at' default).a) (ju l (code.getD l.at' default).b) (mg code l.at') v3 ((l.at'+1:Nat):Int) .no l.ah++[.box bi (cC (code.getD l.at' default)) 169,.box sT [.int .i64 0,.string ByteArray.empty,.int .i64 0,.int .i64 0,.int .i64 0] 256,.box nB [U,.int .i64 0] 183])) (λ_ h=>h.cI.cI.cm [0,1,2,3,4]) ?_;obtain⟨c3,j,hF,Iv,a7⟩:=aiy da code l v3 pC bG hi (abL cP au);refine cV [1,2,4,0,3,5,6] mixed ?_;refine aP ?_;refine bL _ (h:=gr (λI hw=>afH I) ?_);rintro alK jI es jJ ⟨r,rfl,rfl⟩;refine aF ?_ λ_ h=>h.cI.tail;refine bL _ (h:=tY rfl (aer (v:=.func (.func c3) #[] #[]) (r:=r) (k:=8) (es:=L8) (hm:=(bY rfl)) (hx:=(bY rfl)) (hmem:=.head _) (hf:=Iv)) ?_);refine aF ?_ λ_ h=>h.cI.tail;refine cJ (Mem [(w,an)] (e2 da (code.getD l.at' default) (ju l (code.getD l.at' default).a) (ju l (code.getD l.at' default).b) (mg code l.at') v3 ((l.at'+1:Nat):Int) .no l.ah++[.box bi (cC (code.getD l.at' default)) 169,.box sT [.int .i64 0,.string ByteArray.empty,.int .i64 0,.int .i64 0,.int .i64 0] 256,.box nB [U,.int .i64 0] 183])) (λ_ h=>h.cI.tail) ?_;refine eG (λ_=>True) (h:=en (k:=c3) (first:=[]) (cap:=[]) (es:=e2 da (code.getD l.at' default) (ju l (code.getD l.at' default).a) (ju l (code.getD l.at' default).b) (mg code l.at') v3 ((l.at'+1:Nat):Int) .no l.ah) (a7:=λI hw=>a7 I hw.dk.ei) (ab:=?_));rintro aeR n6 es tG ⟨rfl,m,y,g,rfl,aY⟩;refine aF (aP ?_) dx;refine aa ?_;cases aZ:lC code l with
 | none=>refine cK rfl (λ_=>?_) (λh=>by cases h);refine aa ?_;refine bQ 4 ?_;refine bQ 3 ?_;refine dZ 70 2 dm ?_;exact eR rfl (.dz rfl pE rfl (.dz rfl qE rfl (.t1 rfl))) [_] [0] λI hw=>⟨_,cZ,rfl,rfl⟩
 | some x=>
  obtain⟨rfl,rfl,rfl⟩:=aY x aZ;refine cK rfl (λh=>by cases h) λ_=>?_;refine aa ?_;obtain⟨fb,dQ,aK,e5,gd,dT⟩:=wC x.2;refine cJ (Mem [(w,an)] [.box da (cC (code.getD l.at' default)++dm (ju l (code.getD l.at' default).a)++dm (ju l (code.getD l.at' default).b)++[.int .i64 (mg code l.at'),v3,.int .i64 (x.1.at':Int)]++hv fb dQ aK e5 gd) 359,.own v3 70 2 dm x.1.ah,.box sT [.int .i64 0,.string ByteArray.empty,.int .i64 0,.int .i64 0,.int .i64 0] 256,.box nB [U,.int .i64 0] 183]) (λ_ h=>by unfold e2 Su at h;rw[dT]at h;exact h.cm [0,1,3,4]) ?_
  refine fs (Mem [(w,an)] [.box da (cC (code.getD l.at' default)++dm (ju l (code.getD l.at' default).a)++dm (ju l (code.getD l.at' default).b)++[.int .i64 (mg code l.at'),v3,.int .i64 (x.1.at':Int)]++hv fb dQ aK e5 gd) 359]) [0,1,2,3,4,5,6,7,8,9,10] mixed (bV [0]) ?_;refine bI ?_;refine bL _ (h:=bD 3 (ab:=?_));refine aF (aP ?_) (bV [0]);refine bL _ (h:=bD 2 (ab:=?_));refine aF (aP ?_) (bV [0]);refine aa ?_;refine eR rfl (.dz rfl mh rfl (.dz rfl gC rfl (.t1 rfl))) [.own v3 70 2 dm x.1.ah] [1] λI hw=>⟨v3,pC,?_,rfl⟩;rw[show Gb (some x)=hv fb dQ aK e5 gd from dT];rfl
end Go.Proofs.bK
