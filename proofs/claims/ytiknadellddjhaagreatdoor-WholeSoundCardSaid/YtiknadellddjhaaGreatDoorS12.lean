/- Lemmas for the law WholeSound. -/
import Derived.Shelf.Sort.Plain
import Derived.Sort.OwnSortedInts
import Derived.Shelf.Slices.In.SortNone
import Derived.RangeFuncBox
import Derived.RangeFuncLeaves
import Derived.Shelf.Abstract
import Derived.OwnWalkIn
import Derived.TacticsInMore
import Derived.LoopNIn
import Derived.LoopIn
import Derived.Maps.AppendAt
import Derived.Test.YtiknadellddjhaaGreatDoorS11
set_option linter.all false
open Go.Proofs.Tryz
set_option maxHeartbeats 2000000
open Go Go.cc Go.bU
attribute [local irreducible] Go.wpList Go.Code.wp Go.bodyPost Go.Exit.then Go.Exit.inBlock Go.Calls
namespace Go.Proofs.bK
open Go Go.Proofs Go.Shelf
def abr:Go.Shelf.Ren:=⟨λ| 189=>269 | 125=>157 | 257=>343 | 128=>243 | 129=>244 | 294=>380 | 295=>381 | 296=>382 | 297=>383 | 298=>384 | 299=>385 | 216=>386 | 300=>387 | 301=>388 | 328=>398 | 329=>319 | 330=>320 | 331=>399 | 332=>400 | 215=>401 | 343=>405 | n=>n,λ| 28=>33 | 3=>3 | 46=>156 | 0=>0 | 51=>336 | 53=>81 | 4=>4 | 183=>330 | 182=>329 | 131=>73 | 5=>5 | 9=>9 | 218=>389 | 222=>393 | 228=>413 | 229=>414 | n=>n,λ| n=>n⟩
theorem Qp:Go.Proofs.Lays.n189 prog abr:={
 mixed:=by kernel_rfl
 f125:=func157.trans (amC some (by kernel_rfl))
 f128:=func243.trans (amC some (by kernel_rfl))
 f129:=func244.trans (amC some (by kernel_rfl))
 f189:=func269.trans (amC some (by kernel_rfl))
 f215:=func401.trans (amC some (by kernel_rfl))
 f216:=func386.trans (amC some (by kernel_rfl))
 f257:=func343.trans (amC some (by kernel_rfl))
 f294:=func380.trans (amC some (by kernel_rfl))
 f295:=func381.trans (amC some (by kernel_rfl))
 f296:=func382.trans (amC some (by kernel_rfl))
 f297:=func383.trans (amC some (by kernel_rfl))
 f298:=func384.trans (amC some (by kernel_rfl))
 f299:=func385.trans (amC some (by kernel_rfl))
 f300:=func387.trans (amC some (by kernel_rfl))
 f301:=func388.trans (amC some (by kernel_rfl))
 f328:=func398.trans (amC some (by kernel_rfl))
 f329:=func319.trans (amC some (by kernel_rfl))
 f330:=func320.trans (amC some (by kernel_rfl))
 f331:=func399.trans (amC some (by kernel_rfl))
 f332:=func400.trans (amC some (by kernel_rfl))
 f343:=func405.trans (amC some (by kernel_rfl))
 t0:=underlying0
 a0:=Tryz.isAgg0
 z0:=Tryz.sizeOf0
 v0:=Tryz.zeroValue0
 t3:=underlying3
 a3:=Tryz.isAgg3
 z3:=Tryz.sizeOf3
 v3:=Tryz.zeroValue3
 t4:=underlying4
 a4:=Tryz.isAgg4
 z4:=Tryz.sizeOf4
 v4:=Tryz.zeroValue4
 t5:=underlying5
 a5:=Tryz.isAgg5
 z5:=Tryz.sizeOf5
 v5:=Tryz.zeroValue5
 t9:=underlying9
 a9:=Tryz.isAgg9
 z9:=Tryz.sizeOf9
 v9:=Tryz.zeroValue9
 t28:=underlying33
 a28:=Tryz.isAgg33
 z28:=Tryz.sizeOf33
 v28:=Tryz.zeroValue33
 t46:=underlying156
 a46:=Tryz.isAgg156
 z46:=Tryz.sizeOf156
 v46:=Tryz.zeroValue156
 t51:=underlying336
 a51:=Tryz.isAgg336
 z51:=Tryz.sizeOf336
 v51:=Tryz.zeroValue336
 t53:=underlying81
 a53:=Tryz.isAgg81
 z53:=Tryz.sizeOf81
 v53:=Tryz.zeroValue81
 t131:=underlying73
 a131:=Tryz.isAgg73
 z131:=Tryz.sizeOf73
 v131:=Tryz.zeroValue73
 t182:=underlying329
 a182:=Tryz.isAgg329
 z182:=Tryz.sizeOf329
 v182:=Tryz.zeroValue329
 t183:=underlying330
 a183:=Tryz.isAgg330
 z183:=Tryz.sizeOf330
 v183:=Tryz.zeroValue330
 t218:=underlying389
 a218:=Tryz.isAgg389
 z218:=Tryz.sizeOf389
 v218:=Tryz.zeroValue389
 t222:=underlying393
 a222:=Tryz.isAgg393
 z222:=Tryz.sizeOf393
 v222:=Tryz.zeroValue393
 t228:=underlying413
 a228:=Tryz.isAgg413
 z228:=Tryz.sizeOf413
 v228:=Tryz.zeroValue413
 t229:=underlying414
 a229:=Tryz.isAgg414
 z229:=Tryz.sizeOf414
 v229:=Tryz.zeroValue414}
end Go.Proofs.bK
namespace Go.bU
def pK(xs:List Int):List Int:=xs.mergeSort λx y=>decide (x<=y)
theorem TA(xs:List Int):(pK xs).length=xs.length:=List.length_mergeSort xs
theorem Gr(xs:List Int):(pK xs).Perm xs:=aoe xs _
theorem HO(xs:List Int):xs.flatMap bd=xs.map (Value.int .i64):=by
 induction xs with
 | nil=>rfl
 | cons x xs bH=>rw[am0,bH];rfl
end Go.bU
namespace Go.Proofs.bK
open Go Go.cc Go.bU Go.Proofs Go.RowKit
theorem agr(v:Value)(xs:List Int)(w:World)(hx:xs.length* 8<=140737488351232)(hw:Mem [] [.own v 3 1 bd xs] w): ph prog 269 [v] (.own v 3 1 bd xs) w λ_ r e' _=>r=.tuple #[]/\e'=.own v 3 1 bd (pK xs):=by
 have hy:=hw.fw _ aL;obtain⟨aB,bm⟩:=hw.own _ aL;unfold ph;rcases bm with⟨rfl,h0⟩ | ⟨g,cap,cur,rfl,ay,eO,bh,hm,eh,gu⟩
 ·have:xs=[]:=amO h0;subst this;refine(Any.slices_Sort_int_none Qp none 0 w).mono ?_;rintro e I ⟨rfl,rfl⟩;unfold sJ;have qu:pK []=[]:=by unfold pK;exact List.mergeSort_nil
  exact⟨_,_,rfl,⟨rfl,rfl⟩,by rw[qu];exact Af hw⟩
 have Je:cur.toList.take xs.length=xs.map (Value.int .i64):=by rw[Nat.mul_one]at gu;rw[gu,HO]
 have BY:g<w.heap.size:=hy g (by simp[aA.cX,Value.ownBlock]);refine(Any.slices_Sort_int Qp g 0 cap xs w (holds_of_blockI eO Je) BY (by omega)).mono ?_;rintro e I ⟨rfl,n,os,rfl⟩;unfold sJ;refine⟨_,_,rfl,⟨rfl,rfl⟩,?_⟩;have ic:=grownBy_sortedI (w:=w) (g:=g) (n:=n) (os:=os) (pK xs).toArray;refine(Af hw).rC (i:=0) rfl ic.os ic.tape ic.output ic.size (λk hk dC=>ic.block k hk λe=>dC (by simp[aA.cX,Value.ownBlock];cases e;rfl)) ?_ (λk hk=>?_) λk hk=>.inl hk
 ·have:=ownsRow_sortedI (base:=0) (n:=n) (os:=os) (ts:=pK xs) (TA xs) (amz _) eO bh hm eh;show World.ownsRow _ 0 3 1 _ (pK xs).length ((pK xs).flatMap bd);rw[HO,TA];exact this
 exact anH (hy k hk) ic.size
def upto{α:Type}(f:Nat->α)(k:Nat):List α:=(List.range k).map f
theorem Uf{α:Type}(f:Nat->α)(k:Nat):upto f (k+1)=upto f k++[f k]:=by simp[upto,am6]
theorem ahF{α:Type}(f:Nat->α)(k:Nat):(upto f k).length=k:=by simp[upto]
theorem ahD(zs:List Int):upto (λj=>zs[j]?.getD 0) zs.length=zs:=by
 apply anw
 ·simp[upto]
 intro i h1 h2;simp[upto,h2]
theorem ahH(zs:List Int){k:Nat}(hk:k<=zs.length):upto (λj=>zs[j]?.getD 0) k=zs.take k:=by
 apply anw
 ·simp[upto,hk]
 intro i h1 h2;have:i<zs.length:=by simp[upto]at h1;omega
 simp[upto,this]
section
attribute [local go_sem] Oper.semAt_some
set_option maxRecDepth 100000 in
theorem ahQ(F:Fence)(n:Nat)(hf:F.fn 270)(pB:F.round=none)(bh:1<=n)(l iW lR b off len cap:Nat)(zs:List Int)(PG:len* 8<=140737488351232)(hb:b<lR)(dX Dy:List Int->World->Prop) (H4:∀pre x W,dX pre W->pre.length<len->YieldAt F (n-1) prog l #[.int .i64 x] W λe l3=>(e=.returned (.bool true)/\dX (pre++[x]) l3/\Below lR W l3)\/(e=.returned (.bool false)/\Dy (pre++[x]) l3)) (W:World) (BM:W.cell? ⟨iW,0,none⟩=some (.slice (some ⟨b,off,none⟩) len cap)) (ai:∀j,j<len->W.cell? ⟨b,off+j,none⟩=some (.int .i64 (zs[j]?.getD 0))) (h0:dX [] W): CallsIn F n prog 270 #[.func (.yield l) #[] #[],ax iW] W λe l3=>(∃v,e=.returned v)/\ ((∃ys,ys=upto (λj=>zs[j]?.getD 0) len/\dX ys l3)\/(∃pre,(∃k,k<=len/\pre=upto (λj=>zs[j]?.getD 0) k)/\Dy pre l3)):=by
 refine callsIn_of_wp func270 rfl hf ?_ pB;simp only[ntmps270,an2,amI,amW,Nat.reduceAdd,Nat.reduceSub,Array.replicate_succ,Array.replicate_zero,List.push_toArray,List.append_toArray,anf,aoI]
 gi_wp2
 gi_loopw [7] (λi wr=>∃k:Nat,k<=len/\i=.int .i64 k/\dX (upto (λj=>zs[j]?.getD 0) k) wr/\Below lR W wr) λi _=>len-(intOf i).toNat
 case atStart=>exact⟨0,amz _,rfl,h0,Below.refl _ _⟩
 case round=>
  obtain⟨k,hk,rfl,Ep,Pn⟩:=hrel;have vp:k<len->wr.cell? ⟨b,off+k,none⟩=some (.int .i64 (zs[k]?.getD 0)):=λh=>(Pn.cell (p:=⟨b,off+k,none⟩) hb).trans (ai k h);by_cases dn:k<len
  ·obtain⟨fn,tmps,assign,body,aR,b8⟩:=H4 _ (zs[k]?.getD 0) wr Ep (by rw[ahF];exact dn);have ajt:=vp dn
   gi_wp2
   refine b8.mono ?_;rintro e aiJ (⟨rfl,X3,YY⟩ | ⟨rfl,X4⟩)
   ·gi_wp2
    go_roundw
    case rel=>exact⟨k+1,by omega,by simp,by rw[Uf];exact X3,Pn.trans YY⟩
    case measure=>simp[intOf];omega
   gi_wp2
   refine bodyPost_ret (results_none rfl _ _ _) rfl ?_;exact⟨⟨_,rfl⟩,.inr ⟨_,⟨k+1,by omega,(Uf _ _).symm⟩,X4⟩⟩
  obtain rfl:k=len:=by omega
  gi_wp2
  go_end0
  exact⟨⟨_,rfl⟩,.inl ⟨_,rfl,Ep⟩⟩
def y3(lR:Nat)(W:World)(aG:Value)(zs:List Int):Prop:=(∃a cap,aG=.slice a 0 cap/\zs=[])\/∃b off cap,aG=.slice (some ⟨b,off,none⟩) zs.length cap/\b<lR/\∀j,j<zs.length->W.cell? ⟨b,off+j,none⟩=some (.int .i64 (zs[j]?.getD 0))
theorem y3.below{lR:Nat}{A B:World}(h:Below lR A B){aG:Value}{zs:List Int}:y3 lR A aG zs->y3 lR B aG zs
 | .inl e=>.inl e
 | .inr ⟨b,off,cap,e,hb,ai⟩=>.inr ⟨b,off,cap,e,hb,λj ad=>(h.cell (p:=⟨b,off+j,none⟩) hb).trans (ai j ad)⟩
set_option maxRecDepth 100000 in
theorem ahR(F:Fence)(n:Nat)(hf:F.fn 270)(pB:F.round=none)(l iW cap:Nat)(a:Option Addr)(dX:List Int->World->Prop)(W:World)(BM:W.cell? ⟨iW,0,none⟩=some (.slice a 0 cap))(h0:dX [] W): CallsIn F n prog 270 #[.func (.yield l) #[] #[],ax iW] W λe l3=>(∃v,e=.returned v)/\dX [] l3:=by
 refine callsIn_of_wp func270 rfl hf ?_ pB;simp only[ntmps270,an2,amI,amW,Nat.reduceAdd,Nat.reduceSub,Array.replicate_succ,Array.replicate_zero,List.push_toArray,List.append_toArray,anf,aoI]
 gi_wp2
 gi_loopw [7] (λi wr=>i=.int .i64 0/\dX [] wr) λ_ _=>0
 case atStart=>exact⟨rfl,h0⟩
 case round=>
  obtain⟨rfl,Ep⟩:=hrel
  gi_wp2
  go_end0
  exact⟨⟨_,rfl⟩,Ep⟩
theorem ahS(F:Fence)(n:Nat)(hf:F.fn 270)(pB:F.round=none)(bh:1<=n)(iW lR:Nat)(aG:Value)(zs:List Int)(PG:zs.length* 8<=140737488351232)(w:World)(BM:iW<w.heap.size)(ye:lR<=w.heap.size) (ai:w.cell? ⟨iW,0,none⟩=some aG) (fi:y3 lR w aG zs): SeqStopsK F n prog 270 #[ax iW] (λx:Int=>#[Value.int .i64 x]) (Below lR) (λys=>ys=zs) (λpre=>pre <+:zs) zs.length w:=λl dX Dy W wV _ _ H4 h0=>by
 have OY:=(wV.cell (p:=⟨iW,0,none⟩) BM).trans ai;rcases fi.below (wV.mono ye)with⟨a,cap,rfl,rfl⟩ | ⟨b,off,cap,rfl,hb,fC⟩
 ·exact(ahR F n hf pB l iW cap a dX W OY h0).mono λe l3 ⟨he,ad⟩=>⟨he,.inl ⟨_,rfl,ad⟩⟩
 refine(ahQ F n hf pB bh l iW lR b off zs.length cap zs PG hb dX Dy H4 W OY fC h0).mono ?_;rintro e l3 ⟨he,⟨ys,rfl,ad⟩ | ⟨pre,⟨k,hk,rfl⟩,ad⟩⟩
 ·exact⟨he,.inl ⟨_,ahD zs,ad⟩⟩
 exact⟨he,.inr ⟨_,by rw[ahH zs hk];exact List.take_prefix _ _,ad⟩⟩
theorem aas:(prog.info? 3).map (λi=>(i.zero,i.size,i.bytes))=some (some (.int .i64 0),1,8):=by kernel_rfl
set_option maxRecDepth 100000 in
theorem Vv(F:Fence)(n:Nat)(hf:F.fn 342)(aw:F.fn 270)(pB:F.round=none)(bh:3<=n)(iW:Nat)(aG:Value)(zs:List Int)(bG:zs.length* 8<=140737488351232)(w:World)(BM:iW<w.heap.size) (ai:w.cell? ⟨iW,0,none⟩=some aG) (fi:y3 w.heap.size w aG zs): CallsIn F n prog 342 #[U,.func (.func 270) #[] #[ax iW]] w λe l3=>∃v,e=.returned v/\l3.ownsRow w.heap.size 3 1 v zs.length (zs.map (Value.int .i64))/\Below w.heap.size w l3:=by
 have h1:1<=n:=by omega
 obtain⟨i0,hi,Co,Cp,Cq⟩:=info_parts aas;refine callsIn_of_wp_marks func342 rfl hf ?_ pB;simp only[ntmps342,an2,amI,amW,Nat.reduceAdd,Nat.reduceSub,Array.replicate_succ,Array.replicate_zero,List.push_toArray,List.append_toArray,anf,aoI]
 gi_wp2
 have VC:=Boxed.new w 33 U;have BL:Below w.heap.size w (w.alloc (.cells #[U] 33)):=(Below.refl _ w).alloc (amK _) _;refine wpIn_rangeFunc_ownG pB h1 (gf:=270) (lb:=#[ax iW]) rfl aw (enters_of func270 (by kernel_rfl) rfl) (ahS F (n-1) aw pB (by omega) iW w.heap.size aG zs (by omega) _ (by simp;omega) (by simp) ((BL.cell (p:=⟨iW,0,none⟩) BM).trans ai) (fi.below BL)) belowK_t (belowK_b (by simp)) (Below.refl _ _) (λ_=>rfl) (λpre W=>(∃v,Boxed W w.heap.size 33 v/\W.ownsRow w.heap.size 3 1 v pre.length (pre.map (Value.int .i64))/\True)/\Below w.heap.size w W) (λ_ _ _=>False) (OwnFrom.and (Own.from (holdsRow_own w.heap.size w.heap.size 33 3 1 (λ(pre:List Int)=>pre.length) (λpre=>pre.map (Value.int .i64)) λ_ _=>True) _) (ownFrom_below (amK _) (by simp))) (λ_ _ _ _ _ ag _ _=>ag) ⟨⟨_,VC,World.ownsRow_nil _ _ _ _,trivial⟩,BL⟩ (λx=>{tmps:=#[U,.func (.func 270) #[] #[ax iW],.pointer (some ⟨w.heap.size,0,none⟩),undef,U,.int .i64 x,.func (.func 270) #[] #[ax iW],.int .i64 x,undef,undef,undef,undef,undef],defers:=[]}) ?assign ?body ?done ?stop
 case assign=>
  intro l x W K jE
  gi_wp2
  exact jE
 case body=>
  rintro l pre x W ⟨⟨v,aw,mF,_⟩,hB⟩ dn;have ai:=aw.cell
  gi_wp2_with (gi_at_builtin;refine wpListIn_append_own _ rfl _ _ 33 rfl w.heap.size 3 i0 (.int .i64 0) 1 8 underlying33 hi Co Cp Cq rfl (by decide) _ _ _ rfl (mF.alloc _) ⟨W.heap.size,0,none⟩ 1 1 [.int .i64 x] rfl rfl (cell_one_new _ _ _) (by simp[Value.oneCell']) (by unfold maxLen;omega) (by omega) (by have:=hB.size;simp;omega) ?_;intro dL a6 Pq YO _;obtain⟨nd,DN,rfl⟩:=ownsRow_succ Pq;obtain⟨j6,iM,tj,ng,Eu⟩:=aw.appended (by decide) mF hB.size (amK _) Pq YO;have ajr:=j6.cell;have ajx:=j6.frozen)
  exact⟨ng.from _,Eu,⟨_,iM,by simpa using tj,trivial⟩,hB.trans Eu⟩
 case done=>
  rintro D ys W En rfl ⟨⟨v,aw,mF,_⟩,hB⟩ jE;have ai:=aw.cell
  gi_wp2
  refine⟨by simp,.inl ⟨_,_,rfl,run_takeDeferred jE,?_⟩⟩;exact⟨_,results_tmp rfl _ _ _,v,rfl,ownsRow_putObj mF _ jE rfl,hB.trans (belowK_b (w:=w) (amK _) W D _ _ (by simp at En;omega) jE rfl rfl)⟩
 case stop=>rintro D c pre W _ _ h _;exact h.elim
end
end Go.Proofs.bK
namespace Go.Proofs.bK
open Go.RowKit
theorem aaq{w:World}{aG:Value}{zs:List Int}(h:aV an w bd 1 aG zs):y3 w.heap.size w aG zs:=by
 obtain⟨a,n,cap,rfl,bh,_,_,fR⟩:=h.is;subst bh;by_cases h0:zs=[]
 ·subst h0;exact .inl ⟨a,cap,rfl,rfl⟩
 have oh:0<zs.length:=List.length_pos_iff.2 h0;obtain⟨A,rfl⟩:=am7.1 (fR oh);have Ez:∀j,j<zs.length->w.cell? (A.add j)=some (.int .i64 (zs[j]?.getD 0)):=λj ad=>by have:=h.cell j (zs[j]) 0 (.int .i64 zs[j]) (amp ad) rfl;simp only[gI,Nat.mul_one,add_add,Nat.add_zero]at this;rw[this,amp ad];rfl
 obtain⟨b,off,sp⟩:=A;have wT:=Ez 0 oh;have uj:sp=none:=by
  cases sp with
  | none=>rfl
  | some x=>
   exfalso;rw[MF]at wT;unfold World.cell? at wT;split at wT
   ·simp at wT
   cases wT
 subst uj;refine .inr ⟨b,off,cap,rfl,?_,λj ad=>?_⟩
 ·have:=World.block_lt_of_cell? w _ wT;rwa[Bm]at this
 have:=Ez j ad;unfold Addr.add at this;by_cases Pf:j=0
 ·subst Pf;simpa using this
 simpa[Pf]using this
def Gp(b:Nat):Value:=.func (.func 270) #[] #[ax b]
theorem Vw(iW:Nat)(aG:Value)(zs:List Int)(w:World)(bG:zs.length* 8<=140737488351232)(ai:w.cell? ⟨iW,0,none⟩=some aG)(ag:aV an w bd 1 aG zs): eH prog 342 [U,Gp iW] w λ_ v es _=>aD v/\es=[.own v 3 1 bd zs]:=by
 unfold eH;have h:=callsIn_wide.1 (Vv Fence.wide 5 trivial trivial rfl (by decide) iW aG zs bG w (World.block_lt_of_cell? w _ ai) ai (aaq ag));refine h.mono ?_;rintro e I ⟨v,rfl,bm,hb⟩;unfold sI;have gZ:aD v:=by rcases bm.2 with⟨rfl,_⟩ | ⟨g,cap,cur,rfl,_⟩<;>exact⟨_,_,_,rfl⟩
 have r0:∀k,k∈(aA.own v 3 1 bd zs).cX->k<I.heap.size/\w.heap.size<=k:=λk hk=>by
  rcases bm.2 with⟨rfl,_⟩ | ⟨g,cap,cur,rfl,ay,eO,_⟩
  ·simp[aA.cX,Value.ownBlock]at hk
  simp only[aA.cX,Value.ownBlock,Option.mem_toList,Option.mem_some_iff]at hk;obtain rfl:g=k:=Option.some.inj hk;exact⟨(aot.1 eO).1,ay⟩
 refine⟨v,_,rfl,⟨gZ,rfl⟩,⟨λB hB=>?_,λe he=>?_,λe he k hk=>?_,λB hB e he k hk _=>?_,λi j fY gh hN hi ad=>?_⟩⟩
 ·rw[amv.1 hB];exact⟨hb.os,hb.tape,hb.output,hb.size,λk hk _=>hb.block k hk⟩
 ·rw[amv.1 he];show World.ownsRow I 0 3 1 v zs.length (zs.flatMap bd);rw[HO];exact⟨bm.1,bm.2.imp id λ⟨g,cap,cur,a,_,r⟩=>⟨g,cap,cur,a,amz _,r⟩⟩
 ·rw[amv.1 he]at hk;exact(r0 k hk).1
 ·rw[amv.1 he]at hk;rw[amv.1 hB];exact(r0 k hk).2
 cases i<;>cases j<;>simp_all
end Go.Proofs.bK
namespace Go.Proofs.bK
theorem afS(iW:Nat)(aG:Value)(zs:List Int)(w:World)(bG:zs.length* 8<=140737488351232)(ai:w.cell? ⟨iW,0,none⟩=some aG)(ag:aV an w bd 1 aG zs): eH prog 268 [Gp iW] w λ_ v es _=>aD v/\es=[.own v 3 1 bd zs]:=by refine iY func268 ntmps268 ?_;refine ao (gr (λI hw=>Vw iW aG zs I bG (zh (hw.base _ aL) trivial ai) (hw.now ag)) ?_);rintro v bx es a6 ⟨aw,rfl⟩;refine aa ?_;exact eR rfl (.t1 rfl) [_] [0] λI hw=>⟨aw,rfl⟩
theorem agQ(aG:Value)(w:World)(aw:aD aG): eH prog 186 [aG] w λ_ v es _=>∃b,v=Gp b/\es=[.box b [aG] 33]:=by refine iY func186 ntmps186 ?_;refine ck λb=>?_;exact eR rfl (.t1 rfl) [_] [0] λI hw=>⟨b,rfl,rfl⟩
theorem ags(iW:Nat)(aG:Value)(zs:List Int)(w:World)(bG:zs.length* 8<=140737488351232)(ai:w.cell? ⟨iW,0,none⟩=some aG)(ag:aV an w bd 1 aG zs): eH prog 185 [Gp iW] w λ_ v es _=>aD v/\es=[.own v 3 1 bd (pK zs)]:=by refine iY func185 ntmps185 ?_;refine ao (gr (λI hw=>afS iW aG zs I bG (zh (hw.base _ aL) trivial ai) (hw.now ag)) ?_);rintro v bx es a6 ⟨aw,rfl⟩;refine aa ?_;refine ao (vj 0 rfl (a7:=λI hw=>agr v zs I bG (hw.only aL)) (ab:=?_));rintro r cp e' bX ⟨rfl,rfl⟩;refine aa ?_;exact eR rfl (.t1 rfl) [_] [0] λI hw=>⟨aw,rfl⟩
end Go.Proofs.bK
