/- Lemmas for the law WholeSound. -/
import Derived.Test.YtiknadellddjhaaGreatDoorS05
import Derived.Test.YtiknadellddjhaaGreatDoorS09
import Derived.Test.YtiknadellddjhaaGreatDoorS21
set_option linter.all false
open Go.Proofs.Tryz
set_option maxHeartbeats 6400000
open Go Go.cc Go.bU
attribute [local irreducible] Go.wpList Go.Code.wp Go.bodyPost Go.Exit.then Go.Exit.inBlock Go.Calls
namespace Go.Proofs.bK
theorem Hm{ok q:Bool}(h:(!ok||!q)=true):(ok&&q)=false:=by revert h;cases ok<;>cases q<;>simp
theorem Hl{ok q:Bool}(h:(!ok||!q)=false):(ok&&q)=true:=by revert h;cases ok<;>cases q<;>simp
theorem P8(i:Instr)(w:World):bj prog 136 [.agg (cC i).toArray] w λ_ v _=>v=.int .i64 (if j7 i then 0 else 91):=by
 obtain⟨op,d,a,b,cY,loc,label,dE⟩:=i;refine ca func136 ntmps136 ?_;refine ck λbi=>?_;refine cU λkd=>?_;refine wu (λs:Bool×Instr=>(s.1&&decide (({s.2 with op:=op}:Instr)=⟨op,d,a,b,cY,loc,label,dE⟩))=j7 ⟨op,d,a,b,cY,loc,label,dE⟩) (λs=>[(4,true,.bool s.1),(3,true,ax kd),(1,true,ax bi)]) (λs=>Mem [(w,an)] [.box kd (cC s.2) 169,.box bi (cC ⟨op,d,a,b,cY,loc,label,dE⟩) 169]) ?_ ?_
 ·skip
  refine bA (λaW=>?_) λaW=>?_
  ·rw[aq]at aW;subst aW;refine aa ?_;refine bQ 0 ?_;refine ao (bw (λI hw=>Fi _ I) ?_);rintro v bx a6 rfl cA;refine aa ?_;refine fm (h:=eY (a7:=λ_ I hw=>JC _ I)) (ab:=aa ?_);refine bZ (eC loc&&eJ cY,⟨0,0,0,0,cY,loc,a8,0⟩) ?_ (hA:=c7);simp[j7,qG,rF,a8]
  rw[ar]at aW;refine bg (λaC=>?_) λaC=>?_
  ·rw[aq]at aC;subst aC;refine aa ?_;refine bQ 0 ?_;refine ao (bw (λI hw=>Fi _ I) ?_);rintro v bx a6 rfl cA;refine aa ?_;refine fm (h:=eY (a7:=λ_ I hw=>JD _ I)) (ab:=aa ?_);refine bZ (eC loc&&mS a,⟨0,0,a,0,0,loc,a8,0⟩) ?_ (hA:=c7);simp[j7,qG,rF,a8]
  rw[ar]at aC;refine bg (λh3=>?_) λh3=>?_
  ·rw[aq]at h3;subst h3;refine aa ?_;refine bQ 0 ?_;refine ao (bw (λI hw=>Fi _ I) ?_);rintro v bx a6 rfl cA;refine aa ?_;refine fm (h:=eY (a7:=λ_ I hw=>JD _ I)) (ab:=aa ?_);refine bZ (eC loc&&mS d,⟨0,d,0,0,0,loc,a8,0⟩) ?_ (hA:=c7);simp[j7,qG,rF,a8]
  rw[ar]at h3;refine bg (λh2=>?_) λh2=>?_
  ·rw[aq]at h2;subst h2;refine aa ?_;refine bQ 0 ?_;refine ao (bw (λI hw=>JD _ I) ?_);rintro v bx a6 rfl cA;refine aa ?_;refine fm (h:=eY (a7:=λ_ I hw=>JC _ I)) (ab:=aa ?_);refine bZ (mS d&&eJ cY,⟨0,d,0,0,cY,a8,a8,0⟩) ?_ (hA:=c7);simp[j7,qG,rF,a8]
  rw[ar]at h2;refine bg (λh1=>?_) λh1=>?_
  ·rw[aq]at h1;subst h1;refine aa ?_;refine bZ (true,⟨0,0,0,0,0,a8,a8,0⟩) ?_ (hA:=c7);simp[j7,qG,rF,a8]
  rw[ar]at h1;refine bl λI hw=>?_;rw[show j7 ⟨op,d,a,b,cY,loc,label,dE⟩=false by simp[j7,qG,aW,aC,h3,h2,h1]];rfl
 rintro⟨ok,wd⟩ ia;dsimp only at ia⊢;obtain⟨fT,d2,a2,dy,i2,km,m2,f2⟩:=wd;refine aa ?_;refine bQ 0 ?_;refine uR (h:=v8 cC (⟨op,d2,a2,dy,i2,km,m2,f2⟩:Instr) ⟨op,d,a,b,cY,loc,label,dE⟩) (ab:=aa ?_);refine bA (λh1=>?_) λh1=>?_
 ·refine bl λI hw=>?_;rw[ch]at h1;rw[show j7 ⟨op,d,a,b,cY,loc,label,dE⟩=false from ia.symm.trans (Hm h1)];rfl
 refine bl λI hw=>?_;rw[ch]at h1;rw[show j7 ⟨op,d,a,b,cY,loc,label,dE⟩=true from ia.symm.trans (Hl h1)];rfl
theorem adM(i:Instr)(w:World):bj prog 283 [.agg (cC i).toArray] w λ_ v _=>v=.int .i64 (if j7 i then 0 else 91):=by
 obtain⟨op,d,a,b,cY,loc,label,dE⟩:=i;refine ca func283 ntmps283 ?_;refine ck λbi=>?_;refine cU λkd=>?_;refine bQ 0 ?_;refine wu (λs:Bool×Instr=>(s.1&&decide (s.2=⟨op,d,a,b,cY,loc,label,dE⟩))=j7 ⟨op,d,a,b,cY,loc,label,dE⟩) (λs=>[(4,true,.bool s.1),(3,true,ax kd),(1,true,ax bi)]) (λs=>Mem [(w,an)] [.box kd (cC s.2) 169,.box bi (cC ⟨op,d,a,b,cY,loc,label,dE⟩) 169]) ?_ ?_
 ·skip
  refine bA (λaW=>?_) λaW=>?_
  ·rw[aq]at aW;subst aW;refine aa ?_;refine bQ 0 ?_;refine bQ 0 ?_;refine ao (bw (λI hw=>C1 _ I) ?_);rintro v bx a6 rfl cA;refine aa ?_;refine fm (h:=eY (a7:=λ_ I hw=>K6 _ I)) (ab:=aa ?_);refine bZ (eC loc&&eJ cY,⟨1,0,0,0,cY,loc,a8,0⟩) ?_ (hA:=c7);simp[j7,qG,rF,a8]
  rw[ar]at aW;refine bg (λaC=>?_) λaC=>?_
  ·rw[aq]at aC;subst aC;refine aa ?_;refine bQ 0 ?_;refine bQ 0 ?_;refine ao (bw (λI hw=>C1 _ I) ?_);rintro v bx a6 rfl cA;refine aa ?_;refine fm (h:=eY (a7:=λ_ I hw=>KI _ I)) (ab:=aa ?_);refine bZ (eC loc&&mS a,⟨2,0,a,0,0,loc,a8,0⟩) ?_ (hA:=c7);simp[j7,qG,rF,a8]
  rw[ar]at aC;refine bg (λh3=>?_) λh3=>?_
  ·rw[aq]at h3;subst h3;refine aa ?_;refine bQ 0 ?_;refine bQ 0 ?_;refine ao (bw (λI hw=>KI _ I) ?_);rintro v bx a6 rfl cA;refine aa ?_;refine fm (h:=eY (a7:=λ_ I hw=>C1 _ I)) (ab:=aa ?_);refine bZ (mS d&&eC loc,⟨3,d,0,0,0,loc,a8,0⟩) ?_ (hA:=c7);rw[Bool.and_comm (mS d)];simp[j7,qG,rF,a8]
  rw[ar]at h3;refine bg (λh2=>?_) λh2=>?_
  ·rw[aq]at h2;subst h2;refine aa ?_;refine bQ 0 ?_;refine bQ 0 ?_;refine ao (bw (λI hw=>KI _ I) ?_);rintro v bx a6 rfl cA;refine aa ?_;refine fm (h:=eY (a7:=λ_ I hw=>K6 _ I)) (ab:=aa ?_);refine bZ (mS d&&eJ cY,⟨4,d,0,0,cY,a8,a8,0⟩) ?_ (hA:=c7);simp[j7,qG,rF,a8]
  rw[ar]at h2;refine bg (λh1=>?_) λh1=>?_
  ·rw[aq]at h1;subst h1;refine aa ?_;refine bZ (true,⟨5,0,0,0,0,a8,a8,0⟩) ?_ (hA:=c7);simp[j7,qG,rF,a8]
  rw[ar]at h1;refine aa ?_;refine bZ (false,⟨op,0,0,0,0,a8,a8,0⟩) ?_ (hA:=c7);simp[j7,qG,aW,aC,h3,h2,h1]
 rintro⟨ok,wd⟩ ia;dsimp only at ia⊢;obtain⟨fT,d2,a2,dy,i2,km,m2,f2⟩:=wd;refine aa ?_;refine uR (h:=v8 cC (⟨fT,d2,a2,dy,i2,km,m2,f2⟩:Instr) ⟨op,d,a,b,cY,loc,label,dE⟩) (ab:=aa ?_);refine bA (λh1=>?_) λh1=>?_
 ·refine bl λI hw=>?_;rw[ch]at h1;rw[show j7 ⟨op,d,a,b,cY,loc,label,dE⟩=false from ia.symm.trans (Hm h1)];rfl
 refine bl λI hw=>?_;rw[ch]at h1;rw[show j7 ⟨op,d,a,b,cY,loc,label,dE⟩=true from ia.symm.trans (Hl h1)];rfl
theorem afx(i:Instr)(w:World):bj prog 224 [.agg (cC i).toArray] w λ_ v _=>v=.tuple #[.agg (cC (pP i)).toArray,.bool (aoZ i)]:=by
 obtain⟨op,d,a,b,cY,loc,label,dE⟩:=i;refine ca func224 ntmps224 ?_;refine ck λbi=>?_;refine cU λaO=>?_;refine cU λkd=>?_;refine bQ 0 ?_;refine bA (λcM=>?_) λcM=>?_
 ·rw[aq]at cM;subst cM;refine aa ?_;refine fs (Mem [(w,an)] [.box bi (cC ⟨6,d,a,b,cY,loc,label,dE⟩) 169]) [0,1,2,3,4,5,6,7] mixed (bM [2]) ?_;refine aP ?_;refine bL _ (h:=bD 0 (ab:=?_));refine aF (aP ?_) (bM [2]);refine bL _ (h:=bD 0 (ab:=?_));refine aF (aP ?_) (bM [2]);refine aa ?_;refine bQ 1 ?_;refine bP rfl (.dz rfl ds rfl (.t1 rfl)) λI hw=>?_;rfl
 rw[ar]at cM;refine bg (λef=>?_) λef=>?_
 ·rw[aq]at ef;subst ef;refine aa ?_;refine fs (Mem [(w,an)] [.box bi (cC ⟨7,d,a,b,cY,loc,label,dE⟩) 169]) [0,1,2,3,4,5,6,7] mixed (bM [2]) ?_;refine aP ?_;refine bL _ (h:=bD 0 (ab:=?_));refine aF (aP ?_) (bM [2]);refine bL _ (h:=bD 0 (ab:=?_));refine aF (aP ?_) (bM [2]);refine aa ?_;refine bQ 1 ?_;refine bP rfl (.dz rfl ds rfl (.t1 rfl)) λI hw=>?_;rfl
 rw[ar]at ef;refine bg (λdW=>?_) λdW=>?_
 ·rw[aq]at dW;subst dW;refine aa ?_;refine fs (Mem [(w,an)] [.box bi (cC ⟨8,d,a,b,cY,loc,label,dE⟩) 169]) [0,1,2,3,4,5,6,7,8,9,10,11] mixed (bM [2]) ?_;refine aP ?_;refine bL _ (h:=bD 0 (ab:=?_));refine aF (aP ?_) (bM [2]);refine bL _ (h:=bD 0 (ab:=?_));refine aF (aP ?_) (bM [2]);refine bL _ (h:=bD 0 (ab:=?_));refine aF (aP ?_) (bM [2]);refine aa ?_;refine fs (Mem [(w,an)] [.box kd (cC ⟨8,d,a,0,cY,a8,a8,0⟩) 169,.box bi (cC ⟨8,d,a,b,cY,loc,label,dE⟩) 169]) [0,1,2,3,4,5,6,7,8,9,10] mixed (bM [0,2]) ?_;refine aP ?_;refine bL _ (h:=bD 1 (ab:=?_));refine aF (aP ?_) (bM [0,2]);refine aa ?_;refine bP rfl (.dz rfl ds rfl (.t1 rfl)) λI hw=>?_;simp only[aoZ,ch];rfl
 rw[ar]at dW;refine bg (λhL=>?_) λhL=>?_
 ·refine aa ?_;refine cK rfl (λ_=>?_) (λh=>by rw[hL]at h;cases h);rw[aq]at hL;subst hL;refine aa ?_;refine fs (Mem [(w,an)] [.box bi (cC ⟨9,d,a,b,cY,loc,label,dE⟩) 169]) [0,1,2,3,4,5,6,7,8,9,10,11] mixed (bM [2]) ?_;refine aP ?_;refine bL _ (h:=bD 0 (ab:=?_));refine aF (aP ?_) (bM [2]);refine bL _ (h:=bD 0 (ab:=?_));refine aF (aP ?_) (bM [2]);refine bL _ (h:=bD 0 (ab:=?_));refine aF (aP ?_) (bM [2]);refine aa ?_;refine bQ 1 ?_;refine bP rfl (.dz rfl ds rfl (.t1 rfl)) λI hw=>?_;rfl
 rw[ar]at hL;refine bg (λnK=>?_) λnK=>?_
 ·rw[aq]at nK;subst nK;refine aa ?_;refine fs (Mem [(w,an)] [.box bi (cC ⟨10,d,a,b,cY,loc,label,dE⟩) 169]) [0,1,2,3,4,5,6,7,8,9,10,11] mixed (bM [2]) ?_;refine aP ?_;refine bL _ (h:=bD 0 (ab:=?_));refine aF (aP ?_) (bM [2]);refine bL _ (h:=bD 0 (ab:=?_));refine aF (aP ?_) (bM [2]);refine bL _ (h:=bD 0 (ab:=?_));refine aF (aP ?_) (bM [2]);refine aa ?_;refine bQ 1 ?_;refine bP rfl (.dz rfl ds rfl (.t1 rfl)) λI hw=>?_;rfl
 rw[ar]at nK;refine bg (λp2=>?_) λp2=>?_
 ·rw[aq]at p2;subst p2;refine aa ?_;refine fs (Mem [(w,an)] [.box bi (cC ⟨11,d,a,b,cY,loc,label,dE⟩) 169]) [0,1,2,3,4,5,6,7,8,9,10,11] mixed (bM [2]) ?_;refine aP ?_;refine bL _ (h:=bD 0 (ab:=?_));refine aF (aP ?_) (bM [2]);refine bL _ (h:=bD 0 (ab:=?_));refine aF (aP ?_) (bM [2]);refine bL _ (h:=bD 0 (ab:=?_));refine aF (aP ?_) (bM [2]);refine aa ?_;refine fs (Mem [(w,an)] [.box kd (cC ⟨11,0,a,b,0,a8,label,0⟩) 169,.box bi (cC ⟨11,d,a,b,cY,loc,label,dE⟩) 169]) [0,1,2,3,4,5] mixed (bM [0,2]) ?_;refine aP ?_;refine bL _ (h:=bw (λI hw=>Li _ I) ?_);rintro v bx a6 rfl cA;refine aF (aP ?_) (bM [0,2]);refine bL _ (h:=bD 1 (ab:=?_));refine aF (aP ?_) (bM [0,2]);refine aa ?_;refine bP rfl (.dz rfl ds rfl (.t1 rfl)) λI hw=>?_;rfl
 rw[ar]at p2;refine bg (λs8=>?_) λs8=>?_
 ·rw[aq]at s8;subst s8;refine aa ?_;refine bQ 0 ?_;refine fs (Mem [(w,an)] [.box kd (cC ⟨12,0,0,0,0,a8,label,0⟩) 169,.box bi (cC ⟨12,d,a,b,cY,loc,label,dE⟩) 169]) [0,1,2,3,4,5] mixed (bM [0,2]) ?_;refine aP ?_;refine bL _ (h:=bw (λI hw=>Li _ I) ?_);rintro v bx a6 rfl cA;refine aF (aP ?_) (bM [0,2]);refine bL _ (h:=bD 1 (ab:=?_));refine aF (aP ?_) (bM [0,2]);refine aa ?_;refine bP rfl (.dz rfl ds rfl (.t1 rfl)) λI hw=>?_;rfl
 rw[ar]at s8;refine bg (λs9=>?_) λs9=>?_
 ·rw[aq]at s9;subst s9;refine aa ?_;refine bQ 0 ?_;refine fs (Mem [(w,an)] [.box kd (cC ⟨13,0,0,0,0,a8,a8,dE⟩) 169,.box bi (cC ⟨13,d,a,b,cY,loc,label,dE⟩) 169]) [0,1,2,3,4,5,6,7,8,9,10] mixed (bM [0,2]) ?_;refine aP ?_;refine bL _ (h:=bD 1 (ab:=?_));refine aF (aP ?_) (bM [0,2]);refine aa ?_;refine bP rfl (.dz rfl ds rfl (.t1 rfl)) λI hw=>?_;simp only[aoZ,ch];rfl
 rw[ar]at s9;refine aa ?_;refine bQ 1 ?_;refine bP rfl (.dz rfl ds rfl (.t1 rfl)) λI hw=>?_;simp[pP,aoZ,cM,ef,dW,hL,nK,p2,s8,s9];rfl
theorem S5(i:Instr)(w:World):bj prog 137 [.agg (cC i).toArray] w λ_ v _=>v=.int .i64 (if kG i then 0 else 91):=by
 refine ca func137 ntmps137 ?_;refine ck λbi=>?_;refine ao (bw (λI hw=>afx i I) ?_);rintro v bx a6 rfl cA;refine aa ?_;refine cU λkd=>?_;refine bQ 0 ?_;refine uR (h:=v8 cC (pP i) i) (ab:=aa ?_);refine fm (h:=eY (a7:=λ_ I hw=>Lj _ I)) (ab:=aa ?_);refine fm (h:=eY (a7:=λ_ I hw=>Lj _ I)) (ab:=aa ?_);refine fm (h:=eY (a7:=λ_ I hw=>Lj _ I)) (ab:=aa ?_);have key:(!aoZ i||!bO (pP i=i)||!nv i.d||!nv i.a||!nv i.b)=!kG i:=by unfold kG;rw[ch];cases aoZ i<;>cases decide (pP i=i)<;>cases nv i.d<;>cases nv i.a<;>cases nv i.b<;>rfl
 refine bA (λh1=>?_) λh1=>?_
 ·refine bl λI hw=>?_;have h1:=key.symm.trans h1;rw[amk]at h1;rw[h1];rfl
 refine bl λI hw=>?_;have h1:=key.symm.trans h1;rw[amm]at h1;rw[h1];rfl
theorem Sa(i:Instr)(w:World):bj prog 203 [.agg (cC i).toArray] w λ_ v _=>v=.int .i64 (if kG i then 0 else 91):=by
 obtain⟨op,d,a,b,cY,loc,label,dE⟩:=i;refine ca func203 ntmps203 ?_;refine ck λbi=>?_;refine cU λkd=>?_;refine bQ 0 ?_;refine wu (λs:Bool×Instr=>(s.1&&decide (s.2=⟨op,d,a,b,cY,loc,label,dE⟩))=(aoZ ⟨op,d,a,b,cY,loc,label,dE⟩&&decide (pP ⟨op,d,a,b,cY,loc,label,dE⟩=⟨op,d,a,b,cY,loc,label,dE⟩))) (λs=>[(4,true,.bool s.1),(3,true,ax kd),(1,true,ax bi)]) (λs=>Mem [(w,an)] [.box kd (cC s.2) 169,.box bi (cC ⟨op,d,a,b,cY,loc,label,dE⟩) 169]) ?_ ?_
 ·skip
  refine bA (λcM=>?_) λcM=>?_
  ·rw[aq]at cM;subst cM;refine aa ?_;refine bQ 0 ?_;refine bQ 0 ?_;refine bZ (true,⟨6,d,a,0,0,a8,a8,0⟩) ?_ (hA:=c7);simp[aoZ,pP,a8]
  rw[ar]at cM;refine bg (λef=>?_) λef=>?_
  ·rw[aq]at ef;subst ef;refine aa ?_;refine bQ 0 ?_;refine bQ 0 ?_;refine bZ (true,⟨7,0,a,b,0,a8,a8,0⟩) ?_ (hA:=c7);simp[aoZ,pP,a8]
  rw[ar]at ef;refine bg (λdW=>?_) λdW=>?_
  ·rw[aq]at dW;subst dW;refine aa ?_;refine bQ 0 ?_;refine bQ 0 ?_;refine bQ 0 ?_;refine bZ (bO (-2048<=cY)&&bO (cY<=2047),⟨8,d,a,0,cY,a8,a8,0⟩) ?_ (hA:=c7);simp[aoZ,pP,a8,ch]
  rw[ar]at dW;refine bg (λhL=>?_) λhL=>?_
  ·refine aa ?_;refine cK rfl (λ_=>?_) (λh=>by rw[hL]at h;cases h);rw[aq]at hL;subst hL;refine aa ?_;refine bQ 0 ?_;refine bQ 0 ?_;refine bQ 0 ?_;refine bZ (true,⟨9,d,a,b,0,a8,a8,0⟩) ?_ (hA:=c7);simp[aoZ,pP,a8]
  rw[ar]at hL;refine bg (λnK=>?_) λnK=>?_
  ·rw[aq]at nK;subst nK;refine aa ?_;refine bQ 0 ?_;refine bQ 0 ?_;refine bQ 0 ?_;refine bZ (true,⟨10,d,a,b,0,a8,a8,0⟩) ?_ (hA:=c7);simp[aoZ,pP,a8]
  rw[ar]at nK;refine bg (λp2=>?_) λp2=>?_
  ·rw[aq]at p2;subst p2;refine aa ?_;refine bQ 0 ?_;refine bQ 0 ?_;refine bQ 0 ?_;refine ao (bw (λI hw=>Sc _ I) ?_);rintro v bx a6 rfl cA;refine aa ?_;refine bZ (eC label,⟨11,0,a,b,0,a8,label,0⟩) ?_ (hA:=c7);simp[aoZ,pP,a8]
  rw[ar]at p2;refine bg (λs8=>?_) λs8=>?_
  ·rw[aq]at s8;subst s8;refine aa ?_;refine bQ 0 ?_;refine ao (bw (λI hw=>Sc _ I) ?_);rintro v bx a6 rfl cA;refine aa ?_;refine bZ (eC label,⟨12,0,0,0,0,a8,label,0⟩) ?_ (hA:=c7);simp[aoZ,pP,a8]
  rw[ar]at s8;refine bg (λs9=>?_) λs9=>?_
  ·rw[aq]at s9;subst s9;refine aa ?_;refine bQ 0 ?_;refine bZ (bO (2<=dE)&&bO (dE<=11),⟨13,0,0,0,0,a8,a8,dE⟩) ?_ (hA:=c7);simp[aoZ,pP,a8,ch]
  rw[ar]at s9;refine aa ?_;refine bZ (false,⟨op,0,0,0,0,a8,a8,0⟩) ?_ (hA:=c7);simp[aoZ,cM,ef,dW,hL,nK,p2,s8,s9]
 rintro⟨ok,wd⟩ ia;dsimp only at ia⊢;obtain⟨fT,d2,a2,dy,i2,km,m2,f2⟩:=wd;refine aa ?_;refine uR (h:=v8 cC ⟨op,d,a,b,cY,loc,label,dE⟩ (⟨fT,d2,a2,dy,i2,km,m2,f2⟩:Instr)) (ab:=aa ?_);refine fm (h:=eY (a7:=λ_ I hw=>KJ _ I)) (ab:=aa ?_);refine fm (h:=eY (a7:=λ_ I hw=>KJ _ I)) (ab:=aa ?_);refine fm (h:=eY (a7:=λ_ I hw=>KJ _ I)) (ab:=aa ?_);have key:(!ok||!bO (⟨op,d,a,b,cY,loc,label,dE⟩=(⟨fT,d2,a2,dy,i2,km,m2,f2⟩:Instr))||!nv d||!nv a||!nv b)=!kG ⟨op,d,a,b,cY,loc,label,dE⟩:=by unfold kG;rw[<-ia,ch,show decide (⟨op,d,a,b,cY,loc,label,dE⟩=(⟨fT,d2,a2,dy,i2,km,m2,f2⟩:Instr))=decide ((⟨fT,d2,a2,dy,i2,km,m2,f2⟩:Instr)=⟨op,d,a,b,cY,loc,label,dE⟩)from am3.2 eq_comm];generalize decide ((⟨fT,d2,a2,dy,i2,km,m2,f2⟩:Instr)=⟨op,d,a,b,cY,loc,label,dE⟩)=q;cases ok<;>cases q<;>cases nv d<;>cases nv a<;>cases nv b<;>rfl
 refine bA (λh1=>?_) λh1=>?_
 ·refine bl λI hw=>?_;have h1:=key.symm.trans h1;rw[amk]at h1;rw[h1];rfl
 refine bl λI hw=>?_;have h1:=key.symm.trans h1;rw[amm]at h1;rw[h1];rfl
end Go.Proofs.bK
namespace Go.bU
mutual
def kP(S:Nat->Prop)(w:World):eU->Value->Prop
 | .mk _ _ _ l,ak=>∃c9:List lI,aV S w gR 6 ak c9/\kO S w l c9
def kO(S:Nat->Prop)(w:World):List eU->List lI->Prop
 | [],c9=>c9=[]
 | n::r,c9=>∃m s,c9=m::s/\m.kind=n.kind/\m.e3=n.e3/\m.value=n.value/\kP S w n m.kids/\kO S w r s
end
mutual
theorem kP.map{S S':Nat->Prop}{w I:World}(f:∀v c9,aV S w gR 6 v c9->aV S' I gR 6 v c9):∀(n:eU) (ak:Value),kP S w n ak->kP S' I n ak
 | .mk _ _ _ l,ak=>by unfold kP;rintro⟨c9,h1,h2⟩;exact⟨c9,f _ _ h1,kO.map f l c9 h2⟩
theorem kO.map{S S':Nat->Prop}{w I:World}(f:∀v c9,aV S w gR 6 v c9->aV S' I gR 6 v c9):∀(l:List eU) (c9:List lI),kO S w l c9->kO S' I l c9
 | [],c9=>by unfold kO;exact λh=>h
 | n::r,c9=>by unfold kO;rintro⟨m,s,h1,h2,h3,aC,aW,cM⟩;exact⟨m,s,h1,h2,h3,aC,kP.map f n _ aW,kO.map f r s cM⟩
end
theorem kO.len{S:Nat->Prop}{w:World}:∀{l:List eU} {c9:List lI},kO S w l c9->c9.length=l.length
 | [],c9=>by unfold kO;rintro rfl;rfl
 | n::r,c9=>by unfold kO;rintro⟨m,s,rfl,_,_,_,_,h⟩;rw[amI,amI,kO.len h]
theorem kO.get{S:Nat->Prop}{w:World}:∀{l:List eU} {c9:List lI} (i:Nat),kO S w l c9->i<l.length->(c9.getD i default).kind=(l.getD i default).kind/\(c9.getD i default).e3=(l.getD i default).e3/\ (c9.getD i default).value=(l.getD i default).value/\kP S w (l.getD i default) (c9.getD i default).kids
 | [],c9,i=>by intro _ h;cases h
 | n::r,c9,i=>by
  unfold kO;rintro⟨m,s,rfl,h1,h2,h3,aC,aW⟩ hi;cases i with
  | zero=>exact⟨h1,h2,h3,aC⟩
  | succ i=>exact kO.get i aW (by rw[amI]at hi;omega)
theorem kP.aG{S:Nat->Prop}{w:World}{n:eU}{ak:Value}(h:kP S w n ak):aD ak:=by cases n;unfold kP at h;obtain⟨c9,h1,_⟩:=h;exact h1.aG
def iP(n:eU)(ak:Value):lI:=⟨n.kind,n.e3,n.value,ak⟩
theorem lI.eq{n:eU}{m:lI}(h1:m.kind=n.kind)(h2:m.e3=n.e3)(h3:m.value=n.value):m=iP n m.kids:=by cases m;unfold iP;simp_all
def uu(az:Int)(m:lI)(k:Nat):Bool:=
 if m.kind=2 then decide (k=0)&&k9 az m.e3&&eJ m.value
 else decide (m.e3=⟨0,0,a8⟩)&&decide (m.value=0)&&(if m.kind=1 then decide (k=0)else if m.kind=3 then decide (k=1)else decide (m.kind=4\/m.kind=5)&&decide (2<=k))
theorem FK(az:Int)(n:eU)(ak:Value):vT az n=uu az (iP n ak) n.kids.length:=by
 have e:n.kids.isEmpty=decide (n.kids.length=0):=by cases n.kids<;>simp
 unfold vT uu iP;dsimp only;rw[e]
theorem vc{α:Type}[Inhabited α]{l:List α}{i:Nat}(h:i<l.length):l.drop i=l.getD i default::l.drop (i+1):=by rw[List.drop_eq_getElem_cons h,aml,amp h];rfl
theorem Uy{a:Int}{l:List eU}{i m d:Nat}(h:i<l.length):mV a (l.drop i) m d=if(il a (l.getD i default) m d).2=0 then mV a (l.drop (i+1)) (il a (l.getD i default) m d).1 d else il a (l.getD i default) m d:=by rw[vc h];rfl
theorem xt(a:Int)(n:eU)(m d:Nat):il a n m d=if 1024<=m\/64<=d then(m,2)else if vT a n then mV a n.kids (m+1) (d+1)else(m,80):=by cases n;unfold il;rfl
theorem Gq{n:eU}{i:Nat}(h:i<n.kids.length):SizeOf.sizeOf (n.kids.getD i default)<SizeOf.sizeOf n:=by
 cases n with
 | mk k x v l=>
  have hm:l.getD i default∈l:=by have h:i<l.length:=h;rw[aml,amp h];exact anx h
  have:=List.sizeOf_lt_of_mem hm;show SizeOf.sizeOf (l.getD i default)<_;simp only[eU.mk.sizeOf_spec];omega
theorem kP.kids{S:Nat->Prop}{w:World}{n:eU}{ak:Value}(h:kP S w n ak):∃c9:List lI,aV S w gR 6 ak c9/\kO S w n.kids c9:=by cases n;unfold kP at h;exact h
end Go.bU
namespace Go.Proofs.bK
theorem Wq(az:Int)(x:cE)(w:World):bj prog 299 [.int .i64 az,.agg (ev x).toArray] w λ_ v _=>v=.bool (k9 az x):=by
 refine ca func299 ntmps299 ?_;refine ck λeN=>?_;refine bA (λh1=>?_) λh1=>?_
 ·rw[aq]at h1;refine aa ?_;refine fm (h:=eY (a7:=λ_ I hw=>Wl _ I)) (ab:=aa ?_);refine bP rfl (.t1 rfl) λI hw=>?_;unfold k9;rw[amo h1,ch];rfl
 rw[ar]at h1;refine aa ?_;refine cV [0,1,2,3,4,5,6,7,8,9,10,11,12,13,14,15,16,17,18,19,20,21,22,23,24,25] mixed ?_;refine aP ?_;refine w9 ?_ (h:=eY (a7:=λ_ I hw=>Wo _ I));refine aP ?_;refine bl λI hw=>?_;unfold k9;rw[amn h1,ch,ch,ch,ch,ch];rfl
theorem QW{az:Int}{m:lI}{k:Nat}(h2:¬m.kind=2)(h:¬(m.e3=⟨0,0,a8⟩/\m.value=0)):uu az m k=false:=by
 unfold uu;rw[amn h2];by_cases q:m.e3=⟨0,0,a8⟩
 ·rw[amy (p:=m.value=0) λe=>h ⟨q,e⟩];simp
 rw[amy q];rfl
theorem uv{az:Int}{m:lI}{k:Nat}(h2:¬m.kind=2)(h:m.e3=⟨0,0,a8⟩/\m.value=0):uu az m k=if m.kind=1 then decide (k=0)else if m.kind=3 then decide (k=1)else decide (m.kind=4\/m.kind=5)&&decide (2<=k):=by unfold uu;rw[amn h2,amq h.1,amq h.2];rfl
theorem Wk(az:Int)(m:lI)(c9:List lI)(w:World)(hk:aV an w gR 6 m.kids c9):bj prog 230 [.int .i64 az,.agg (gR m).toArray] w λ_ v _=>v=.bool (uu az m c9.length):=by
 have gZ:=hk.aG;have hle:=hk.le;refine ca func230 ntmps230 ?_;refine ck λkc=>?_;refine uR (h:=v8 ev m.e3 (⟨0,0,a8⟩:cE)) (ab:=aa ?_);refine bA (λh1=>?_) λh1=>?_
 ·simp only[ami,amr,amk,ar]at h1;refine bl λI hw=>?_;rw[QW h1.1 λq=>h1.2.elim (λh=>h q.1) λh=>h q.2];rfl
 simp only[amx,amt,amm,aq]at h1;refine bg (λh2=>?_) λh2=>?_
 ·rw[aq]at h2;refine bl λI hw=>?_;rw[uv (by omega) (h1.resolve_left (by omega)),amo h2,ch];exact amC Value.bool (am3.2 (by omega))
 rw[ar]at h2;refine bg (λh3=>?_) λh3=>?_
 ·rw[aq]at h3;refine aa ?_;refine fm (h:=eY (a7:=λ_ I hw=>Wq az m.e3 I)) (ab:=aa ?_);refine fm (h:=eY (a7:=λ_ I hw=>Wn _ I)) (ab:=aa ?_);refine bP rfl (.t1 rfl) λI hw=>?_;unfold uu;rw[amo h3,ch,show decide ((c9.length:Int)=0)=decide (c9.length=0)from am3.2 (by omega)];rfl
 rw[ar]at h3;have cb:=h1.resolve_left (by omega);refine bg (λaC=>?_) λaC=>?_
 ·rw[aq]at aC;refine bl λI hw=>?_;rw[uv h3 cb,amn h2,amo aC,ch];exact amC Value.bool (am3.2 (by omega))
 rw[ar]at aC;refine bg (λaW=>?_) λaW=>?_
 ·refine aa ?_;refine cK rfl (λ_=>?_) (λh=>by rw[aW]at h;cases h);rw[aq]at aW;refine bl λI hw=>?_;rw[uv h3 cb,amn h2,amn aC,amq (.inl aW),ch];exact amC Value.bool (am3.2 (by omega))
 rw[ar]at aW;refine bg (λcM=>?_) λcM=>?_
 ·rw[aq]at cM;refine bl λI hw=>?_;rw[uv h3 cb,amn h2,amn aC,amq (.inr cM),ch];exact amC Value.bool (am3.2 (by omega))
 rw[ar]at cM;refine bl λI hw=>?_;rw[uv h3 cb,amn h2,amn aC,amy λq=>q.elim aW cM];rfl
def Bj(az:Int)(kd:Nat)(r:Nat×Int):Nat->Value->List aA->World->Prop:=λ_ v es _=>v=.bool (decide (r.2=0))/\∃q:Int,(r.2=0->q=r.1)/\es=[.box kd [.int .i64 az,.int .i64 q,.int .i64 r.2] 238]
theorem Uz(a:Int)(n:eU)(m d:Nat)(h:(il a n m d).2=0):(il a n m d).1<=max m 1024:=(wq n m d h).2.2
theorem Wm(az:Int)(kd:Nat):∀(z:Nat) (n:eU) (ak:Value) (met deep:Nat) (w:World),SizeOf.sizeOf n<z->met<=1024->deep<=64->Mem [] [.box kd [.int .i64 az,.int .i64 met,.int .i64 0] 238] w-> kP (bB [.box kd [.int .i64 az,.int .i64 met,.int .i64 0] 238]) w n ak-> eM prog 141 [ax kd,.agg (gR (iP n ak)).toArray,.int .i64 deep] [.box kd [.int .i64 az,.int .i64 met,.int .i64 0] 238] w (Bj az kd (il az n met deep)):=by
 intro z
 induction z with
 | zero=>intro n ak met deep w aY;omega
 | succ z bH=>
  intro n ak met deep w aY Y9 Yv yn bh;obtain⟨c9,ag,jE⟩:=bh.kids;have gZ:=ag.aG;have hle:=ag.le;have bG:=jE.len;refine rP func141 ntmps141 yn ?_;refine eQ λkc=>?_;refine c0 1 ?_;refine bA (λh1=>?_) λh1=>?_
  ·simp only[amr,aq]at h1;refine af ?_;refine bQ 1 ?_;refine ez rfl (.t1 rfl) [_] [1] λI hw=>?_;unfold Bj;rw[xt,amo (by omega)];exact⟨rfl,_,λh=>(by cases h),rfl⟩
  simp only[amt,ar]at h1;refine aa ?_;refine cV [0,1,2,3,4,5,6,7] mixed ?_;refine bI ?_;refine bL _ (h:=bw (λI hw=>Wk az (iP n ak) c9 I (hw.now ag)) ?_);rintro v bx a6 rfl cA;refine aF (aP ?_) c7;refine bg (λh2=>?_) λh2=>?_
  ·rw[amk]at h2;refine af ?_;refine bQ 1 ?_;refine ez rfl (.t1 rfl) [_] [1] λI hw=>?_;unfold Bj;rw[xt,amn (by omega),FK az n ak,<-bG,h2,amn (by simp)];exact⟨rfl,_,λh=>(by cases h),rfl⟩
  rw[amm]at h2;have tn:il az n met deep=mV az n.kids (met+1) (deep+1):=by rw[xt,amn (by omega),FK az n ak,<-bG,h2,amo rfl]
  refine aa ?_;refine b9 (λs:Nat×Nat=>s.1<=c9.length/\s.2<=1024/\mV az (n.kids.drop s.1) s.2 (deep+1)=il az n met deep) (λs=>[(43,true,.int .i64 s.1),(42,true,.int .i64 c9.length),(41,true,ak),(2,true,.int .i64 deep),(0,true,ax kd)]) (λs=>Mem [(w,bB [.box kd [.int .i64 az,.int .i64 met,.int .i64 0] 238])] [.box kc (gR (iP n ak)) 28,.box kd [.int .i64 az,.int .i64 s.2,.int .i64 0] 238]) (λs=>c9.length-s.1) (0,met+1) ⟨amz _,by dsimp only;omega,tn.symm⟩ ?_ ⟨rfl,rfl,rfl,rfl,rfl,trivial⟩ c7
  rintro⟨i,mt⟩ ⟨hi,B3,oo⟩;dsimp only at hi B3 oo⊢;refine bg (λh3=>?_) λh3=>?_
  ·have dw:i<c9.length:=by rw[aq]at h3;omega
   obtain⟨g1,g2,g3,g4⟩:=kO.get i jE (by omega);have iy:=g4.aG;have yb:=lI.eq g1 g2 g3;refine aa ?_;refine cU λgg=>?_;refine bQ 0 ?_;refine cJ _ (λ_ h=>h.front 2 rfl) ?_;refine ao (en (es:=[_]) (a7:=λI hw=>by have:=bH (n.kids.getD i default) (c9.getD i default).kids mt (deep+1) I (by have:=Gq (n:=n) (i:=i) (by omega);omega) B3 (by omega) hw.dk.ei (g4.map λv c9 h=>hw.gw h aL λe he=>amE _ he);rw[<-yb]at this;exact this) (ab:=?_))
   rintro v cp es bX ⟨rfl,q,aZ,rfl⟩;refine aa ?_;have c4:=Uy (a:=az) (m:=mt) (d:=deep+1) (show i<n.kids.length by omega);rw[oo]at c4;refine bA (λaC=>?_) λaC=>?_
   ·rw[amk,amu]at aC;rw[amn aC]at c4;refine aa ?_;refine ez rfl (.t1 rfl) [_] [0] λI hw=>?_;unfold Bj;rw[c4,amy aC];exact⟨rfl,q,λh=>absurd h aC,rfl⟩
   rw[amm,amj]at aC;rw[amo aC]at c4;refine aa ?_;have hb:=Uz az _ _ _ aC;refine bt (i+1,(il az (n.kids.getD i default) mt (deep+1)).1) ⟨by dsimp only;omega,by dsimp only;omega,c4.symm⟩ (by dsimp only;omega) (hA:=λ_ h=>?_);have:=(h.last rfl).cm [2,0] (es:=[.box kc (gR (iP n ak)) 28,.box kd [.int .i64 az,.int .i64 q,.int .i64 (il az (n.kids.getD i default) mt (deep+1)).2] 238]) rfl (by decide);rw[aZ aC,aC]at this;exact this
  have dw:i=c9.length:=by rw[ar]at h3;omega
  refine aa ?_;refine ez rfl (.t1 rfl) [_] [1] λI hw=>?_;rw[dw,bG,anL]at oo;unfold Bj;rw[<-oo];exact⟨rfl,mt,λ_=>rfl,rfl⟩
theorem Nl(az dD:Int)(n:eU)(ak:Value)(w:World)(bh:kP an w n ak):bj prog 63 [.int .i64 az,.agg (.int .i64 dD::gR (iP n ak)).toArray] w λ_ v _=>v=.int .i64 (oL az dD n):=by
 have gZ:=bh.aG;refine ca func63 ntmps63 ?_;refine ck λhc=>?_;refine ao (bw (λI hw=>Wj _ I) ?_);rintro v bx a6 rfl cA;refine aa ?_;unfold oL;refine bA (λh1=>?_) λh1=>?_
 ·rw[amk,amu]at h1;refine bl λI hw=>?_;rw[amn h1];rfl
 rw[amm,amj]at h1;rw[amo h1];refine bg (λh2=>?_) λh2=>?_
 ·simp only[amr,aq]at h2;refine bl λI hw=>?_;rw[amo (by omega)];rfl
 simp only[amt,ar]at h2;rw[amn (by omega)];refine aa ?_;refine cU λkd=>?_;refine bQ 0 ?_;refine ao (en (es:=[_]) (H:=[.box hc (.int .i64 dD::gR (iP n ak)) _]) (a7:=λI hw=>Wm az kd (SizeOf.sizeOf n+1) n ak 0 0 I (by omega) (by omega) (by omega) hw.dk.ei (bh.map λv c9 h=>hw.gw h ds λe he=>amE _ he)) (ab:=?_));rintro v cp es bX ⟨rfl,q,aZ,rfl⟩;refine bl λI hw=>?_;rfl
theorem adJ(az:Int)(x:cE)(w:World):bj prog 351 [.int .i64 az,.agg (ev x).toArray] w λ_ v _=>v=.bool (k9 az x):=by
 refine ca func351 ntmps351 ?_;refine ck λeN=>?_;refine bA (λh1=>?_) λh1=>?_
 ·rw[aq]at h1;refine aa ?_;refine fm (h:=eY (a7:=λ_ I hw=>adF _ I)) (ab:=aa ?_);refine bP rfl (.t1 rfl) λI hw=>?_;unfold k9;rw[amo h1,ch];rfl
 rw[ar]at h1;refine aa ?_;refine cV [0,1,2,3,4,5,6,7,8,9,10,11,12,13,14,15,16,17,18,19,20,21,22,23,24,25] mixed ?_;refine aP ?_;refine w9 ?_ (h:=eY (a7:=λ_ I hw=>adI _ I));refine aP ?_;refine bl λI hw=>?_;unfold k9;rw[amn h1,ch,ch,ch,ch,ch];rfl
theorem adG(az:Int)(m:lI)(c9:List lI)(w:World)(hk:aV an w gR 6 m.kids c9):bj prog 286 [.int .i64 az,.agg (gR m).toArray] w λ_ v _=>v=.bool (uu az m c9.length):=by
 have gZ:=hk.aG;have hle:=hk.le;have aY:bO ((c9.length:Int)=0)=decide (c9.length=0):=by rw[ch];exact am3.2 (by omega)
 refine ca func286 ntmps286 ?_;refine ck λkc=>?_;refine cU λaiS=>?_;refine bA (λh3=>?_) λh3=>?_
 ·rw[aq]at h3;refine aa ?_;refine ao (bw (λI hw=>adJ az m.e3 I) ?_);rintro v bx a6 rfl cA;refine aa ?_;refine fm (h:=eY (a7:=λ_ I hw=>adH _ I)) (ab:=aa ?_);refine bP rfl (.t1 rfl) λI hw=>?_;unfold uu;rw[amo h3,aY];refine amC Value.bool ?_;cases k9 az m.e3<;>cases eJ m.value<;>cases decide (c9.length=0)<;>rfl
 rw[ar]at h3;refine aa ?_;refine dg (v8 ev m.e3 (⟨0,0,a8⟩:cE)) (ab:=aa ?_);refine bA (λh1=>?_) λh1=>?_
 ·simp only[amr,amk,ar]at h1;refine bl λI hw=>?_;rw[QW h3 λq=>h1.elim (λh=>h q.1) λh=>h q.2];rfl
 simp only[amt,amm,aq]at h1;refine bg (λh2=>?_) λh2=>?_
 ·rw[aq]at h2;refine bl λI hw=>?_;rw[uv h3 h1,amo h2,aY];rfl
 rw[ar]at h2;refine bg (λaC=>?_) λaC=>?_
 ·rw[aq]at aC;refine bl λI hw=>?_;rw[uv h3 h1,amn h2,amo aC,ch];exact amC Value.bool (am3.2 (by omega))
 rw[ar]at aC;refine bg (λaW=>?_) λaW=>?_
 ·refine aa ?_;refine cK rfl (λ_=>?_) (λh=>by rw[aW]at h;cases h);rw[aq]at aW;refine bl λI hw=>?_;rw[uv h3 h1,amn h2,amn aC,amq (.inl aW),ch];exact amC Value.bool (am3.2 (by omega))
 rw[ar]at aW;refine bg (λcM=>?_) λcM=>?_
 ·rw[aq]at cM;refine bl λI hw=>?_;rw[uv h3 h1,amn h2,amn aC,amq (.inr cM),ch];exact amC Value.bool (am3.2 (by omega))
 rw[ar]at cM;refine bl λI hw=>?_;rw[uv h3 h1,amn h2,amn aC,amy λq=>q.elim aW cM];rfl
theorem adK(az:Int):∀(z:Nat) (n:eU) (ak:Value) (met deep:Nat) (w:World),SizeOf.sizeOf n<z->met<=1024->deep<=64->kP an w n ak-> bj prog 201 [.int .i64 az,.agg (gR (iP n ak)).toArray,.int .i64 met,.int .i64 deep] w λ_ v _=>v=.tuple #[.int .i64 (il az n met deep).1,.int .i64 (il az n met deep).2]:=by
 intro z
 induction z with
 | zero=>intro n ak met deep w aY;omega
 | succ z bH=>
  intro n ak met deep w aY Y9 Yv bh;obtain⟨c9,ag,jE⟩:=bh.kids;have gZ:=ag.aG;have hle:=ag.le;have bG:=jE.len;refine ca func201 ntmps201 ?_;refine ck λkc=>?_;refine bA (λh1=>?_) λh1=>?_
  ·simp only[amr,aq]at h1;refine aa ?_;refine bP rfl (.tmp rfl (.t1 rfl)) λI hw=>?_;rw[xt,amo (by omega)];rfl
  simp only[amt,ar]at h1;refine aa ?_;refine ao (bw (λI hw=>adG az (iP n ak) c9 I (hw.now ag)) ?_);rintro v bx a6 rfl cA;refine bg (λh2=>?_) λh2=>?_
  ·rw[amk]at h2;refine aa ?_;refine bP rfl (.tmp rfl (.t1 rfl)) λI hw=>?_;rw[xt,amn (by omega),FK az n ak,<-bG,h2,amn (by simp)];rfl
  rw[amm]at h2;have tn:il az n met deep=mV az n.kids (met+1) (deep+1):=by rw[xt,amn (by omega),FK az n ak,<-bG,h2,amo rfl]
  refine aa ?_;refine b9 (λs:Nat×Nat=>s.1<=c9.length/\s.2<=1024/\mV az (n.kids.drop s.1) s.2 (deep+1)=il az n met deep) (λs=>[(10,true,.int .i64 s.1),(5,true,ax kc),(3,true,.int .i64 deep),(2,true,.int .i64 s.2),(0,true,.int .i64 az)]) (λs=>Mem [(w,an)] [.box kc (gR (iP n ak)) 28]) (λs=>c9.length-s.1) (0,met+1) ⟨amz _,by dsimp only;omega,tn.symm⟩ ?_ ⟨rfl,rfl,rfl,rfl,rfl,trivial⟩ c7
  rintro⟨i,mt⟩ ⟨hi,B3,oo⟩;dsimp only at hi B3 oo⊢;refine bg (λh3=>?_) λh3=>?_
  ·have dw:i<c9.length:=by rw[aq]at h3;omega
   obtain⟨g1,g2,g3,g4⟩:=kO.get i jE (by omega);have yb:=lI.eq g1 g2 g3;refine aa ?_;refine ao (iJ (a7:=λI hw=>by have:=bH (n.kids.getD i default) (c9.getD i default).kids mt (deep+1) I (by have:=Gq (n:=n) (i:=i) (by omega);omega) B3 (by omega) (g4.map λv c9 h=>hw.now h);rw[<-yb]at this;exact this) (ab:=?_))
   rintro v cp bX rfl fq;refine aa ?_;have c4:=Uy (a:=az) (m:=mt) (d:=deep+1) (show i<n.kids.length by omega);rw[oo]at c4;refine bA (λaC=>?_) λaC=>?_
   ·rw[amk,ar]at aC;rw[amn aC]at c4;refine aa ?_;refine bP rfl (.tmp rfl (.t1 rfl)) λI hw=>?_;rw[c4];rfl
   rw[amm,aq]at aC;rw[amo aC]at c4;refine aa ?_;have hb:=Uz az _ _ _ aC;exact bt (i+1,(il az (n.kids.getD i default) mt (deep+1)).1) ⟨by dsimp only;omega,by dsimp only;omega,c4.symm⟩ (by dsimp only;omega) (hA:=c7)
  have dw:i=c9.length:=by rw[ar]at h3;omega
  refine aa ?_;refine bP rfl (.tmp rfl (.t1 rfl)) λI hw=>?_;rw[dw,bG,anL]at oo;rw[<-oo];rfl
theorem R3(az dD:Int)(n:eU)(ak:Value)(w:World)(bh:kP an w n ak):bj prog 115 [.int .i64 az,.agg (.int .i64 dD::gR (iP n ak)).toArray] w λ_ v _=>v=.int .i64 (oL az dD n):=by
 have gZ:=bh.aG;refine ca func115 ntmps115 ?_;refine ck λhc=>?_;refine ao (bw (λI hw=>adC _ I) ?_);rintro v bx a6 rfl cA;refine aa ?_;unfold oL;refine bA (λh1=>?_) λh1=>?_
 ·rw[amk,amu]at h1;refine bl λI hw=>?_;rw[amn h1];rfl
 rw[amm,amj]at h1;rw[amo h1];refine bg (λh2=>?_) λh2=>?_
 ·simp only[amr,aq]at h2;refine bl λI hw=>?_;rw[amo (by omega)];rfl
 simp only[amt,ar]at h2;rw[amn (by omega)];refine aa ?_;refine ao (iJ (a7:=λI hw=>adK az (SizeOf.sizeOf n+1) n ak 0 0 I (by omega) (by omega) (by omega) (bh.map λv c9 h=>hw.now h)) (ab:=?_));rintro v cp bX rfl fq;refine bl λI hw=>?_;rfl
end Go.Proofs.bK
