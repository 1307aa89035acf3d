/- Lemmas for the law WholeSound. -/
import Derived.Shelf.SlSortCmp.NoneTotal
import Derived.IntWalk
import Derived.Lib.Hide
import Derived.Test.YtiknadellddjhaaGreatDoorS18
import Derived.Test.YtiknadellddjhaaGreatDoorS27
import Derived.Test.YtiknadellddjhaaGreatDoorS28
set_option linter.all false
open Go.Proofs.Tryz
set_option maxHeartbeats 6400000
open Go Go.cc Go.bU
attribute [local irreducible] Go.wpList Go.Code.wp Go.bodyPost Go.Exit.then Go.Exit.inBlock Go.Calls
namespace Go.bU
def hv(k:Int)(loc:ByteArray)(v r f:Int):List Value:=[.int .i64 k,.string loc,.int .i64 v,.int .i64 r,.int .i64 f]
def BF(m:Int×Value):List Value:=[.int .i64 m.1,m.2]
def NJ:List Value->Int×Value | [a,b]=>(iS a,b) | _=>(0,.nilIface)
instance:ee BF 2:=⟨λ_=>rfl,by decide⟩
structure qW(n:Nat)(ah:List dY):Prop where
 len:ah.length=n
 val:∀i,i<n->lE (ah.getD i default)=true
theorem ahN(v:dY):lE v=true↔(v.loc=a8/\eJ v.n=true)\/(v.loc≠a8/\eC v.loc=true/\v.n=0):=by
 unfold lE;split
 ·rename_i h;exact⟨λq=>.inl ⟨h,q⟩,λq=>q.elim (λq=>q.2) λq=>absurd h q.1⟩
 rename_i h;rw[ami,amj];exact⟨λq=>.inr ⟨h,q⟩,λq=>q.elim (λq=>absurd q.1 h) λq=>q.2⟩
end Go.bU
namespace Go.Proofs.bK
instance:jw prog 354 BF NJ:=⟨trivial⟩
def qY:kN->List Value
 | .no=>hv 1 a8 0 0 0
 | .rd l r=>hv 2 l 0 r 0
 | .wr l v=>hv 3 l v 0 0
 | .oQ f=>hv 4 a8 0 0 f
theorem aaE(aJ:Value)(ah:List dY)(a:Nat)(w:World)(aH:aV an w dm 2 aJ ah)(au:a<256)(ok:qW 15 ah): bj prog 261 [.agg #[aJ,.int .i64 a]] w λ_ v _=>v=.bool true:=by
 have hle:=aH.le;have bG:=ok.len;have s1:=aH.aG;refine ca func261 ntmps261 ?_;refine ck λaT=>?_;refine bA (λh1=>?_) λ_=>?_
 ·exfalso;simp only[amr,amk,aq,ar]at h1;omega
 refine aa ?_;refine b9 (λs:Nat=>s<=15) (λs=>[(22,true,.int .i64 s),(21,true,.int .i64 ah.length),(20,true,aJ)]) (λs=>Mem [(w,an)] [.box aT [aJ,.int .i64 a] 183]) (λs=>15-s) 0 (amz _) ?_ ⟨rfl,rfl,rfl,trivial⟩ c7
 intro j ad;refine bg (λh2=>?_) λh2=>?_
 ·have bF:j<15:=by rw[aq]at h2;omega
  have aw:=ok.val j bF;refine aa ?_;refine cU λbv=>?_;refine bQ 0 ?_;refine fm (h:=eY (a7:=λ_ I hw=>JC (ah.getD j default).n I)) (ab:=aa ?_);refine fm (h:=eY (a7:=λ_ I hw=>Fi (ah.getD j default).loc I)) (ab:=aa ?_);refine bA (λh3=>?_) λ_=>?_
  ·exfalso;simp only[amr,ami,amk,aq,ar]at h3;rcases(ahN _).1 aw with⟨cq,bn⟩ | ⟨cq,bn,e8⟩
   ·rw[bn]at h3;exact h3.elim (λq=>by cases q.2) λq=>q.1 cq
   rw[bn]at h3;exact h3.elim (λq=>cq q.1) λq=>q.2.elim (λq=>by cases q) λq=>q e8
  refine aa ?_;exact bt (j+1) (by omega) (by omega) (hA:=iG)
 refine aa ?_;exact bP rfl (.t1 rfl) λI hw=>rfl
def z8:List (Int×Value):=[(1,.func (.func 326) #[] #[]),(2,.func (.func 327) #[] #[]),(3,.func (.func 328) #[] #[]),(4,.func (.func 329) #[] #[]),(5,.func (.func 330) #[] #[])]
theorem aaK(w:World):eH prog 262 [] w λ_ v es _=>aD v/\es=[.own v 354 2 BF z8]:=by refine iY func262 ntmps262 ?_;refine ao (eA BF NJ (ab:=λv6 mH=>aa ?_));exact eR rfl (.t1 rfl) _ [0] λ_ _=>⟨mH,rfl⟩
def p8(cW:Nat)(aJ:Value)(a:Int)(ah:List dY):List aA:=[.box cW [aJ,.int .i64 a] 183,.own aJ 70 2 dm ah]
def y4(cW:Nat)(aJ:Value)(a:Int)(ah:List dY)(x:kN):Nat->Value->List aA->World->Prop:=λ_ v es _=>v=.tuple #[.agg (qY x).toArray,.int .i64 0]/\es=p8 cW aJ a ah
theorem aaF(cW:Nat)(aJ:Value)(a:Int)(ah:List dY)(i:Instr)(w:World)(hw:Mem [] (p8 cW aJ a ah) w):eM prog 326 [.agg (cC i).toArray,ax cW] (p8 cW aJ a ah) w (y4 cW aJ a ah (.wr i.loc i.cY)):=by refine rP func326 ntmps326 hw ?_;refine ck λbi=>?_;refine cU λnB=>?_;refine bQ 0 ?_;exact ez rfl (.dz rfl aL rfl (.t1 rfl)) _ [2,3] λI hw=>⟨rfl,rfl⟩
theorem aaH(cW:Nat)(aJ:Value)(a:Int)(ah:List dY)(i:Instr)(w:World)(hw:Mem [] (p8 cW aJ a ah) w):eM prog 328 [.agg (cC i).toArray,ax cW] (p8 cW aJ a ah) w (y4 cW aJ a ah (.rd i.loc i.d)):=by refine rP func328 ntmps328 hw ?_;refine ck λbi=>?_;refine cU λnB=>?_;refine bQ 0 ?_;exact ez rfl (.dz rfl aL rfl (.t1 rfl)) _ [2,3] λI hw=>⟨rfl,rfl⟩
theorem aaJ(cW:Nat)(aJ:Value)(a:Int)(ah:List dY)(i:Instr)(w:World)(hw:Mem [] (p8 cW aJ a ah) w):eM prog 330 [.agg (cC i).toArray,ax cW] (p8 cW aJ a ah) w (y4 cW aJ a ah (.oQ 1)):=by refine rP func330 ntmps330 hw ?_;refine ck λbi=>?_;refine cU λnB=>?_;refine bQ 0 ?_;exact ez rfl (.dz rfl aL rfl (.t1 rfl)) _ [2,3] λI hw=>⟨rfl,rfl⟩
theorem aaG(cW:Nat)(aJ:Value)(a:Int)(ah:List dY)(i:Instr)(w:World)(fv:aD aJ)(au:0<=i.a/\i.a<ah.length)(aB:(ah.getD i.a.toNat default).loc=a8)(hw:Mem [] (p8 cW aJ a ah) w):eM prog 327 [.agg (cC i).toArray,ax cW] (p8 cW aJ a ah) w (y4 cW aJ a ah (.wr i.loc (ah.getD i.a.toNat default).n)):=by
 refine rP func327 ntmps327 hw ?_;refine ck λbi=>?_;refine cU λnB=>?_;refine cV [0,1,2,3,4,5,6,7,8,9] mixed ?_;refine bI ?_;refine bL _ (h:=ft ?_);intro bv;refine aF (aP ?_) iG;refine hz (h:=bD 0 (ab:=aa ?_));refine bA (λh1=>?_) λ_=>?_
 ·rw[amk,ar]at h1;exact absurd aB h1
 refine aa ?_;refine bQ 1 ?_;exact ez rfl (.dz rfl ds rfl (.t1 rfl)) _ [3,4] λI hw=>⟨rfl,rfl⟩
theorem aaI(cW:Nat)(aJ:Value)(a:Int)(ah:List dY)(i:Instr)(w:World)(fv:aD aJ)(hd:0<=i.d/\i.d<ah.length)(hw:Mem [] (p8 cW aJ a ah) w):eM prog 329 [.agg (cC i).toArray,ax cW] (p8 cW aJ a ah) w (y4 cW aJ a (ah.set i.d.toNat ⟨a8,i.cY⟩) .no):=by refine rP func329 ntmps329 hw ?_;refine ck λbi=>?_;refine cU λnB=>?_;refine cV [0,1,2,3,4,5,6,7,8,9,10] mixed ?_;refine bI ?_;refine hz (h:=fB 3 rfl (⟨a8,i.cY⟩:dY) (ab:=aa ?_));refine bQ 0 ?_;exact ez rfl (.dz rfl aL rfl (.t1 rfl)) _ [2,3] λI hw=>⟨rfl,rfl⟩
theorem aaB(i:Instr)(cW:Nat)(aJ:Value)(a:Int)(l:ht)(fv:aD aJ)(bN:qU 1 i)(bG:l.ah.length=15)(h2:i.op=2->(l.ah.getD i.a.toNat default).loc=a8){j:Nat}(ad:j<5)(bm:i.op=(j:Int)+1): ∃(k:Nat) (_:aS prog k),(z8.getD j default).2=.func (.func k) #[] #[]/\∀w,Mem [] (p8 cW aJ a l.ah) w->eM prog k [.agg (cC i).toArray,ax cW] (p8 cW aJ a l.ah) w (y4 cW aJ a (je i l).1.ah (je i l).2):=by
 have hd:=bN.d;have hA:=bN.a;have aH:(b3 1:Int)=15:=rfl;obtain rfl | rfl | rfl | rfl | rfl:j=0\/j=1\/j=2\/j=3\/j=4:=by omega
 ·refine⟨_,inferInstance,rfl,λw hw=>?_⟩;unfold je;rw[amo (show i.op=1 by omega)];exact aaF cW aJ a l.ah i w hw
 ·refine⟨_,inferInstance,rfl,λw hw=>?_⟩;unfold je;rw[amn (by omega),amo (by omega)];exact aaG cW aJ a l.ah i w fv (by omega) (h2 (by omega)) hw
 ·refine⟨_,inferInstance,rfl,λw hw=>?_⟩;unfold je;rw[amn (by omega),amn (by omega),amo (by omega)];exact aaH cW aJ a l.ah i w hw
 ·refine⟨_,inferInstance,rfl,λw hw=>?_⟩;unfold je;rw[amn (by omega),amn (by omega),amn (by omega),amo (by omega)];exact aaI cW aJ a l.ah i w fv (by omega) hw
 refine⟨_,inferInstance,rfl,λw hw=>?_⟩;unfold je;rw[amn (by omega),amn (by omega),amn (by omega),amn (by omega)];exact aaJ cW aJ a l.ah i w hw
theorem aaD{j:Nat}(ad:j<5):(z8.getD j default).1=(j:Int)+1:=by
 obtain rfl | rfl | rfl | rfl | rfl:j=0\/j=1\/j=2\/j=3\/j=4:=by omega
 all_goals rfl
theorem aaC{j:Nat}(ad:j<5):(z8.getD j default).2.oneCell'=true:=by
 obtain rfl | rfl | rfl | rfl | rfl:j=0\/j=1\/j=2\/j=3\/j=4:=by omega
 all_goals rfl
theorem wC(x:kN):∃k l v r f,qY x=hv k l v r f:=by cases x<;>exact⟨_,_,_,_,_,rfl⟩
theorem agH(i:Instr)(l:ht):(je i l).1.at'=l.at'+1:=by
 unfold je;repeat (split;rfl)
 rfl
def Mg(x:ht×kN):Nat->Value->List aA->World->Prop:=λ_ v es _=>∃cH,aD cH/\v=.tuple #[.agg #[cH,.int .i64 x.1.at'],.agg (qY x.2).toArray,.int .i64 0]/\es=[.own cH 70 2 dm x.1.ah]
theorem aaA(i:Instr)(aJ:Value)(l:ht)(w:World)(hi:j7 i=true)(ok:qW 15 l.ah)(aH:aV an w dm 2 aJ l.ah)(au:l.at'<256)(h2:i.op=2->(l.ah.getD i.a.toNat default).loc=a8): eH prog 172 [.agg (cC i).toArray,.agg #[aJ,.int .i64 l.at']] w (Mg (je i l)):=by
 have s1:=aH.aG;have bG:=ok.len;have bN:=JB hi;have mb:=bN.Ap rfl;refine iY func172 ntmps172 ?_;refine ck λbi=>?_;refine ck λaT=>?_;refine cU λnB=>?_;refine cU λsT=>?_;refine ao (bw (λI hw=>P8 i I) ?_);rintro v bx a6 rfl cA;rw[amo hi];refine aa ?_;refine cK rfl (λh1=>by rw[amk,ar]at h1;exact absurd rfl h1) λ_=>?_;refine aa ?_;refine ao (bw (λI hw=>aaE aJ l.ah l.at' I (hw.now aH) au ok) ?_);rintro v cp bX rfl fq;refine aa ?_;refine cK rfl (λh1=>by cases h1) λ_=>?_;refine aa ?_;refine cJ (Mem [(w,an)] [.box sT [.int .i64 0,.string ByteArray.empty,.int .i64 0,.int .i64 0,.int .i64 0] 256,.box nB [U,.int .i64 0] 183,.box aT [aJ,.int .i64 l.at'] 183,.box bi (cC i) 169]) c7 ?_;refine h7 (λz:Nat×Value=>aD z.2) (λz=>[(8,true,.pointer (some ⟨z.1,0,none⟩)),(5,true,ax sT),(4,true,ax nB),(2,true,ax bi)]) (λz=>Mem [(w,an)] [.box z.1 [z.2,.int .i64 ((l.at':Int)+1)] 183,.own z.2 70 2 dm l.ah,.box sT [.int .i64 0,.string ByteArray.empty,.int .i64 0,.int .i64 0,.int .i64 0] 256,.box nB [U,.int .i64 0] 183,.box bi (cC i) 169]) ?_ ?_
 ·refine cV [0,1,3,4,5,999] mixed ?_;refine aP ?_;refine nn 2 7 ?_ ?_
  ·refine cB [6,999] _ (h:=gS (a7:=λI hw=>C7 aJ l.ah I (hw.now aH) (by omega)) (ab:=?_));rintro v hD es gb ⟨aw,rfl⟩;refine aF (aP ?_) λ_ h=>h.cI.tail;refine eo 7 ?_;refine cB [8] _ (h:=ft ?_);intro dv;refine aF ?_ λ_ h=>h.cI.tail.tail;refine hz (h:=bD 0 (ab:=?_));exact bZ (dv,v) aw (hA:=λ_ h=>h.cI.cm [0,1,2,3,5])
  refine cB [999] _ (h:=ft ?_);intro dv;refine aF ?_ iG;refine eo 2 ?_;refine cB [6,8] _ (h:=gS (a7:=λI hw=>C7 aJ l.ah I (hw.now aH) (by omega)) (ab:=?_));rintro v hD es gb ⟨aw,rfl⟩;refine aF (aP ?_) λ_ h=>h.cI.tail.tail;refine hz (h:=bD 1 (ab:=?_));exact bZ (dv,v) aw (hA:=λ_ h=>h.cI.cm [1,0,2,3,5])
 rintro⟨dv,tF⟩ Ck;dsimp only at Ck⊢;refine aa ?_;refine ao (gr (λI hw=>aaK I) ?_);rintro aU jI es jJ ⟨aj7,rfl⟩;refine aa ?_;refine b9 (λj:Nat=>(j:Int)<i.op) (λj=>[(34,true,.int .i64 j),(33,true,.int .i64 5),(32,true,aU),(8,true,ax dv),(5,true,ax sT),(4,true,ax nB),(2,true,ax bi)]) (λ_=>Mem [(w,an)] [.box dv [tF,.int .i64 ((l.at':Int)+1)] 183,.own tF 70 2 dm l.ah,.box sT [.int .i64 0,.string ByteArray.empty,.int .i64 0,.int .i64 0,.int .i64 0] 256,.box nB [U,.int .i64 0] 183,.box bi (cC i) 169,.own aU 354 2 BF z8]) (λj=>5-j) 0 (by omega) ?_ ⟨rfl,rfl,rfl,rfl,rfl,rfl,rfl,trivial⟩ λ_ h=>h.cI.cm [1,2,3,4,5,0]
 intro j ad;refine aa ?_;refine cK rfl (λ_=>?_) (λh2=>by rw[ar]at h2;omega);have IE:j<5:=by omega
 have ajE:z8.length=5:=rfl;have Zk:=aaD IE;refine aa ?_;refine cU λda=>?_;refine ao (bD 0 (h1:=.cons rfl (.cons (aaC IE) .nil)) (ab:=aa ?_));rw[Zk];refine bA (λh3=>?_) λh3=>?_
 ·rw[amk,ar]at h3;refine aa ?_;exact bt (j+1) (by omega) (by omega) (hA:=iG)
 rw[amm,aq]at h3;obtain⟨c3,hF,aw,a7⟩:=aaB i dv tF ((l.at':Int)+1) l Ck bN (by omega) h2 IE h3.symm;refine aa ?_;rw[aw];refine cJ (Mem [(w,an)] (p8 dv tF ((l.at':Int)+1) l.ah++[.box sT [.int .i64 0,.string ByteArray.empty,.int .i64 0,.int .i64 0,.int .i64 0] 256,.box nB [U,.int .i64 0] 183])) (bV [1,2,3,4]) ?_;refine ao (en (es:=p8 dv tF ((l.at':Int)+1) l.ah) (a7:=λI hw=>a7 I hw.dk.ei) (ab:=?_));rintro r pG es pO ⟨rfl,rfl⟩;obtain⟨fb,dQ,aK,e5,gd,dT⟩:=wC (je i l).2;rw[dT];refine aa ?_;refine cU λdS=>?_;refine bQ 0 ?_;refine cK rfl (λaW=>by rw[amk,ar]at aW;exact absurd rfl aW) λ_=>?_;refine aa ?_;refine fs (Mem [(w,an)] [.box dS (hv fb dQ aK e5 gd) 256,.box dv [tF,.int .i64 ((l.at':Int)+1)] 183]) [0,1,2,3,4] mixed (bV [0,1]) ?_;refine aP ?_;refine bL _ (h:=bD 4 (ab:=?_));refine aF (aP ?_) (bV [0,1]);refine bL _ (h:=bD 3 (ab:=?_));refine aF (aP ?_) (bV [0,1]);refine aa ?_;refine eR rfl (.dz rfl qE rfl (.dz rfl mh rfl (.t1 rfl))) _ [2] λI hw=>⟨tF,Ck,?_,rfl⟩;rw[dT,agH];rfl
end Go.Proofs.bK
namespace Go.bU
def Da(a b:cE):Int:=
 if a.aI= -1/\b.aI= -1 then Lib.compareBytes a.loc.data.toList b.loc.data.toList
 else if a.aI= -1 then 1 else if b.aI= -1 then -1 else if ¬a.aI=b.aI then a.aI-b.aI else a.bq-b.bq
end Go.bU
namespace Go.Proofs.bK
open Go Go.cc Go.bU Go.Proofs Go.RowKit Go.Sort Go.Shelf Go.Lib
set_option maxRecDepth 100000 in
theorem Wp(x y:cE)(hx:iu x)(aR:iu y)(W:World):Calls prog 148 #[.agg (ev x).toArray,.agg (ev y).toArray] W λe I=>e=.returned (.int .i64 (Da x y))/\∃q CN,I=grow (W.drewN q) CN:=by
 have zH:=λl3=>Any.strings_Compare abp x.loc y.loc l3;change ∀l3,Calls prog 233 _ _ _ at zH;have zZ:Hid (wrap64 (x.bq-y.bq)=x.bq-y.bq/\wrap64 (x.aI-y.aI)=x.aI-y.aI):=by
  have a:∀z,iu z-> -1<=z.aI/\z.aI<16/\0<=z.bq/\z.bq<32:=λz aY=>by rcases wk.1 aY with h | h<;>omega
  have:=a x hx;have:=a y aR;exact Lib.hid ⟨by unfold wrap64;omega,by unfold wrap64;omega⟩
 clear hx aR;obtain⟨sB,aiB,Mb⟩:=x;obtain⟨GS,aiF,Mc⟩:=y;unfold Da;dsimp only at zH⊢;generalize Lib.compareBytes Mb.data.toList Mc.data.toList=r at zH⊢;change Calls _ _ #[.agg #[.int .i64 sB,.int .i64 aiB,.string Mb],.agg #[.int .i64 GS,.int .i64 aiF,.string Mc]] W _;by_cases h1:sB= -1
 ·by_cases h2:GS= -1
  ·subst h1 h2
   go_enter func148,ntmps148
   go_wp2_with (go_at_call 233;refine(zH _).mono ?_;rintro e I ⟨rfl,rfl⟩)
   go_ret
   exact⟨rfl,0,_,by rw[alloc_eq_grow,alloc_eq_grow,grow_grow];rfl⟩
  rw[amn λq=>h2 q.2,amo h1];subst h1;clear zH
  go_enter func148,ntmps148
  go_wp2
  go_ret
  exact⟨rfl,0,_,by rw[alloc_eq_grow,alloc_eq_grow,grow_grow];rfl⟩
 rw[amn λq=>h1 q.1,amn h1];clear zH;by_cases h2:GS= -1
 ·rw[amo h2];subst h2
  go_enter func148,ntmps148
  go_wp2
  go_ret
  exact⟨rfl,0,_,by rw[alloc_eq_grow,alloc_eq_grow,grow_grow];rfl⟩
 rw[amn h2];by_cases h3:sB=GS
 ·rw[amn λq=>q h3];subst h3
  go_enter func148,ntmps148
  go_wp2
  go_ret
  exact⟨amC (λn=>Ending.returned (.int .i64 n)) zZ.out.1,0,_,by rw[alloc_eq_grow,alloc_eq_grow,grow_grow];rfl⟩
 rw[amo h3]
 go_enter func148,ntmps148
 go_wp2
 go_ret
 exact⟨amC (λn=>Ending.returned (.int .i64 n)) zZ.out.2,0,_,by rw[alloc_eq_grow,alloc_eq_grow,grow_grow];rfl⟩
set_option maxRecDepth 100000 in
theorem ahm(x y:b5)(hx: -1000<=x.A/\x.A<=1000/\ -1000<=x.B/\x.B<=1000)(aR: -1000<=y.A/\y.A<=1000/\ -1000<=y.B/\y.B<=1000)(W:World):Calls prog 78 #[.agg (bz x).toArray,.agg (bz y).toArray] W λe I=>e=.returned (.int .i64 (if ¬x.A=y.A then x.A-y.A else x.B-y.B))/\∃q CN,I=grow (W.drewN q) CN:=by
 have zZ:Hid (wrap64 (x.A-y.A)=x.A-y.A/\wrap64 (x.B-y.B)=x.B-y.B):=Lib.hid ⟨by unfold wrap64;omega,by unfold wrap64;omega⟩;clear hx aR;obtain⟨Ma,lZ⟩:=x;obtain⟨UL,aiC⟩:=y;dsimp only at zZ⊢;change Calls _ _ #[.agg #[.int .i64 Ma,.int .i64 lZ],.agg #[.int .i64 UL,.int .i64 aiC]] W _;by_cases h3:Ma=UL
 ·rw[amn λq=>q h3];subst h3
  go_enter func78,ntmps78
  go_wp2
  go_ret
  exact⟨amC (λn=>Ending.returned (.int .i64 n)) zZ.out.2,0,_,by rw[alloc_eq_grow,alloc_eq_grow,grow_grow];rfl⟩
 rw[amo h3]
 go_enter func78,ntmps78
 go_wp2
 go_ret
 exact⟨amC (λn=>Ending.returned (.int .i64 n)) zZ.out.1,0,_,by rw[alloc_eq_grow,alloc_eq_grow,grow_grow];rfl⟩
theorem ao5{aQ:Type}{enc:aQ->List Value}{sz:Nat}[he:ee enc sz]:∀(xs:List aQ) (i j:Nat) (x:aQ),xs[i]?=some x->j<sz->(xs.flatMap enc)[i* sz+j]?=(enc x)[j]?
 | [],i,j,x,h,_=>by simp at h
 | y::r,0,j,x,h,ad=>by rw[am0,Nat.zero_mul,aoO,amM (by rw[he.len];exact ad)];simp at h;rw[h]
 | y::r,i+1,j,x,h,ad=>by rw[am0,amL (by rw[he.len,aob];omega),he.len,show(i+1)* sz+j-sz=i* sz+j by rw[aob];omega];exact ao5 r i j x (by simpa using h) ad
theorem Oq{aQ:Type}[Inhabited aQ]{enc:aQ->List Value}{sz:Nat}[he:ee enc sz](xs:List aQ):flatK enc sz xs.toArray=(xs.flatMap enc).toArray:=by
 refine ext_get! (by rw[size_flatK,an2,an2,nJ]) λt aE=>?_;rw[size_flatK,an2]at aE;have hp:=he.pos;have h1:t / sz<xs.length:=Nat.div_lt_of_lt_mul (by rwa[Nat.mul_comm]at aE);have h2:t % sz<sz:=Nat.mod_lt _ hp;rw[get_flatK _ _ _ _ (by simpa using aE)];have h3:=ao5 (enc:=enc) xs (t / sz) (t % sz) xs[t / sz] (amp h1) h2;rw[Nat.mul_comm,Nat.div_add_mod]at h3;have aB:t<(xs.flatMap enc).length:=by rw[nJ];exact aE
 have r4:t % sz<(enc xs[t / sz]).length:=by rw[he.len];exact h2
 rw[amp aB,amp r4,aoc]at h3;rw[getElem!_pos xs.toArray _ (by simpa using h1),getElem!_pos (xs.flatMap enc).toArray t (by simpa using aB)];simp only[List.getElem_toArray];rw[h3];exact getElem!_pos (enc xs[t / sz]) (t % sz) r4
theorem Tz{P:Program}{fV:Shelf.Ren}(L:SlLaysF0.n6 P fV){aQ:Type}{enc:aQ->List Value}{sz tt:Nat}[he:ee enc sz](ok:aQ->Prop)(h1:∀x,∀v∈enc x,v.oneCell'=true) (Vn:∀w,(isAgg (fV.t 24)).run P w=.ok true w) (aiG:∀w,(Go.sizeOf (fV.t 24)).run P w=.ok sz w) (sX:aQ->aQ->Int) (lt:aQ->aQ->Bool) (dn:∀x y,ok x->ok y->decide (sX x y<0)=lt x y) (yv:∀x,ok x->lt x x=false) (cg:∀x y z,ok x->ok y->ok z->lt x y=true->lt y z=true->lt x z=true) (De:∀x y,ok x->ok y->lt x y=true\/x=y\/lt y x=true) (UI:aQ) (h0:ok UI) (g:Nat) (WY:∀args w,(callFunc g args).run P w=.ok (.enter g args) w) (Yp:∀x y W,ok x->ok y->Calls P g #[.agg (enc x).toArray,.agg (enc y).toArray] W λe I=>e=.returned (.int .i64 (sX x y))/\∃q CN,I=grow (W.drewN q) CN) (v:Value) (xs:List aQ) (w:World) (hx:xs.length<=100000) (hok:∀x,x∈xs->ok x) (hw:Mem [] [.own v tt sz enc xs] w): ph P (fV.f 6) [v,.func (.func g) #[] #[]] (.own v tt sz enc xs) w λ_ r e' _=>r=.tuple #[]/\∃ys,e'=.own v tt sz enc ys/\ys.Perm xs/\ys.Pairwise λa b=>lt b a=false:=by
 have hy:=hw.fw _ aL;obtain⟨aB,bm⟩:=hw.own _ aL;unfold ph;rcases bm with⟨rfl,wT⟩ | ⟨Eg,cap,cur,rfl,ay,eO,bh,hm,eh,gu⟩
 ·have:xs=[]:=amO wT;subst this;refine(AnyF.slices_SortFunc_none L none 0 _ w).mono ?_;rintro e I ⟨rfl,rfl⟩;unfold sJ;exact⟨_,_,rfl,⟨rfl,[],rfl,.refl _,.nil⟩,Af hw⟩
 have BY:Eg<w.heap.size:=hy Eg (by simp[aA.cX,Value.ownBlock])
 haveI:Inhabited {x // ok x}:=⟨⟨UI,h0⟩⟩
 let D0:{x // ok x}->List Value:=λa=>enc a.1
 haveI gX:ee D0 sz:=⟨λa=>he.len a.1,he.pos⟩
 let l:List {x // ok x}:=xs.attachWith ok hok
 have ja:l.length=xs.length:=by simp[l]
 have pA:l.map (·.1)=xs:=by simp[l]
 have vt:∀m:List {x // ok x},m.flatMap D0=(m.map (·.1)).flatMap enc:=λm=>by
  induction m with
  | nil=>rfl
  | cons a m bH=>rw[am0,am8,am0,bH]
 have zT:SWO (ltOf λa b:{x // ok x}=>sX a.1 b.1):=by
  have aZ:∀a b:{x // ok x},ltOf (λa b:{x // ok x}=>sX a.1 b.1) a b=lt a.1 b.1:=λa b=>dn a.1 b.1 a.2 b.2;refine⟨λa=>by rw[aZ];exact yv a.1 a.2,λa b c h1 h2=>by rw[aZ]at *;exact cg a.1 b.1 c.1 a.2 b.2 c.2 h1 h2,λa b c h1 h2=>?_⟩;rw[aZ]at *;refine amP.2 λh3=>?_;rcases De a.1 b.1 a.2 b.2 with q | q | q
  ·rw[q]at h1;cases h1
  ·rw[q,h2]at h3;cases h3
  have:=cg b.1 a.1 c.1 b.2 a.2 c.2 q h3;rw[this]at h2;cases h2
 have bp:∀a b:{x // ok x},ltOf (λa b:{x // ok x}=>sX a.1 b.1) a b=false->ltOf (λa b:{x // ok x}=>sX a.1 b.1) b a=false->a=b:=λa b h1 h2=>by
  have cb:=(dn a.1 b.1 a.2 b.2).symm.trans h1;have bF:=(dn b.1 a.1 b.2 a.2).symm.trans h2;rcases De a.1 b.1 a.2 b.2 with q | q | q
  ·rw[q]at cb;cases cb
  ·exact Subtype.ext q
  rw[q]at bF;cases bF
 have hH:HoldsK D0 sz w Eg 0 l.toArray:=by unfold HoldsK;rw[Oq,vt,pA];refine Po eO ?_;rw[List.map_id,nJ];exact gu
 have ct:=AnyQ.slices_SortFunc_total L sz Vn aiG D0 (λa=>he.len a.1) (λa=>h1 a.1) (λa b=>sX a.1 b.1) zT g #[] Eg 0 cap l.toArray w WY (λm os aiW ag a b=>Yp a.1 b.1 _ a.2 b.2) hH BY (by simp[ja];omega) bp;rw[an2,ja]at ct;refine ct.mono ?_;rintro e I ⟨rfl,n,os,rfl⟩;unfold sJ
 let ts:List {x // ok x}:=l.mergeSort λx y=>!(ltOf λa b:{x // ok x}=>sX a.1 b.1) y x
 have Ps:(ts.map (·.1)).Perm xs:=by have:=(aoe l λx y=>!(ltOf λa b:{x // ok x}=>sX a.1 b.1) y x).map (·.1);rwa[pA]at this
 refine⟨_,_,rfl,⟨rfl,ts.map (·.1),rfl,Ps,?_⟩,?_⟩
 ·rw[anz];refine anV ?_ (aol (le:=λx y=>!(ltOf λa b:{x // ok x}=>sX a.1 b.1) y x) (λa b c h1 h2=>by
   rw[amk]at *;exact zT.ntrans _ _ _ h2 h1) (λa b=>by
   rw[amr,amk,amk];by_cases q:ltOf (λa b:{x // ok x}=>sX a.1 b.1) b a=true
   ·right;refine amP.2 λbn=>?_;have:=zT.trans _ _ _ q bn;rw[zT.irrefl]at this;cases this
   left;exact amP.2 q) l)
  intro a b h;rw[amk]at h;exact(dn b.1 a.1 b.2 a.2).symm.trans h
 unfold sortWorldK putRowK;rw[Oq,vt];exact R2 (f:=id) (os:=os) (n:=n) hw Ps.length_eq (List.map_id _)
theorem acw{P:Program}{k:FuncId}{args:List Value}{e:aA}{w:World}{Ψ sC:Nat->Value->aA->World->Prop}(h:ph P k args e w Ψ)(hi:∀n v e' I,Ψ n v e' I->sC n v e' I):ph P k args e w sC:=by unfold ph at *;refine Calls.mono h λx I h=>?_;unfold sJ at *;obtain⟨v,e',h1,h2,h3⟩:=h;exact⟨v,e',h1,hi _ _ _ _ h2,h3⟩
theorem agt{x y:cE}(hx:iu x)(aR:iu y):decide (Da x y<0)=iv x y:=by
 have hb:∀a b:List UInt8,decide (Lib.compareBytes a b<0)=Op.bytesLess a b:=by
  intro a
  induction a with
  | nil=>intro b;cases b<;>simp[Lib.compareBytes,Op.bytesLess]
  | cons p a bH=>
   intro b;cases b with
   | nil=>simp[Lib.compareBytes,Op.bytesLess]
   | cons q b=>
    unfold Lib.compareBytes Op.bytesLess;rw[<-bH b];by_cases h1:p<q
    ·simp[h1]
    by_cases h2:q<p
    ·have:¬p=q:=λe=>by subst e;exact h1 h2
     simp[h1,h2,this]
    have:p=q:=UInt8.le_antisymm (UInt8.not_lt.1 h2) (UInt8.not_lt.1 h1);simp[h1,h2,this]
 unfold Da iv;by_cases h1:x.aI= -1
 ·by_cases h2:y.aI= -1
  ·rw[amo ⟨h1,h2⟩,amo (.inl h1),hb,amq h1,amq h2];unfold gT;rw[Dd,Dd];rfl
  rw[amn λq=>h2 q.2,amo h1,amo (.inl h1),amq h1,amy h2];rfl
 rw[amn λq=>h1 q.1,amn h1];by_cases h2:y.aI= -1
 ·rw[amo h2,amo (.inr h2),amy h1];rfl
 rw[amn h2,amn (show ¬(x.aI= -1\/y.aI= -1)from λq=>q.elim h1 h2)];by_cases h3:x.aI=y.aI
 ·rw[amn λq=>q h3,amo h3];exact am3.2 (by omega)
 rw[amo h3,amn h3];exact am3.2 (by omega)
theorem agq(v:Value)(xs:List cE)(w:World)(hx:xs.length<=100000)(hok:∀x,x∈xs->iu x)(hw:Mem [] [.own v 25 3 ev xs] w): ph prog 147 [v,.func (.func 148) #[] #[]] (.own v 25 3 ev xs) w λ_ r e' _=>r=.tuple #[]/\∃ys,e'=.own v 25 3 ev ys/\ys.Perm xs/\ys.Pairwise λa b=>iv b a=false:=
 Tz abw iu (λx v aw=>by simp[ev]at aw;rcases aw with rfl | rfl | rfl<;>rfl) (Tryz.isAgg25) (Tryz.sizeOf25) Da iv (λx y hx aR=>agt hx aR) (λx hx=>amP.2 (DF hx)) (λx y z hx aR aY h1 h2=>Bn hx aR aY h1 h2) (λx y hx aR=>G8 hx aR) ⟨0,0,a8⟩ (wk.2 (.inr ⟨by decide,by decide,by decide,by decide,rfl⟩)) 148 (enters_of func148 (by kernel_rfl) rfl) (λx y W hx aR=>Wp x y hx aR W) v xs w hx hok hw
def ao3(x:b5):Prop:= -1000<=x.A/\x.A<=1000/\ -1000<=x.B/\x.B<=1000
theorem ago(v:Value)(xs:List b5)(w:World)(hx:xs.length<=100000)(hok:∀x,x∈xs->ao3 x)(hw:Mem [] [.own v 178 2 bz xs] w): ph prog 77 [v,.func (.func 78) #[] #[]] (.own v 178 2 bz xs) w λ_ r e' _=>r=.tuple #[]/\∃ys,e'=.own v 178 2 bz ys/\ys.Perm xs/\ys.Pairwise λa b=>kI a b=true:=by
 refine acw (Tz abu ao3 (λx v aw=>by simp[bz]at aw;rcases aw with rfl | rfl<;>rfl) (Tryz.isAgg178) (Tryz.sizeOf178) (λx y=>if ¬x.A=y.A then x.A-y.A else x.B-y.B) (λx y=>!kI y x) (λx y hx aR=>?_) (λx hx=>?_) (λx y z hx aR aY h1 h2=>?_) (λx y hx aR=>?_) ⟨0,0⟩ (by unfold ao3;decide) 78 (enters_of func78 (by kernel_rfl) rfl) (λx y W hx aR=>ahm x y hx aR W) v xs w hx hok hw) λ_ r e' _ h=>?_
 ·unfold kI;rw[amN,amj,amk,amt,amx,amu,amu,amu];split<;>omega
 ·unfold kI;rw[amm,amr,ami,amj,amj,amj];omega
 ·unfold kI at *;rw[amk,amt,amx,amu,amu,amu]at *;omega
 ·unfold kI;rw[amk,amt,amx,amu,amu,amu,amk,amt,amx,amu,amu,amu];obtain⟨a,b⟩:=x;obtain⟨c,d⟩:=y;simp only[b5.mk.injEq];omega
 obtain⟨h1,ys,h2,h3,aC⟩:=h;exact⟨h1,ys,h2,h3,aC.imp λh=>by simpa using h⟩
end Go.Proofs.bK
