/- Lemmas for the law WholeSound. -/
import Derived.Sort.OwnSorted
import Derived.Sort.Walk0
import Derived.ProofKit
import Derived.Carry
import Derived.SizedLaws
import Derived.OpenShut
import Derived.Deep.Slices
import Derived.Lib.SmallJoins
import Derived.Test.YtiknadellddjhaaGreatDoorRows
import Derived.Test.YtiknadellddjhaaGreatDoorCards
import Derived.Test.YtiknadellddjhaaGreatDoorTie
import Derived.LaidMore
import Derived.Lay
import Derived.Stop.Joined
import Derived.SevenTiedAt
import Derived.Test.YtiknadellddjhaaGreatDoorS10
import Derived.Test.YtiknadellddjhaaGreatDoorS26
set_option linter.all false
open Go.Proofs.Tryz
open Go.Proofs.YtiknadellddjhaaGreatDoor
open Go Go.cc
namespace Go.bU
open Go Go.cc Go.Sort Go.Proofs
section
variable {tI aQ:Type} {f:tI->Value} {w:World} {g n:Nat} {os:Array Obj}
theorem Po[Inhabited tI]{cur:Array Value}{e:TypeId}{AT:List tI}(hb:w.heap[g]?=some (.cells cur e (0,0)))(aE:cur.toList.take AT.length=AT.map f):Holds f w g 0 AT.toArray:=by
 intro j ad;have qz:j<AT.length:=by simpa using ad
 refine⟨?_,by simp[World.frozen?,hb]⟩;have h1:(cur.toList.take AT.length)[j]?=(AT.map f)[j]?:=by rw[aE]
 rw[List.getElem?_take_of_lt qz]at h1;simp only[World.cell?,hb,aoO];simp only[Option.isSome_none,aov,aor];rw[<-aoy,h1];simp[qz]
theorem Yz[Inhabited tI]{cur:Array Value}{e:TypeId}{fr:Nat×Nat}(d:Array tI)(hb:w.heap[g]?=some (.cells cur e fr)): (grow (putRow f (Sort.ahead w n) g 0 d) os).heap[g]?=some (.cells (putCells f 0 d cur) e fr):=by have ay:g<w.heap.size:=(aot.1 hb).1;rw[heap_grow_old _ _ (by simpa using ay)];simp[putRow,mapBlock,Sort.ahead,Array.getElem?_modify,hb,onCells]
theorem XO[Inhabited tI](d:Array tI):w.grownBy (grow (putRow f (Sort.ahead w n) g 0 d) os) (some g):=by refine⟨rfl,rfl,rfl,by simp,λk hk dC=>?_⟩;rw[heap_grow_old _ _ (by simpa using hk)];have:g≠k:=λe=>dC (by rw[e]);simp[putRow,mapBlock,Sort.ahead,Array.getElem?_modify,this]
theorem agX[Inhabited tI](cur:Array Value)(ts:List tI)(h:ts.length<=cur.size):(putCells f 0 ts.toArray cur).toList.take ts.length=ts.map f:=by
 apply aof;intro j;by_cases ad:j<ts.length
 ·rw[List.getElem?_take_of_lt ad,aoy];simp[putCells,ad,show j<cur.size by omega]
 rw[List.getElem?_take_eq_none (by omega),amR (by simp;omega)]
theorem R2[Inhabited tI]{enc:aQ->List Value}{sz tt cap:Nat}[he:ee enc sz]{xs ys:List aQ}{ts:List tI}(hw:Mem [] [.own (.slice (some ⟨g,0,none⟩) xs.length cap) tt sz enc xs] w)(aB:ys.length=xs.length)(hf:ts.map f=ys.flatMap enc): Mem [(w,pR (.own (.slice (some ⟨g,0,none⟩) xs.length cap) tt sz enc xs))] [.own (.slice (some ⟨g,0,none⟩) xs.length cap) tt sz enc ys] (grow (putRow f (Sort.ahead w n) g 0 ts.toArray) os):=by
 have hy:=hw.fw _ aL;obtain⟨Pj,bm⟩:=hw.own _ aL;have ri:ts.length=xs.length* sz:=by have:=amC List.length hf;rwa[amD,nJ,aB]at this
 have ic:=XO (f:=f) (w:=w) (g:=g) (n:=n) (os:=os) ts.toArray;refine(Af hw).rC (i:=0) rfl ic.os ic.tape ic.output ic.size (λk hk dC=>ic.block k hk λe=>dC (by simp[aA.cX,Value.ownBlock];cases e;rfl)) ?_ (λk hk=>anH (hy k hk) ic.size) λk hk=>.inl hk;rcases bm with⟨h0,_⟩ | ⟨nd,DN,cur,aw,ay,eO,bh,hm,eh,gu⟩
 ·cases h0
 cases aw;refine⟨by rw[nJ],.inr ⟨g,cap,_,by rw[aB],ay,Yz _ eO,by rw[aB];exact bh,hm,by simp[putCells,eh],?_⟩⟩;rw[aB,<-ri,<-hf];exact agX cur ts (by rw[ri,eh];exact anh _ bh)
end
theorem Dd(s:ByteArray):s.toList=s.data.toList:=Lib.toList_data s
theorem Ou(xs:List ByteArray):xs.flatMap dV=xs.map Value.string:=by
 induction xs with
 | nil=>rfl
 | cons x xs bH=>rw[am0,bH];rfl
end Go.bU
namespace Go.Proofs.bK
open Go Go.cc Go.bU Go.Proofs Go.RowKit Go.Sort
def Ag(l:List UInt8):ByteArray:=⟨l.toArray⟩
theorem Rf(s:ByteArray):Ag s.data.toList=s:=by cases s;simp[Ag]
theorem agp(v:Value)(xs:List ByteArray)(w:World)(hx:xs.length<=100000)(hw:Mem [] [.own v 9 1 dV xs] w): ph prog 142 [v] (.own v 9 1 dV xs) w λ_ r e' _=>r=.tuple #[]/\∃ys:List ByteArray,e'=.own v 9 1 dV ys/\ys.Perm xs/\ys.Pairwise λa b=>gT b a=false:=by
 have hy:=hw.fw _ aL;obtain⟨aB,bm⟩:=hw.own _ aL;unfold ph;rcases bm with⟨rfl,h0⟩ | ⟨g,cap,cur,rfl,ay,eO,bh,hm,eh,gu⟩
 ·have:xs=[]:=amO h0;subst this;refine(Any.slices_Sort_string_none Qq none 0 w).mono ?_;rintro e I ⟨rfl,rfl⟩;unfold sJ;exact⟨_,_,rfl,⟨rfl,[],rfl,.refl _,.nil⟩,Af hw⟩
 have BY:g<w.heap.size:=hy g (by simp[aA.cX,Value.ownBlock]);have ZI:(xs.map λs=>s.data.toList).map encStr=xs.flatMap dV:=by rw[Ou,aoP];exact an0 λs _=>amC Value.string (Rf s)
 have bG:(xs.map λs=>s.data.toList).length=xs.length:=amD _;have Je:cur.toList.take (xs.map λs=>s.data.toList).length=(xs.map λs=>s.data.toList).map encStr:=by rw[ZI,<-gu,bG,Nat.mul_one]
 have ct:=Any.slices_Sort_string Qq g 0 cap (xs.map λs=>s.data.toList) w (Po eO Je) BY (by omega);rw[bG]at ct;refine ct.mono ?_;rintro e I ⟨rfl,n,os,rfl⟩;unfold sJ;have hf:((xs.map λs=>s.data.toList).mergeSort λx y=>decide (x<=y)).map encStr=(((xs.map λs=>s.data.toList).mergeSort λx y=>decide (x<=y)).map Ag).flatMap dV:=by rw[Ou,aoP];rfl
 refine⟨_,_,rfl,⟨rfl,_,rfl,?_,?_⟩,R2 (os:=os) (n:=n) hw ?_ hf⟩
 ·have:=(aoe (xs.map λs=>s.data.toList) λx y=>decide (x<=y)).map Ag;rw[aoP,show(Ag∘λs:ByteArray=>s.data.toList)=id from funext Rf,List.map_id]at this;exact this
 ·rw[anz];refine anV ?_ (aol (le:=λx y=>decide (x<=y)) (λa b c h1 h2=>by
   rw[amj]at *;exact List.le_trans h1 h2) (λa b=>by
   rw[amr,amj,amj];exact List.le_total a b) _)
  intro a b h;rw[amj]at h;unfold gT;rw[Dd,Dd,bytesLess_eq,amu];simp only[Ag];exact List.not_lt.2 h
 rw[amD,List.length_mergeSort,amD]
end Go.Proofs.bK
namespace Go.wy
open Go Go.ChangeShapes Go.WideShapes Go.ChangeAt Go.RowKit
section
variable {H:Type} {enc:TypeId×Value->H} {P:Program} {W l3:World}
theorem T8(aB:laidOutB P=true)(hb:Below W.heap.size W l3):∀(ts:List TypeId) {vs:List Value} {nG:List (DataW H)} {gD:List MemPlace},(∀t,t∈ts->P.readableRec t=true/\t<P.types.size)-> DataW.TrodAll enc P W 0 (λ_=>true) true ts vs nG gD->(∀x∈gD,x.block<W.heap.size)->DataW.TrodAll enc P l3 0 (λb=>decide (b<W.heap.size)) true ts vs nG gD
 | [],_,_,_,_,h,_=>by obtain⟨rfl,rfl,rfl⟩:=trodAll_nil h;exact trodAll_mk0
 | t::ts,_,_,_,aE,h,dn=>by
  obtain⟨v,alM,d,aiX,p,q,rfl,rfl,rfl,h1,h2⟩:=trodAll_cons h;exact trodAll_cons_mk (Below.trod aB (aE t aL).1 (aE t aL).2 h1 hb λx hx=>dn x (amE _ hx)) (T8 aB hb ts (λdt cr=>aE dt (.tail _ cr)) h2 λx hx=>dn x (anq _ hx))
theorem adt{f:Func}{s:ChangeSpec}{args:Array Value}{nG:List (DataW H)}{before:List MemPlace}{gx:TypeId}(aB:laidOutB P=true)(hp:∀t,t∈f.params.toList->P.readableRec t=true/\t<P.types.size) (P4:s.vars=[]) (ZA:f.resultTypes=#[gx]) (vB:P.underlying gx=some .bool) (wV:DataW.Whole enc P f.params.toList s.vars false W args.toList nG [] before) (Zt:(s.fn H (nG++[])).results=[.lit (.bool true)]) (Yf:(s.fn H (nG++[])).args=nG) (jR:(s.fn H (nG++[])).vars=[]) (hb:Below W.heap.size W l3):s.post enc P f false true false false W args (.bool true) l3:=by
 have Er:=wV;obtain⟨p,q,hA,zA,rfl,_,_⟩:=wV;rw[P4]at zA;obtain⟨_,rfl⟩:=trodVars_none zA;have dn:∀x∈p,x.block<W.heap.size:=λx hx=>Er.lt x (amE _ hx);refine⟨nG,[],p++[],[],p,[],Er,?_,?_,?_,hb.frame _,λh=>by cases h⟩
 ·rw[Zt,ZA];exact trodAll_mk1 (shut_bool vB true)
 ·rw[Yf];exact T8 aB hb _ hp hA dn
 rw[jR,P4];rfl
end
end Go.wy
namespace Go.wy
open Go Go.ChangeShapes Go.WideShapes Go.ChangeAt Go.RowKit Go.cc Go.Deep
section
variable {H:Type} {enc:TypeId×Value->H} {P:Program} {W:World}
abbrev xz(enc:TypeId×Value->H)(P:Program)(W:World)(n:Nat)(t:TypeId)(cs:List Value):Option (DataW H×List MemPlace):=DataW.trod enc P W 0 (λ_=>true) true n t cs
def Mh(enc:TypeId×Value->H)(P:Program)(W:World)(e:TypeId){aQ:Type}(iZ:aQ->List Value):Prop:=∀n cs y,xz enc P W n e cs=some y->∃x:aQ,cs=iZ x
theorem WZ{e:TypeId}(he:P.underlying e=some (.int .i64)):Mh enc P W e bd:=λn cs y h=>by obtain⟨m,rfl,_,_⟩:=DataW.trod_int he h;exact⟨m,rfl⟩
theorem VB{n fuel:Nat}{t e:TypeId}{k:IntKind}{cs:List Value}{sp:Nat->Bool}{held:Bool}{zs:List Int}{gD:List MemPlace}(aE:P.underlying t=some (.array n e))(he:P.underlying e=some (.int k))(ai:P.cellsOf e=1) (h:DataW.trod enc P W 0 sp held fuel t cs=some (.agg (zs.map λ(z:Int)=>(DataW.lit (Lit.int k z):DataW H)),gD)):∀(i:Nat) (z:Int),zs[i]?=some z->cs[i]?=some (Value.int k z):=by
 obtain⟨xs,m,rfl,hx,aB,bh,lk⟩:=DataW.trod_array aE h;simp only[Prod.mk.injEq,DataW.agg.injEq]at hx;intro i z aY;have bG:zs.length=xs.length:=by have:=amC List.length hx.1;simpa using this
 have hi:i<zs.length:=(amV.1 aY).1;have h1:=lk i (by omega);rw[ai,Nat.mul_one,amp (by omega)]at h1;obtain⟨q,h2,h3,_⟩:=DataW.trod_int he h1;have aC:=amC (λl=>l[i]?) hx.1;simp only[amZ,aY,aoq,amp (show i<xs.length by omega),h3,aoc,DataW.lit.injEq,Lit.int.injEq,true_and]at aC;subst aC;have aW:=amC (λl=>l[0]?) h2;simpa using aW
theorem W0(g n i:Nat):gI (u6 g n) 1 i 0=⟨g,i,none⟩:=by
 rcases Nat.eq_zero_or_pos i with rfl | hi
 ·simp[gI,u6,Addr.add]
 simp[gI,u6,Addr.add];omega
theorem agV{n g fuel:Nat}{t e:TypeId}{FJ:String}{cs:Array Value}{sp:Nat->Bool}{held:Bool}{zs:List Nat}{gD:List MemPlace}(aE:P.underlying t=some (.array n e))(he:P.underlying e=some (.int .u8))(ai:P.cellsOf e=1)(bh:zs.length=n)(hm:n<=4096) (ay:P.globalNamed FJ=some g) (aw:W.var? P FJ=some cs) (h:DataW.trod enc P W 0 sp held fuel t cs.toList=some (.agg (zs.map λ(z:Nat)=>(DataW.lit (Lit.int .u8 (z:Int)):DataW H)),gD)):aV an W zr 1 (u6 g n) zs:=by
 have cr:DataW.trod enc P W 0 sp held fuel t cs.toList=some (.agg ((zs.map λ(z:Nat)=>(z:Int)).map λ(z:Int)=>(DataW.lit (Lit.int .u8 z):DataW H)),gD):=by rw[h,aoP];rfl
 refine⟨⟨some ⟨g,0,none⟩,n,n,rfl,bh.symm,amK _,by unfold maxLen;omega,λ_=>rfl⟩,λi x j u hi ad=>?_,λ_ _ _ _ _=>trivial⟩;have h1:=VB aE he ai cr i x (by rw[amZ,hi];rfl);rcases j with _ | j
 ·simp[zr]at ad;subst ad;have h2:=World.var?_cell ay aw i;rw[show gI (u6 g n) 1 i 0=⟨g,i,none⟩from by rw[W0],h2];simpa using h1
 simp[zr]at ad
end
section
variable {H:Type} {enc:TypeId×Value->H} {P:Program} {W:World}
def n9(enc:TypeId×Value->H)(P:Program)(W:World)(t:TypeId)(Φ:List Value->Prop):Prop:=∀n cs y,xz enc P W n t cs=some y->(∀k,k∈y.1.weights P t->k<=reachBytes)->Φ cs
theorem qf{t:TypeId}(aE:P.underlying t=some (.int .i64)):n9 enc P W t λcs=>∃n:Int,cs=[.int .i64 n]/\ -9223372036854775808<=n/\n<=9223372036854775807:=λn cs y h _=>by obtain⟨m,rfl,_,hw⟩:=DataW.trod_int aE h;simp only[Lit.wf,ami,amj]at hw;have h1:IntKind.i64.min= -9223372036854775808:=rfl;have h2:IntKind.i64.max=9223372036854775807:=rfl;exact⟨m,rfl,by omega,by omega⟩
theorem yK{t:TypeId}(aE:P.underlying t=some .string):n9 enc P W t λcs=>∃s:ByteArray,cs=[.string s]/\s.size<=140737488351232:=λn cs y h hw=>by obtain⟨s,rfl,hx,_⟩:=DataW.trod_string aE h;refine⟨s,rfl,?_⟩;have:=hw s.data.toList.length (by rw[hx];simp[DataW.weights]);simp only[reachBytes,aop]at this;exact this
def Bd(enc:TypeId×Value->H)(P:Program)(W:World)(e:TypeId){aQ:Type}(iZ:aQ->List Value)(Ψ:aQ->Prop):Prop:=n9 enc P W e λcs=>∃x:aQ,cs=iZ x/\Ψ x
theorem L1{e:TypeId}:∀{nG:List (DataW H)} {d:DataW H},d∈nG->∀k,k∈d.weights P e->k∈DataW.weightsAll P e nG
 | d0::nG,d,hd,k,hk=>by
  simp only[DataW.weightsAll,amA];rcases amG.1 hd with rfl | hd
  ·exact .inl hk
  exact .inr (L1 hd k hk)
theorem FT{aQ:Type}{iZ:aQ->List Value}{Ψ:aQ->Prop}{sz:Nat}{t e:TypeId}(aE:P.underlying t=some (.slice e))(ai:P.cellsOf e=sz)(lk:Bd enc P W e iZ Ψ): n9 enc P W t λcs=>∃v xs,cs=[v]/\aV an W iZ sz v xs/\xs.length* P.bytesOf e<=140737488351232/\∀x,x∈xs->Ψ x:=λfuel cs x h hw=>by
 rcases open_slice aE h with⟨rfl,rfl⟩ | ⟨a,len,cap,m,n,D,U8,rfl,hb,aB,hm,j2,rfl,hx⟩
 ·exact⟨_,[],rfl,⟨⟨none,0,0,rfl,rfl,amK _,amz _,λh=>absurd h (by omega)⟩,λi x j u hi=>by simp at hi,λ_ _ _ _ _=>trivial⟩,by simp,λx hx=>by cases hx⟩
 have tg:m=cap:=by simpa using j2
 subst tg;rw[ai]at hx;simp only[DataW.weights,aE,amG,amA]at hw;have each:∀k,k<=len->∃xs:List aQ,xs.length=k/\(∀i x,xs[i]?=some x->W.cells? 0 (a.add (i* sz)) sz=some (iZ x))/\∀x,x∈xs->Ψ x:=by
  intro k
  induction k with
  | zero=>exact λ_=>⟨[],rfl,λi x hi=>by simp at hi,λx hx=>by cases hx⟩
  | succ k bH=>
   intro hk;obtain⟨xs,bG,bS,ew⟩:=bH (by omega);obtain⟨pt,h1,h2⟩:=hx k (by omega);obtain⟨y,rfl,aR⟩:=lk _ _ _ h2 λq aZ=>hw q (.inr (.inl (L1 (am1.2 ⟨k,amH.2 (by omega),rfl⟩) q aZ)));refine⟨xs++[y],by simp[bG],λi x hi=>?_,λx hx=>?_⟩
   ·by_cases nO:i<xs.length
    ·rw[amM nO]at hi;exact bS i x hi
    rw[amL (by omega)]at hi;by_cases h0:i-xs.length=0
    ·rw[h0]at hi;obtain rfl:y=x:=by simpa using hi
     obtain rfl:i=k:=by omega
     exact h1
    rw[amR (by simp;omega)]at hi;cases hi
   rw[amA,amv]at hx;rcases hx with hx | rfl
   ·exact ew x hx
   exact aR
 obtain⟨xs,bG,bS,ew⟩:=each len (amK _);refine⟨_,xs,rfl,⟨⟨some a,len,m,rfl,bG.symm,aB,hm,λ_=>rfl⟩,λi x j u hi ad=>?_,λ_ _ _ _ _=>trivial⟩,?_,ew⟩
 ·obtain⟨_,h2,h3⟩:=World.cells?_some (bS i x hi);have fZ:j<sz:=by
   rcases amY j sz with cr | cr
   ·exact cr
   rw[amR (by omega)]at ad;cases ad
  rw[<-ad];exact h3 j fZ
 have:=hw _ (.inl rfl);simp only[amD,aoD,reachBytes]at this;exact ani (anh _ (by omega)) this
def xu:List (List Value->Prop)->List Value->Prop
 | [],cs=>cs=[]
 | Φ::n4,cs=>∃c pt,cs=c++pt/\Φ c/\xu n4 pt
def vb(P:Program):List Field->Nat->Nat->Bool
 | [],o,n=>o==n
 | f::fG,o,n=>f.offset==o&&vb P fG (o+P.cellsOf f.type) n
inductive Bf(enc:TypeId×Value->H)(P:Program)(W:World):List Field->List (List Value->Prop)->Prop where
 | nil:Bf enc P W [] []
 | cons {f:Field} {Φ:List Value->Prop} {fG:List Field} {n4:List (List Value->Prop)}:n9 enc P W f.type Φ->Bf enc P W fG n4->Bf enc P W (f::fG) (Φ::n4)
theorem Ng{n:Nat}{cs:List Value}:∀{fG:List Field} {n4:List (List Value->Prop)} {o:Nat} {xs:List (DataW H×List MemPlace)},Bf enc P W fG n4->vb P fG o cs.length=true-> (∀(i:Nat) (f:Field),fG[i]?=some f->xz enc P W n f.type ((cs.drop f.offset).take (P.cellsOf f.type))=xs[i]?)->xs.length=fG.length-> (∀k,k∈DataW.weightsEach P (fG.map (·.type)) (xs.map (·.1))->k<=reachBytes)->xu n4 (cs.drop o)
 | _,_,o,xs,.nil,ai,_,_,_=>by simp only[vb,an1]at ai;simp only[xu];rw[an9 (by omega)]
 | f::fG,_,o,xs,.cons (Φ:=Φ) h1 h2,ai,aH,aB,hw=>by
  match xs,aB with
  | x::xs,aB=>simp only[vb,ami,an1]at ai;obtain⟨rfl,ai⟩:=ai;simp only[am8,DataW.weightsEach,amA]at hw;have h0:xz enc P W n f.type ((cs.drop f.offset).take (P.cellsOf f.type))=some x:=aH 0 f rfl;refine⟨_,cs.drop (f.offset+P.cellsOf f.type),?_,h1 _ _ _ h0 λk hk=>hw k (.inl hk),Ng h2 ai (λi HH Iu=>aH (i+1) HH Iu) (by simpa using aB) λk hk=>hw k (.inr hk)⟩;rw[<-List.drop_drop,List.take_append_drop]
theorem Ao{t:TypeId}{fG:Array Field}{n4:List (List Value->Prop)}(aE:P.underlying t=some (.struct fG))(ai:vb P fG.toList 0 (P.cellsOf t)=true)(bm:Bf enc P W fG.toList n4):n9 enc P W t (xu n4):=λfuel cs x h hw=>by obtain⟨xs,n,_,rfl,aB,bG,hf⟩:=DataW.trod_struct aE h;simp only[DataW.weights,aE]at hw;have:=Ng (o:=0) (xs:=xs) bm (by rw[aB];exact ai) (λi f hi=>hf i f (by rw[<-aoy];exact hi)) (by rw[bG];simp) hw;simpa using this
theorem acP{aQ:Type}{e:TypeId}{iZ:aQ->List Value}(h:Mh enc P W e iZ):Bd enc P W e iZ λ_=>True:=λn cs y aH _=>by obtain⟨x,hx⟩:=h n cs y aH;exact⟨x,hx,trivial⟩
theorem n9.mono{t:TypeId}{Φ Ψ:List Value->Prop}(h:n9 enc P W t Φ)(hi:∀cs,Φ cs->Ψ cs):n9 enc P W t Ψ:=λn cs y aH hw=>hi cs (h n cs y aH hw)
theorem TQ{ts:List TypeId}{nG:List (DataW H)}(h:(DataW.weightsEach P ts nG).all (· <=reachBytes)=true){j:Nat}{t:TypeId}{d:DataW H}(aE:ts[j]?=some t)(hd:nG[j]?=some d):∀k,k∈d.weights P t->k<=reachBytes:=λk hk=>by have:=ank.1 h _ (DataW.weights_mem_each aE hd k hk);simpa using this
theorem Vy{r:Reach}{b0:Nat}{t:TypeId}{v:Value}{d:DataW H}{p:List MemPlace}{Φ:List Value->Prop}(ag:∃cs,v=.agg cs)(h:DataW.Trod enc P W 0 (λ_=>true) true t v d p)(eh:∀k,k∈d.weights P t->k<=reachBytes)(bm:n9 enc P W t Φ): ∃cs,v=.agg cs.toArray/\Φ cs:=by obtain⟨cs,rfl⟩:=ag;obtain⟨fuel,hf⟩:=h;exact⟨cs.toList,by simp,bm _ _ _ hf eh⟩
theorem VA{r:Reach}{b0:Nat}{t:TypeId}{fG:Array Field}{v:Value}{d:DataW H}{p:List MemPlace}{Φ:List Value->Prop}(ag:P.underlying t=some (.struct fG))(aw:Value.okWide P W r b0 t v)(h:DataW.Trod enc P W 0 (λ_=>true) true t v d p)(eh:∀k,k∈d.weights P t->k<=reachBytes)(bm:n9 enc P W t Φ): ∃cs,v=.agg cs.toArray/\Φ cs:=by obtain⟨cs,fC,_⟩:=okWide_struct ag aw;exact Vy (r:=r) (b0:=b0) ⟨cs,fC⟩ h eh bm
theorem Vz{t:TypeId}{v:Value}{d:DataW H}{p:List MemPlace}{Φ:List Value->Prop}(aw:v.cells=#[v])(h:DataW.Trod enc P W 0 (λ_=>true) true t v d p)(eh:∀k,k∈d.weights P t->k<=reachBytes)(bm:n9 enc P W t Φ):Φ [v]:=by obtain⟨fuel,hf⟩:=h;rw[aw]at hf;exact bm _ _ _ hf eh
theorem V8{r:Reach}{b0:Nat}{t e:TypeId}{v:Value}(aE:P.underlying t=some (.slice e))(aw:Value.okWide P W r b0 t v):v.cells=#[v]:=by obtain⟨_,_,_,rfl⟩:=okWide_slice aE aw;rfl
end
end Go.wy
namespace Go.Proofs.bK
open Go Go.cc Go.gH Go.wy Go.ChangeShapes Go.WideShapes Go.ChangeAt Go.RowKit Go.Joins
theorem own:ownKnob prog.godebug=none:=by kernel_rfl
theorem laidOut:laidOutB prog=true:=by kernel_rfl
abbrev yA:List (String×DataW Unit):=[("math/bits.deBruijn64tab",Rows.laid_math_bits_deBruijn64tab),("unicode/utf8.acceptRanges",Rows.laid_unicode_utf8_acceptRanges),("unicode/utf8.first",Rows.laid_unicode_utf8_first)]
theorem XK:prog.globalNamed "math/bits.deBruijn64tab" =some 3:=by kernel_rfl
theorem agS:(prog.globals[3]?).map (·.type)=some 424:=by kernel_rfl
theorem WT(os:Os)(args:Array Value):laidMetH prog yA ((World.laidAll prog os yA).forCall (λ_ _=>0) ⟨#[],args,[]⟩).memory:=by rw[MakeChecks.laidMetH_plain _ _ _ (by kernel_rfl)];exact laidMet_laidAll _ (by kernel_rfl) (by kernel_rfl)
theorem agU{W:World}(h:laidMetH prog yA W):lg W:=by rw[MakeChecks.laidMetH_plain _ _ _ (by kernel_rfl)]at h;obtain⟨gD,⟨g0,t0,aiU,f0,ac6,q0,Pa,ZN,E1,Ys,_,_⟩,_,_⟩:=h;obtain rfl:=Option.some.inj (XK.symm.trans Pa);obtain rfl:=Option.some.inj (agS.symm.trans ZN);exact agV (zs:=Lib.deBruijn64tab) underlying424 underlying5 (by kernel_rfl) rfl (by decide) Pa E1 Ys
end Go.Proofs.bK
namespace Go.wy
open Go Go.ChangeShapes Go.WideShapes Go.ChangeAt Go.RowKit Go.cc Go.Deep
section
variable {H:Type} {enc:TypeId×Value->H} {P:Program} {W:World}
def tK(s:Nat)(enc:TypeId×Value->H)(P:Program)(W:World)(t:TypeId)(Φ:List Value->Prop):Prop:=∀n cs y,SizeOf.sizeOf y.1<s->xz enc P W n t cs=some y->(∀k,k∈y.1.weights P t->k<=reachBytes)->Φ cs
theorem n9.s{t:TypeId}{Φ:List Value->Prop}(h:n9 enc P W t Φ)(s:Nat):tK s enc P W t Φ:=λn cs y _=>h n cs y
theorem acS{aQ:Type}{iZ:aQ->List Value}{Ψ:aQ->Prop}{sz s:Nat}{t e:TypeId}(aE:P.underlying t=some (.slice e))(ai:P.cellsOf e=sz)(lk:tK s enc P W e λcs=>∃x:aQ,cs=iZ x/\Ψ x): tK s enc P W t λcs=>∃v xs,cs=[v]/\aV an W iZ sz v xs/\∀x,x∈xs->Ψ x:=λfuel cs x ag h hw=>by
 rcases open_slice aE h with⟨rfl,rfl⟩ | ⟨a,len,cap,m,n,D,U8,rfl,hb,aB,hm,j2,rfl,hx⟩
 ·exact⟨_,[],rfl,⟨⟨none,0,0,rfl,rfl,amK _,amz _,λh=>absurd h (by omega)⟩,λi x j u hi=>by simp at hi,λ_ _ _ _ _=>trivial⟩,λx hx=>by cases hx⟩
 have tg:m=cap:=by simpa using j2
 subst tg;rw[ai]at hx;simp only[DataW.weights,aE,amG,amA]at hw;have each:∀k,k<=len->∃xs:List aQ,xs.length=k/\(∀i x,xs[i]?=some x->W.cells? 0 (a.add (i* sz)) sz=some (iZ x))/\∀x,x∈xs->Ψ x:=by
  intro k
  induction k with
  | zero=>exact λ_=>⟨[],rfl,λi x hi=>by simp at hi,λx hx=>by cases hx⟩
  | succ k bH=>
   intro hk;obtain⟨xs,bG,bS,ew⟩:=bH (by omega);obtain⟨pt,h1,h2⟩:=hx k (by omega);have hmem:D k∈(List.range len).map D:=am1.2 ⟨k,amH.2 (by omega),rfl⟩;obtain⟨y,rfl,aR⟩:=lk _ _ _ (by have h3:=List.sizeOf_lt_of_mem hmem;simp only[DataW.slice.sizeOf_spec]at ag;dsimp only;omega) h2 λq aZ=>hw q (.inr (.inl (L1 hmem q aZ)))
   refine⟨xs++[y],by simp[bG],λi x hi=>?_,λx hx=>?_⟩
   ·by_cases nO:i<xs.length
    ·rw[amM nO]at hi;exact bS i x hi
    rw[amL (by omega)]at hi;by_cases h0:i-xs.length=0
    ·rw[h0]at hi;obtain rfl:y=x:=by simpa using hi
     obtain rfl:i=k:=by omega
     exact h1
    rw[amR (by simp;omega)]at hi;cases hi
   rw[amA,amv]at hx;rcases hx with hx | rfl
   ·exact ew x hx
   exact aR
 obtain⟨xs,bG,bS,ew⟩:=each len (amK _);refine⟨_,xs,rfl,⟨⟨some a,len,m,rfl,bG.symm,aB,hm,λ_=>rfl⟩,λi x j u hi ad=>?_,λ_ _ _ _ _=>trivial⟩,ew⟩;obtain⟨_,h2,h3⟩:=World.cells?_some (bS i x hi);have fZ:j<sz:=by
  rcases amY j sz with cr | cr
  ·exact cr
  rw[amR (by omega)]at ad;cases ad
 rw[<-ad];exact h3 j fZ
inductive Bg(s:Nat)(enc:TypeId×Value->H)(P:Program)(W:World):List Field->List (List Value->Prop)->Prop where
 | nil:Bg s enc P W [] []
 | cons {f:Field} {Φ:List Value->Prop} {fG:List Field} {n4:List (List Value->Prop)}:tK s enc P W f.type Φ->Bg s enc P W fG n4->Bg s enc P W (f::fG) (Φ::n4)
theorem Nh{n s:Nat}{cs:List Value}:∀{fG:List Field} {n4:List (List Value->Prop)} {o:Nat} {xs:List (DataW H×List MemPlace)},Bg s enc P W fG n4->vb P fG o cs.length=true-> (∀(i:Nat) (f:Field),fG[i]?=some f->xz enc P W n f.type ((cs.drop f.offset).take (P.cellsOf f.type))=xs[i]?)->xs.length=fG.length->(∀x,x∈xs->SizeOf.sizeOf x.1<s)-> (∀k,k∈DataW.weightsEach P (fG.map (·.type)) (xs.map (·.1))->k<=reachBytes)->xu n4 (cs.drop o)
 | _,_,o,xs,.nil,ai,_,_,_,_=>by simp only[vb,an1]at ai;simp only[xu];rw[an9 (by omega)]
 | f::fG,_,o,xs,.cons (Φ:=Φ) h1 h2,ai,aH,aB,ag,hw=>by
  match xs,aB with
  | x::xs,aB=>simp only[vb,ami,an1]at ai;obtain⟨rfl,ai⟩:=ai;simp only[am8,DataW.weightsEach,amA]at hw;have h0:xz enc P W n f.type ((cs.drop f.offset).take (P.cellsOf f.type))=some x:=aH 0 f rfl;refine⟨_,cs.drop (f.offset+P.cellsOf f.type),?_,h1 _ _ _ (ag x aL) h0 λk hk=>hw k (.inl hk),Nh h2 ai (λi HH Iu=>aH (i+1) HH Iu) (by simpa using aB) (λy aR=>ag y (.tail _ aR)) λk hk=>hw k (.inr hk)⟩;rw[<-List.drop_drop,List.take_append_drop]
theorem acT{s:Nat}{t:TypeId}{fG:Array Field}{n4:List (List Value->Prop)}(aE:P.underlying t=some (.struct fG))(ai:vb P fG.toList 0 (P.cellsOf t)=true)(bm:Bg s enc P W fG.toList n4):tK (s+1) enc P W t (xu n4):=λfuel cs x ag h hw=>by
 obtain⟨xs,n,_,rfl,aB,bG,hf⟩:=DataW.trod_struct aE h;simp only[DataW.weights,aE]at hw;have:=Nh (o:=0) (xs:=xs) bm (by rw[aB];exact ai) (λi f hi=>hf i f (by rw[<-aoy];exact hi)) (by rw[bG];simp) (λx hx=>by have h3:=List.sizeOf_lt_of_mem (am1.2 ⟨x,hx,rfl⟩:x.1∈xs.map (·.1));simp only[DataW.agg.sizeOf_spec]at ag;omega) hw
 simpa using this
theorem acR{t:TypeId}{Φ:List Value->Prop}(h:∀s,tK s enc P W t Φ):n9 enc P W t Φ:=λn cs y aH hw=>h (SizeOf.sizeOf y.1+1) n cs y (anF _) aH hw
theorem tK.mono{s:Nat}{t:TypeId}{Φ Ψ:List Value->Prop}(h:tK s enc P W t Φ)(hi:∀cs,Φ cs->Ψ cs):tK s enc P W t Ψ:=λn cs y ag aH hw=>hi cs (h n cs y ag aH hw)
end
end Go.wy
namespace Go.bU
theorem SQ{S:Nat->Prop}{W:World}:∀(vs:List Value),(∀v,v∈vs->∃xs,aV S W cC 8 v xs)->∃c:List (List Instr),vs.length=c.length/\∀i,i<vs.length->aV S W cC 8 (vs.getD i default) (c.getD i default)
 | [],_=>⟨[],rfl,λi hi=>absurd hi (anp _)⟩
 | v::vs,h=>by
  obtain⟨c,h1,h2⟩:=SQ vs λx hx=>h x (.tail _ hx);obtain⟨x,hx⟩:=h v aL;refine⟨x::c,by simp[h1],λi hi=>?_⟩;cases i with
  | zero=>exact hx
  | succ i=>exact h2 i (by simpa using hi)
theorem Qg{S:Nat->Prop}{W:World}:∀(c9:List lI),(∀x,x∈c9->∃m:eU,x.kind=m.kind/\x.e3=m.e3/\x.value=m.value/\kP S W m x.kids)->∃l:List eU,kO S W l c9
 | [],_=>⟨[],by unfold kO;rfl⟩
 | x::c9,h=>by obtain⟨l,aB⟩:=Qg c9 λy aR=>h y (.tail _ aR);obtain⟨m,h1,h2,h3,aC⟩:=h x aL;exact⟨m::l,by unfold kO;exact⟨x,c9,rfl,h1,h2,h3,aC,aB⟩⟩
end Go.bU
namespace Go.Proofs.bK
open Go Go.cc Go.bU Go.wy Go.ChangeShapes Go.WideShapes Go.ChangeAt Go.RowKit
section
variable {H:Type} {enc:TypeId×Value->H} {W:World}
def Mm(W:World)(cs:List Value):Prop:=∃x:lI,cs=gR x/\∃m:eU,x.kind=m.kind/\x.e3=m.e3/\x.value=m.value/\kP an W m x.kids
theorem Rw:∀s,tK s enc prog W 28 (Mm W)
 | 0=>λ_ _ _ h=>absurd h (anp _)
 | s+1=>by have hk:=acS (iZ:=gR) (sz:=6) underlying26 (by kernel_rfl) (Rw s);have aE:n9 enc prog W 25 _:=Ao underlying25 (by kernel_rfl) (.cons (qf underlying3) (.cons (qf underlying3) (.cons (yK underlying9) .nil)));refine(acT underlying28 (by kernel_rfl) (.cons ((qf underlying3).s s) (.cons (aE.s s) (.cons ((qf underlying3).s s) (.cons hk .nil))))).mono ?_;rintro cs ⟨_,_,rfl,⟨k,rfl,-⟩,_,_,rfl,⟨_,_,rfl,⟨a,rfl,-⟩,_,_,rfl,⟨b,rfl,-⟩,_,_,rfl,⟨c,rfl,-⟩,rfl⟩,_,_,rfl,⟨v,rfl,-⟩,_,_,rfl,⟨ak,c9,rfl,h1,h2⟩,rfl⟩;obtain⟨l,aB⟩:=Qg c9 h2;exact⟨⟨k,⟨a,b,c⟩,v,ak⟩,rfl,.mk k ⟨a,b,c⟩ v l,rfl,rfl,rfl,by unfold kP;exact⟨c9,h1,aB⟩⟩
theorem acQ:n9 enc prog W 28 (Mm W):=acR Rw
theorem W4:Bd enc prog W 169 cC λ_=>True:=
 (Ao underlying169 (by kernel_rfl) (.cons (qf underlying3) (.cons (qf underlying3) (.cons (qf underlying3) (.cons (qf underlying3) (.cons (qf underlying3) (.cons (yK underlying9) (.cons (yK underlying9) (.cons (qf underlying3) .nil))))))))).mono (by rintro cs ⟨_,_,rfl,⟨a,rfl,-⟩,_,_,rfl,⟨b,rfl,-⟩,_,_,rfl,⟨c,rfl,-⟩,_,_,rfl,⟨d,rfl,-⟩,_,_,rfl,⟨e,rfl,-⟩,_,_,rfl,⟨f,rfl,-⟩,_,_,rfl,⟨g,rfl,-⟩,_,_,rfl,⟨h,rfl,-⟩,rfl⟩;exact⟨⟨a,b,c,d,e,f,g,h⟩,rfl,trivial⟩)
theorem W3:Bd enc prog W 72 oO λ_=>True:=
 (Ao underlying72 (by kernel_rfl) (.cons (qf underlying3) (.cons (qf underlying3) (.cons (yK underlying9) (.cons (Ao underlying70 (by kernel_rfl) (.cons (yK underlying9) (.cons (qf underlying3) .nil))) .nil))))).mono (by rintro cs ⟨_,_,rfl,⟨a,rfl,-⟩,_,_,rfl,⟨b,rfl,-⟩,_,_,rfl,⟨c,rfl,-⟩,_,_,rfl,⟨_,_,rfl,⟨d,rfl,-⟩,_,_,rfl,⟨e,rfl,-⟩,rfl⟩,rfl⟩;exact⟨⟨a,b,c,⟨d,e⟩⟩,rfl,trivial⟩)
theorem W2:Bd enc prog W 167 cD λv=>∃xs,aV an W cC 8 v xs:=
 (FT (iZ:=cC) (sz:=8) underlying167 (by kernel_rfl) W4).mono (by rintro cs ⟨v,xs,rfl,h1,-,-⟩;exact⟨v,rfl,xs,h1⟩)
theorem acU:n9 enc prog W 32 λcs=>∃aj ae ak vs t,cs=cQ t aj ae ak/\gz an W aj ae ak vs t:=
 (Ao underlying32 (by kernel_rfl) (.cons (qf underlying3) (.cons (yK underlying9) (.cons (yK underlying9) (.cons (FT (iZ:=oO) (sz:=5) underlying22 (by kernel_rfl) W3) (.cons (FT (iZ:=cD) (sz:=1) underlying23 (by kernel_rfl) W2) (.cons (Ao underlying30 (by kernel_rfl) (.cons (qf underlying3) (.cons acQ .nil))) .nil))))))).mono (by rintro cs ⟨_,_,rfl,⟨a,rfl,-⟩,_,_,rfl,⟨FJ,rfl,-⟩,_,_,rfl,⟨WL,rfl,-⟩,_,_,rfl,⟨aj,i,rfl,h1,-,-⟩,_,_,rfl,⟨ae,vs,rfl,h2,-,h3⟩,_,_,rfl,⟨_,_,rfl,⟨q,rfl,-⟩,_,_,rfl,⟨⟨amg,sB,Dr,ak⟩,rfl,m,bC,cd,hY,aC⟩,rfl⟩,rfl⟩;obtain⟨c,aW,cM⟩:=SQ vs h3;dsimp only at bC cd hY aC;subst bC cd hY;exact⟨aj,ae,ak,vs,⟨a,FJ,WL,i,c,q,m⟩,rfl,h1,h2,aW,cM,aC⟩)
end
end Go.Proofs.bK
