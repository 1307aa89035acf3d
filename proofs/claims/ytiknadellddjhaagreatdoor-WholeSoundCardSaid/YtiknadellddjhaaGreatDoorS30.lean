/- Lemmas for the law WholeSound. -/
import Derived.Test.YtiknadellddjhaaGreatDoorS26
set_option linter.all false
open Go.Proofs.Tryz
set_option maxHeartbeats 6400000
open Go Go.cc Go.bU
namespace Go.bU
def jk(x:BitVec 64):List Value:=[u64 x,u64 0#64,u64 0#64,u64 0#64]
theorem VZ(x:BitVec 64)(i:Nat)(hi:i<64):bO (x>>>i&&& 1#64=1#64)=x.getLsbD i:=by
 rw[ch,amN,amj];constructor
 ·intro h;have:=amC (λz=>z.getLsbD 0) h;simpa using this
 intro h;apply an5;intro j ad;rw[an6,anZ];by_cases e:j=0
 ·subst e;simp[h]
 simp[e]
end Go.bU
namespace Go.Proofs.bK
attribute [local irreducible] wpList Code.wp bodyPost Exit.then Exit.inBlock Calls
theorem af6(x:BitVec 64)(i:Nat)(hi:i<64)(w:World):bj prog 152 [.agg (jk x).toArray,.int .i64 i] w λ_ v _=>v=.agg (jk (x||| 1#64<<<i)).toArray:=by
 have aZ:i / 64=0:=by omega
 have aH:i % 64=i:=by omega
 refine ca func152 ntmps152 ?_;refine ck λbs=>?_;refine cU λaO=>?_;refine dg (nX (yP 64 i (bY rfl) (bY rfl) (λ_=>by omega) (by omega)) (by rw[aZ])) (v:=.int .i64 ((0:Nat):Int)) (ab:=aa ?_);refine dg (oz (n:=0) (bY rfl) (bY rfl) λ_=>by decide) (ab:=aa ?_);refine dg (nX (yQ 64 i (bY rfl) (bY rfl) λ_=>by omega) (by rw[aH])) (v:=.int .i64 (i:Int)) (ab:=aa ?_);refine dg (oz (n:=0) (bY rfl) (bY rfl) λ_=>by decide) (ab:=aa ?_);refine bQ 1 ?_;refine bQ 0 ?_;refine bP rfl (.c1 rfl aL rfl) λI hw=>?_;have e:(BitVec.ofInt 64 (i:Int)).toNat=i:=by rw[aok,BitVec.toNat_ofNat];exact aoj (by omega)
 rw[e];rfl
def acW(x y:BitVec 64)(k:Nat):List Value:=[u64 (if 0<k then x||| y else x),u64 0#64,u64 0#64,u64 0#64]
theorem C6(x y:BitVec 64)(w:World):bj prog 154 [.agg (jk x).toArray,.agg (jk y).toArray] w λ_ v _=>v=.agg (jk (x||| y)).toArray:=by
 refine ca func154 ntmps154 ?_;refine ck λdS=>?_;refine ck λdc=>?_;refine cU λaO=>?_;refine b9 (λk:Nat=>k<=4) (λk=>[(6,true,.int .i64 k),(4,true,ax aO),(3,true,ax dc),(2,true,ax dS)]) (λk=>Mem [(w,an)] [.box aO [u64 0#64,u64 0#64,u64 0#64,u64 0#64] 83,.box dc (jk y) 83,.box dS (acW x y k) 83]) (λk=>4-k) 0 (by omega) ?_
 intro k hk;refine bg (λh1=>?_) λh1=>?_
 ·have cb:k<4:=by rw[aq]at h1;omega
  obtain rfl | rfl | rfl | rfl:k=0\/k=1\/k=2\/k=3:=by omega
  ·refine aa ?_;refine cV [0,1,2,3,4,5,6,7,8] mixed ?_;refine aP ?_;refine jb (h:=oz (len:=4) (n:=0) (bY rfl) (bY rfl) λ_=>by decide) (ab:=?_);refine aP ?_;refine jb (h:=oz (len:=4) (n:=0) (bY rfl) (bY rfl) λ_=>by decide) (ab:=?_);refine aP ?_;refine jb (h:=oz (len:=4) (n:=0) (bY rfl) (bY rfl) λ_=>by decide) (ab:=?_);refine aP ?_;refine hz (h:=bD 2 (ab:=aa ?_));exact bt (0+1) (by omega) (by omega)
  ·refine aa ?_;refine cV [0,1,2,3,4,5,6,7,8] mixed ?_;refine aP ?_;refine jb (h:=oz (len:=4) (n:=1) (bY rfl) (bY rfl) λ_=>by decide) (ab:=?_);refine aP ?_;refine jb (h:=oz (len:=4) (n:=1) (bY rfl) (bY rfl) λ_=>by decide) (ab:=?_);refine aP ?_;refine jb (h:=oz (len:=4) (n:=1) (bY rfl) (bY rfl) λ_=>by decide) (ab:=?_);refine aP ?_;refine hz (h:=bD 2 (ab:=aa ?_));exact bt (1+1) (by omega) (by omega)
  ·refine aa ?_;refine cV [0,1,2,3,4,5,6,7,8] mixed ?_;refine aP ?_;refine jb (h:=oz (len:=4) (n:=2) (bY rfl) (bY rfl) λ_=>by decide) (ab:=?_);refine aP ?_;refine jb (h:=oz (len:=4) (n:=2) (bY rfl) (bY rfl) λ_=>by decide) (ab:=?_);refine aP ?_;refine jb (h:=oz (len:=4) (n:=2) (bY rfl) (bY rfl) λ_=>by decide) (ab:=?_);refine aP ?_;refine hz (h:=bD 2 (ab:=aa ?_));exact bt (2+1) (by omega) (by omega)
  refine aa ?_;refine cV [0,1,2,3,4,5,6,7,8] mixed ?_;refine aP ?_;refine jb (h:=oz (len:=4) (n:=3) (bY rfl) (bY rfl) λ_=>by decide) (ab:=?_);refine aP ?_;refine jb (h:=oz (len:=4) (n:=3) (bY rfl) (bY rfl) λ_=>by decide) (ab:=?_);refine aP ?_;refine jb (h:=oz (len:=4) (n:=3) (bY rfl) (bY rfl) λ_=>by decide) (ab:=?_);refine aP ?_;refine hz (h:=bD 2 (ab:=aa ?_));exact bt (3+1) (by omega) (by omega)
 have cb:k=4:=by rw[ar]at h1;omega
 subst cb;refine aa ?_;refine bQ 0 ?_;refine bP rfl (.c1 rfl aL rfl) λI hw=>?_;rfl
theorem ao2(x:BitVec 64)(i:Nat):(((List.range (i+1)).filter λj=>x.getLsbD j).map λ(a:Nat)=>(a:Int))=(((List.range i).filter λj=>x.getLsbD j).map λ(a:Nat)=>(a:Int))++if x.getLsbD i then [(i:Int)]else []:=by rw[am6,anc,ane];cases h:x.getLsbD i<;>simp[h]
theorem ao7(x:BitVec 64):(((List.range 256).filter λj=>x.getLsbD j).map λ(a:Nat)=>(a:Int))=(l4 x).map λ(a:Nat)=>(a:Int):=by
 unfold l4;congr 1;rw[show 256=64+192 from rfl,List.range_add,anc];have:(((List.range 192).map (64+·)).filter λj=>x.getLsbD j)=[]:=by rw[anN];intro a au;obtain⟨b,_,rfl⟩:=am1.1 au;rw[BitVec.getLsbD_of_ge x (64+b) (by omega)];simp
 rw[this,amB]
theorem af5(x:BitVec 64)(w:World):bj prog 234 [.agg (jk x).toArray] w λm v I=>aV (Fr m) I bd 1 v ((l4 x).map λ(a:Nat)=>(a:Int)):=by
 refine ca func234 ntmps234 ?_;refine ck λbs=>?_;refine dZ 3 1 bd ?_;refine b9 (λs:Nat×Value=>s.1<=256/\aD s.2) (λs=>[(5,true,.int .i64 s.1),(3,true,s.2),(1,true,ax bs)]) (λs=>Mem [(w,an)] [.own s.2 3 1 bd (((List.range s.1).filter λj=>x.getLsbD j).map λ(a:Nat)=>(a:Int)),.box bs (jk x) 83]) (λs=>256-s.1) (0,U) ⟨by decide,cZ⟩ ?_
 rintro⟨i,v⟩ ⟨hi,aw⟩;dsimp only at hi aw⊢;have bG:(((List.range i).filter λj=>x.getLsbD j).map λ(a:Nat)=>(a:Int)).length<=256:=by rw[amD];exact ani (anj _ _) (by simpa using hi)
 refine bg (λh1=>?_) λh1=>?_
 ·have cb:i<256:=by rw[aq]at h1;omega
  refine aa ?_;by_cases aZ:i / 64=0
  ·have aH:i % 64=i:=by omega
   refine dg (nX (yP 64 i (bY rfl) (bY rfl) (λ_=>by omega) (by omega)) (by rw[aZ])) (v:=.int .i64 ((0:Nat):Int)) (ab:=aa ?_);refine dg (oz (n:=0) (bY rfl) (bY rfl) λ_=>by decide) (ab:=aa ?_);refine dg (nX (yQ 64 i (bY rfl) (bY rfl) λ_=>by omega) (by rw[aH])) (v:=.int .i64 (i:Int)) (ab:=aa ?_);have e:(BitVec.ofInt 64 (i:Int)).toNat=i:=by rw[aok,BitVec.toNat_ofNat];exact aoj (by omega)
   have hb:bO (x>>>(BitVec.ofInt 64 (i:Int)).toNat&&& 1#64=1#64)=x.getLsbD i:=by rw[e];exact VZ x i (by omega)
   refine bA (λh2=>?_) λh2=>?_
   ·have h2:=hb.symm.trans h2;refine aa ?_;refine ao (eA _ _ (ab:=λv20 zW=>aa ?_));refine ao (e6 1 (hk:=rfl) (bG:=by simp at bG⊢;omega) (ab:=λv21 Cg=>aa ?_));refine bt (i+1,v21) ⟨by dsimp only;omega,Cg⟩ (by dsimp only;omega) (hA:=λ_ h=>?_);have:=h.cm [1,2] (es:=[.own v21 3 1 bd ((((List.range i).filter λj=>x.getLsbD j).map λ(a:Nat)=>(a:Int))++[(i:Int)]),.box bs (jk x) 83]) rfl (by decide);dsimp only;rw[ao2,h2,amo rfl];exact this
   have h2:=hb.symm.trans h2;refine aa ?_;refine bt (i+1,v) ⟨by dsimp only;omega,aw⟩ (by dsimp only;omega) (hA:=λ_ h=>?_);dsimp only;rw[ao2,h2,amn (by simp),amB];exact h
  have Ie:x.getLsbD i=false:=BitVec.getLsbD_of_ge x i (by omega);obtain aZ | aZ | aZ:i / 64=1\/i / 64=2\/i / 64=3:=by omega
  ·refine dg (nX (yP 64 i (bY rfl) (bY rfl) (λ_=>by omega) (by omega)) (by rw[aZ])) (v:=.int .i64 ((1:Nat):Int)) (ab:=aa ?_);refine dg (oz (n:=1) (bY rfl) (bY rfl) λ_=>by decide) (ab:=aa ?_);refine dg (yQ 64 i (bY rfl) (bY rfl) λ_=>by omega) (ab:=aa ?_);refine bA (λh2=>?_) λh2=>?_
   ·rw[aq,BitVec.zero_ushiftRight,BitVec.zero_and]at h2;exact absurd h2 (by decide)
   refine aa ?_;refine bt (i+1,v) ⟨by dsimp only;omega,aw⟩ (by dsimp only;omega) (hA:=λ_ h=>?_);dsimp only;rw[ao2,Ie,amn (by simp),amB];exact h
  ·refine dg (nX (yP 64 i (bY rfl) (bY rfl) (λ_=>by omega) (by omega)) (by rw[aZ])) (v:=.int .i64 ((2:Nat):Int)) (ab:=aa ?_);refine dg (oz (n:=2) (bY rfl) (bY rfl) λ_=>by decide) (ab:=aa ?_);refine dg (yQ 64 i (bY rfl) (bY rfl) λ_=>by omega) (ab:=aa ?_);refine bA (λh2=>?_) λh2=>?_
   ·rw[aq,BitVec.zero_ushiftRight,BitVec.zero_and]at h2;exact absurd h2 (by decide)
   refine aa ?_;refine bt (i+1,v) ⟨by dsimp only;omega,aw⟩ (by dsimp only;omega) (hA:=λ_ h=>?_);dsimp only;rw[ao2,Ie,amn (by simp),amB];exact h
  refine dg (nX (yP 64 i (bY rfl) (bY rfl) (λ_=>by omega) (by omega)) (by rw[aZ])) (v:=.int .i64 ((3:Nat):Int)) (ab:=aa ?_);refine dg (oz (n:=3) (bY rfl) (bY rfl) λ_=>by decide) (ab:=aa ?_);refine dg (yQ 64 i (bY rfl) (bY rfl) λ_=>by omega) (ab:=aa ?_);refine bA (λh2=>?_) λh2=>?_
  ·rw[aq,BitVec.zero_ushiftRight,BitVec.zero_and]at h2;exact absurd h2 (by decide)
  refine aa ?_;refine bt (i+1,v) ⟨by dsimp only;omega,aw⟩ (by dsimp only;omega) (hA:=λ_ h=>?_);dsimp only;rw[ao2,Ie,amn (by simp),amB];exact h
 have cb:i=256:=by rw[ar]at h1;omega
 subst cb;refine bl λI hw=>?_;rw[<-ao7];exact hw.hK aL aL
end Go.Proofs.bK
namespace Go.bU
def hn:jK->Int×Bool | .num n=>(n,true) | _=>(0,false)
def jy:jK->ByteArray×Bool | .kb s=>(s,true) | _=>(ByteArray.empty,false)
theorem sg{a:jK}(h:(hn a).2=true):a=.num (hn a).1:=by cases a<;>first | rfl | cases h
theorem DE{a:jK}(h:(jy a).2=true):a=.kb (jy a).1:=by cases a<;>first | rfl | cases h
def xq:jK->Int×Bool | .told i=>((i:Int),true) | _=>(0,false)
end Go.bU
namespace Go.Proofs.bK
attribute [local irreducible] wpList Code.wp bodyPost Exit.then Exit.inBlock Calls
def iI:jK->Value
 | .num n=>.iface 161 (.int .i64 n)
 | .kb s=>.iface 166 (.string s)
 | .told i=>.iface 176 (.int .i64 (i:Int))
 | .hid=>.iface 327 (.agg #[])
section
variable {N:Nat} {tm:dU} {A:World->Prop} {c:Bool}
theorem AV{sB:TypeId}{x:Operand}(a:jK)(hx:bo tm c x (iI a)):bR prog N (.typeAssert x sB 161 true) tm A c (.tuple #[.int .i64 (hn a).1,.bool (hn a).2]):=by
 cases a
 ·exact sm underlying161 rfl hx rfl
 ·exact sm underlying161 rfl hx rfl
 ·exact sm underlying161 rfl hx rfl
 exact sm underlying161 rfl hx rfl
theorem Lx{sB:TypeId}{x:Operand}(a:jK)(hx:bo tm c x (iI a)):bR prog N (.typeAssert x sB 166 true) tm A c (.tuple #[.string (jy a).1,.bool (jy a).2]):=by
 cases a
 ·exact sm underlying166 rfl hx rfl
 ·exact sm underlying166 rfl hx rfl
 ·exact sm underlying166 rfl hx rfl
 exact sm underlying166 rfl hx rfl
theorem agT{sB:TypeId}{x:Operand}(a:jK)(hx:bo tm c x (iI a)):bR prog N (.typeAssert x sB 176 true) tm A c (.tuple #[.int .i64 (xq a).1,.bool (xq a).2]):=by
 cases a
 ·exact sm underlying176 rfl hx rfl
 ·exact sm underlying176 rfl hx rfl
 ·exact sm underlying176 rfl hx rfl
 exact sm underlying176 rfl hx rfl
theorem vR{x:Operand}{n:Int}(hx:bo tm c x (.int .i64 n)):bR prog N (.makeInterface 161 x) tm A c (iI (.num n)):=F7 (hu:=underlying161) (hd:=rfl) (hx:=hx)
theorem acm{x:Operand}{s:ByteArray}(hx:bo tm c x (.string s)):bR prog N (.makeInterface 166 x) tm A c (iI (.kb s)):=F7 (hu:=underlying166) (hd:=rfl) (hx:=hx)
theorem aco{x:Operand}{i:Nat}(hx:bo tm c x (.int .i64 (i:Int))):bR prog N (.makeInterface 176 x) tm A c (iI (.told i)):=F7 (hu:=underlying176) (hd:=rfl) (hx:=hx)
theorem acn{x:Operand}(hx:bo tm c x (.agg #[])):bR prog N (.makeInterface 327 x) tm A c (iI .hid):=F7 (hu:=underlying327) (hd:=rfl) (hx:=hx)
end
theorem T4(op:Int)(a b:jK)(w:World):bj prog 153 [.int .i64 op,iI a,iI b] w λ_ v _=>v=iI (pF op a b):=by
 refine ca func153 ntmps153 ?_;refine dg (AV a (bY rfl)) (ab:=aa ?_);refine dg (AV b (bY rfl)) (ab:=aa ?_);refine bA (λh1=>?_) λh1=>?_
 ·rw[ami,ami,aq]at h1;refine aa ?_;refine dg (v7 (n:=(hn a).1)) (ab:=aa ?_);refine dg (v7 (n:=(hn b).1)) (ab:=aa ?_);refine dg (Sm (a:=oK (hn a).1) (b:=oK (hn b).1)) (ab:=aa ?_);refine dg CV (ab:=aa ?_);refine dg (vR (bY rfl)) (ab:=aa ?_);refine bP rfl (.t1 rfl) λI hw=>?_;rw[sg h1.1.1,sg h1.1.2];exact amC (λn=>iI (.num n)) (by unfold o7;rw[amo h1.2];rfl)
 refine bg (λh2=>?_) λh2=>?_
 ·rw[ami,ami,aq]at h2;refine aa ?_;refine dg (v7 (n:=(hn a).1)) (ab:=aa ?_);refine dg (v7 (n:=(hn b).1)) (ab:=aa ?_);refine dg (Sp (a:=oK (hn a).1) (b:=oK (hn b).1)) (ab:=aa ?_);refine dg CV (ab:=aa ?_);refine dg (vR (bY rfl)) (ab:=aa ?_);refine bP rfl (.t1 rfl) λI hw=>?_;rw[sg h2.1.1,sg h2.1.2];exact amC (λn=>iI (.num n)) (by unfold o7;rw[amn (by rw[h2.2];decide),amo h2.2];rfl)
 refine bg (λh3=>?_) λh3=>?_
 ·rw[ami]at h3;refine aa ?_;refine dg (v7 (n:=(hn a).1)) (ab:=aa ?_);refine dg (v7 (n:=(hn b).1)) (ab:=aa ?_);refine dg (Se (a:=oK (hn a).1) (b:=oK (hn b).1)) (ab:=aa ?_);refine dg CV (ab:=aa ?_);refine dg (vR (bY rfl)) (ab:=aa ?_);refine bP rfl (.t1 rfl) λI hw=>?_;rw[h3.1,h3.2]at h1 h2;have h1:¬op=8:=by have h1:=h1;rwa[aoG,anA,ar]at h1
  have h2:¬op=9:=by have h2:=h2;rwa[aoG,anA,ar]at h2
  rw[sg h3.1,sg h3.2];exact amC (λn=>iI (.num n)) (by unfold o7;rw[amn h1,amn h2];rfl)
 refine bg (λaC=>?_) λaC=>?_
 ·rw[ami,aq]at aC;have hb:(hn b).2=false:=by rw[aC.1,anA]at h3;exact h3
  refine bl λI hw=>?_;rw[sg aC.1,aC.2];cases b with
  | num y=>cases hb
  | _=>rfl
 refine bg (λaW=>?_) λaW=>?_
 ·rw[ami,aq]at aW;have au:(hn a).2=false:=by rw[aW.1,aoG]at h3;exact h3
  refine bl λI hw=>?_;rw[sg aW.1,aW.2];cases a with
  | num y=>cases au
  | _=>rfl
 refine aa ?_;refine dg (acn (bY rfl)) (ab:=aa ?_);refine bP rfl (.t1 rfl) λI hw=>?_;show iI .hid=iI (pF op a b);refine amC iI ?_;have ih:∀n,a=.num n->¬n=0:=λn e q=>by subst e;rw[amx,ar]at aC;exact aC.elim (λz=>by cases z) λz=>z q
 have j9:∀n,b=.num n->¬n=0:=λn e q=>by subst e;rw[amx,ar]at aW;exact aW.elim (λz=>by cases z) λz=>z q
 cases a with
 | num x=>
  cases b with
  | num y=>cases h3
  | _=>exact(amn (ih x rfl)).symm
 | _=>
  cases b with
  | num y=>exact(amn (j9 y rfl)).symm
  | _=>rfl
theorem ahs(a b:jK)(w:World):bj prog 155 [iI a,iI b] w λ_ v _=>v=.bool (sv a b):=by
 refine ca func155 ntmps155 ?_;refine dg (AV a (bY rfl)) (ab:=aa ?_);refine bA (λh1=>?_) λh1=>?_
 ·refine aa ?_;refine dg (AV b (bY rfl)) (ab:=aa ?_);refine bP rfl (.t1 rfl) λI hw=>?_;rw[sg h1];refine amC Value.bool ?_;cases b with
  | num y=>exact(by rw[ch];rfl)
  | _=>rfl
 refine aa ?_;refine dg (Lx a (bY rfl)) (ab:=aa ?_);refine bA (λh2=>?_) λh2=>?_
 ·refine aa ?_;refine dg (Lx b (bY rfl)) (ab:=aa ?_);refine bP rfl (.t1 rfl) λI hw=>?_;rw[DE h2];refine amC Value.bool ?_;cases b with
  | kb y=>exact(by rw[ch];rfl)
  | _=>rfl
 refine bl λI hw=>?_;cases a with
 | num y=>cases h1
 | kb y=>cases h2
 | _=>rfl
theorem Ru(n:Int)(w:World):bj prog 421 [.int .i64 n] w λ_ v _=>v=.bool false:=by refine ca func421 ntmps421 ?_;exact bP rfl (.t1 rfl) λI hw=>rfl
theorem Rs(s:ByteArray)(w:World):bj prog 422 [.string s] w λ_ v _=>v=.bool false:=by refine ca func422 ntmps422 ?_;exact bP rfl (.t1 rfl) λI hw=>rfl
theorem Rv(n:Int)(w:World):bj prog 423 [.int .i64 n] w λ_ v _=>v=.bool true:=by refine ca func423 ntmps423 ?_;exact bP rfl (.t1 rfl) λI hw=>rfl
theorem Rt(w:World):bj prog 426 [.agg #[]] w λ_ v _=>v=.bool true:=by refine ca func426 ntmps426 ?_;refine ck λhJ=>?_;exact bP rfl (.t1 rfl) λI hw=>rfl
end Go.Proofs.bK
namespace Go.bU
def eX(m:Value×BitVec 64):List Value:=[m.1,u64 m.2,u64 0#64,u64 0#64,u64 0#64]
def NK:List Value->Value×BitVec 64 | [a,b,_,_,_]=>(a,T0 b) | _=>(.nilIface,0#64)
instance:ee eX 5:=⟨λ_=>rfl,by decide⟩
structure jL where
 aJ:Value
 aN:Value
 bv:Value
 aK:Value
 aX:Value
 aw:Value
def jL.ok(q:jL):Prop:=aD q.aJ/\aD q.aN/\aD q.bv/\aD q.aK/\aD q.aX/\aD q.aw
def gE(t:aM)(aj ae ak:Value)(bu:Int)(lv:Value)(q:jL)(ba:BitVec 64)(ahead:Int)(full:Bool):List Value:=cQ t aj ae ak++[.int .i64 bu,lv,q.aJ,u64 ba,u64 0#64,u64 0#64,u64 0#64,q.aN,q.bv,q.aK,q.aX,q.aw,.int .i64 ahead,.bool full]
theorem xc{xs:List ByteArray}{s:ByteArray}{k:Nat}{b:Bool}(hu:sK xs)(ag:s∈xs)(h:DC xs s k b):k=dp xs s:=by
 obtain⟨j,ad,e⟩:=o6 ag;have hb:b=true:=by
  cases b with
  | true=>rfl
  | false=>exact absurd e (h.2 rfl j ad)
 obtain⟨hk,Y1⟩:=h.1 hb;have aB:dp xs s<xs.length:=by unfold dp;exact List.findIdx_lt_length_of_exists ⟨s,ag,by simp⟩
 have EN:xs.getD (dp xs s) default=s:=by have:=List.findIdx_getElem (p:=λx=>decide (x=s)) (xs:=xs) (w:=aB);rw[amj]at this;rw[aml,amp aB];exact this
 exact hu.uniq hk aB Y1 EN
theorem Dg{l:List ByteArray}(h:l.Pairwise ql):sK l:=λi h0 hi=>by have:=am9.1 h (i-1) i (by omega) hi (by omega);rw[aml,aml,amp hi,amp (show i-1<l.length by omega)];exact this
end Go.bU
namespace Go.Proofs.bK
attribute [local irreducible] wpList Code.wp bodyPost Exit.then Exit.inBlock Calls
instance:jw prog 165 eX NK:=⟨trivial⟩
def c8(x:eD):Value×BitVec 64:=(iI x.has,x.on)
theorem wb{l:List eD}{i:Nat}(hi:i<l.length):(l.map c8).getD i default=c8 (l.getD i default):=by rw[aml,aml,amZ,amp hi];rfl
theorem qv(h:jK):(iI h).oneCell'=true:=by cases h<;>rfl
def cG(aO:Nat)(t:aM)(aj ae ak:Value)(bu:Int)(lv:Value)(ahead:Int)(q:jL)(s:b6)(full:Bool):List aA:=
 [.box aO (gE t aj ae ak bu lv q s.ba ahead full) 85,.own q.aJ 165 5 eX (s.ah.map c8),.own q.aN 138 6 ec s.J,.own q.bv 140 3 fE s.bars,.own q.aK 178 2 bz s.addr,.own q.aX 178 2 bz s.data,.own q.aw 178 2 bz s.dB]
theorem LH(v:Value)(l:List b5)(x:BitVec 64)(i:Nat)(w:World)(aw:aD v)(aB:l.length<=100000)(hw:Mem [] [.own v 178 2 bz l] w): ph prog 151 [v,.agg (jk x).toArray,.int .i64 (i:Int)] (.own v 178 2 bz l) w λ_ r e' _=>∃dL,aD dL/\r=dL/\e'=.own dL 178 2 bz (l++hS x i):=by
 have hb:(l4 x).length<=64:=by unfold l4;exact ani (anj _ _) (by simp)
 refine HD func151 ntmps151 rfl rfl hw ?_;refine aa ?_;refine ck λbs=>?_;refine ao (bw (λI hw=>af5 x I) ?_);rintro lv bx a6 c6 cA;have zx:=c6.le;have lj:((l4 x).map λ(a:Nat)=>(a:Int)).length=(l4 x).length:=amD _;refine aa ?_;refine b9 (λs:Nat×Value=>s.1<=(l4 x).length/\aD s.2) (λs=>[(12,true,.int .i64 s.1),(11,true,.int .i64 ((l4 x).map λ(a:Nat)=>(a:Int)).length),(10,true,lv),(2,true,.int .i64 (i:Int)),(0,true,s.2)]) (λs=>Mem [(a6,Fr bx),(w,pR (.own v 178 2 bz l))] [.own s.2 178 2 bz (l++(hS x i).take s.1)]) (λs=>(l4 x).length-s.1) (0,v) ⟨amz _,aw⟩ ?_ ⟨rfl,rfl,rfl,rfl,rfl,trivial⟩ (λ_ h=>by dsimp only;rw[List.take_zero,amB];exact h.cm [1])
 rintro⟨k,u⟩ ⟨hk,hu⟩;dsimp only at hk hu⊢;have kC:(hS x i).length=(l4 x).length:=by unfold hS;rw[amD]
 have ri:((hS x i).take k).length<=64:=by rw[amX];omega
 refine bg (λh1=>?_) λh1=>?_
 ·have cb:k<(l4 x).length:=by rw[aq,lj]at h1;omega
  have ay:((l4 x).map λ(a:Nat)=>(a:Int)).getD k default=((l4 x).getD k default:Nat):=by rw[aml,amZ,amp cb,aml,amp cb];rfl
  have hp:(hS x i).take (k+1)=(hS x i).take k++[⟨((l4 x).map λ(a:Nat)=>(a:Int)).getD k default,(i:Int)⟩]:=by rw[ay,ang];congr 1;unfold hS;rw[amZ,amp cb,aml,amp cb];rfl
  refine aa ?_;refine ao (eA _ _ (ab:=λv20 zW=>aa ?_));refine ao (e6 1 (hk:=rfl) (bG:=by simp at ri⊢;omega) (ab:=λv21 Cg=>aa ?_));refine bt (k+1,v21) ⟨by dsimp only;omega,Cg⟩ (by dsimp only;omega) (hA:=λ_ h=>?_);dsimp only;rw[hp,<-amJ];exact h.cm [1]
 have cb:k=(l4 x).length:=by rw[ar,lj]at h1;omega
 refine aa ?_;refine yH rfl (.t1 rfl) ds aL λI hw=>?_;refine⟨u,hu,rfl,?_⟩;rw[cb,<-kC,amU]
def Mp(aO:Nat)(t:aM)(aj ae ak:Value)(bu:Int)(lv:Value)(ahead:Int)(u:Value)(q:jL)(s:b6)(full:Bool):Nat->Value->List aA->World->Prop:=λ_ r es _=>r=u/\es=cG aO t aj ae ak bu lv ahead q s full
theorem LI(aO:Nat)(t:aM)(aj ae ak:Value)(bu:Int)(lv:Value)(ahead:Int)(q:jL)(s:b6)(full:Bool)(d:Int)(x:eD)(w:World)(aZ:q.ok)(hd:0<=d/\d<s.ah.length)(hw:Mem [] (cG aO t aj ae ak bu lv ahead q s full) w): eM prog 73 [ax aO,.int .i64 d,.agg (eX (c8 x)).toArray] (cG aO t aj ae ak bu lv ahead q s full) w (Mp aO t aj ae ak bu lv ahead (.tuple #[]) q {s with ah:=gJ t.az s.ah d x} full):=by
 obtain⟨cq,bn,e8,ih,j9,nW⟩:=aZ;have eP:(s.ah.map c8).length=s.ah.length:=amD _;refine s4 func73 ntmps73 rfl rfl hw ?_;unfold cG;refine af ?_;refine eQ λeN=>?_;refine bA (λh1=>?_) λh1=>?_
 ·refine af ?_;refine cV [0,1,2,3,4,5,6,7] mixed ?_;refine bI ?_;refine hz (h:=fB 2 rfl (c8 x) (h1:=.cons (qv _) (.cons rfl (.cons rfl (.cons rfl (.cons rfl .nil))))) (ab:=af ?_));refine qF rfl .nil aL (cG aO t aj ae ak bu lv ahead q {s with ah:=gJ t.az s.ah d x} full) [1,2,3,4,5,6,7] ?_ (by decide) λI hw=>⟨rfl,rfl⟩;have:(s.ah.map c8).set d.toNat (c8 x)=(gJ t.az s.ah d x).map c8:=by unfold gJ;rw[amn,List.map_set];rintro⟨vW,xk⟩;rw[amr,amk,amk,ar,ar]at h1;exact h1.elim (λz=>z xk) λz=>z vW
  rw[this];rfl
 refine af ?_;refine qF rfl .nil aL (cG aO t aj ae ak bu lv ahead q {s with ah:=gJ t.az s.ah d x} full) [1,2,3,4,5,6,7] ?_ (by decide) λI hw=>⟨rfl,rfl⟩;rw[show gJ t.az s.ah d x=s.ah from ?_];rfl;unfold gJ;rw[amt,amm,amm,aq,aq]at h1;rw[amo ⟨h1.2,h1.1⟩]
def xP(bb:List ByteArray)(bu:Int)(s:b6)(e:eL)(loc:ByteArray)(on:BitVec 64):b6:={s with J:=s.J++[({e with aI:=bu,loc:=((dp bb loc:Nat):Int)}:eL)],addr:=s.addr++hS on s.J.length,dB:=s.dB++hS s.ba s.J.length}
def UZ(aO:Nat)(t:aM)(aj ae ak:Value)(bu:Int)(lv:Value)(bb:List ByteArray)(ahead:Nat)(q:jL)(s:b6)(e:eL)(loc:ByteArray)(on:BitVec 64):Nat->Value->List aA->World->Prop:=λ_ r es _=>
 (64<=ahead+s.J.length/\r=.int .i64 0/\es=cG aO t aj ae ak bu lv ahead q s true)\/
 (¬64<=ahead+s.J.length/\r=.int .i64 (s.J.length:Int)/\∃q',jL.ok q'/\es=cG aO t aj ae ak bu lv ahead q' (xP bb bu s e loc on) false)
structure Bh(bb:List ByteArray)(ahead:Nat)(q:jL)(s:b6):Prop where
 q:q.ok
 up:sK bb
 bb:bb.length<=64
 ahead:ahead<=64
 J:s.J.length<=256
 addr:s.addr.length<=50000
 data:s.data.length<=50000
 dB:s.dB.length<=50000
 bars:s.bars.length<=256
theorem T3(aO:Nat)(t:aM)(aj ae ak:Value)(bu:Int)(lv:Value)(bb:List ByteArray)(ahead:Nat)(q:jL)(s:b6)(e:eL)(loc:ByteArray)(on:BitVec 64)(w:World)(bm:Bh bb ahead q s)(eZ:loc∈bb) (c6:aV (bB (cG aO t aj ae ak bu lv ahead q s false)) w dV 1 lv bb) (hw:Mem [] (cG aO t aj ae ak bu lv ahead q s false) w): eM prog 150 [ax aO,.agg (ec e).toArray,.string loc,.agg (jk on).toArray] (cG aO t aj ae ak bu lv ahead q s false) w (UZ aO t aj ae ak bu lv bb ahead q s e loc on):=by
 obtain⟨⟨cq,bn,e8,ih,j9,nW⟩,fT,jr,lu,nT,o9,mN,qd,sh⟩:=bm;have IL:=c6.aG;refine s4 func150 ntmps150 rfl rfl hw ?_;refine cJ (Mem [(w,bB (cG aO t aj ae ak bu lv ahead q s false))] [.box aO (gE t aj ae ak bu lv ⟨q.aJ,q.aN,q.bv,q.aK,q.aX,q.aw⟩ s.ba ahead false) 85,.own q.aJ 165 5 eX ((s.ah).map c8),.own q.aN 138 6 ec (s.J),.own q.bv 140 3 fE (s.bars),.own q.aK 178 2 bz (s.addr),.own q.aX 178 2 bz (s.data),.own q.aw 178 2 bz (s.dB)]) (λ_ h=>h) (af ?_);refine eQ λea=>?_;refine eQ λeb=>?_;refine bA (λh1=>?_) λh1=>?_
 ·rw[aq]at h1;refine af ?_;refine c0 2 ?_;refine ez rfl (.t1 rfl) (cG aO t aj ae ak bu lv ahead q s true) [2,3,4,5,6,7,8] λI hw=>.inl ⟨by omega,rfl,rfl⟩
 rw[ar]at h1;refine af ?_;refine c0 1 ?_;refine ao (iJ (a7:=λI hw=>xE lv loc bb I (hw.now c6) fT (by omega)) (ab:=?_));rintro v bx a6 ⟨k,b,rfl,c4⟩ cA;obtain rfl:=xc fT eZ c4;refine af ?_;refine ao (bD 1 (ab:=?_));refine cJ (Mem [(w,bB (cG aO t aj ae ak bu lv ahead q s false))] [.box eb (jk on) 83,.box ea (ec {e with aI:=bu,loc:=((dp bb loc:Nat):Int)}) 138,.box aO (gE t aj ae ak bu lv ⟨q.aJ,q.aN,q.bv,q.aK,q.aX,q.aw⟩ s.ba ahead false) 85,.own q.aJ 165 5 eX ((s.ah).map c8),.own q.aN 138 6 ec (s.J),.own q.bv 140 3 fE (s.bars),.own q.aK 178 2 bz (s.addr),.own q.aX 178 2 bz (s.data),.own q.aw 178 2 bz (s.dB)]) c7 (af ?_);refine fs (Mem [(w,bB (cG aO t aj ae ak bu lv ahead q s false))] [.box eb (jk on) 83,.box ea (ec {e with aI:=bu,loc:=((dp bb loc:Nat):Int)}) 138,.box aO (gE t aj ae ak bu lv ⟨q.aJ,q.aN,q.bv,q.aK,q.aX,q.aw⟩ s.ba ahead false) 85]) [0,1,2,3,4,5,6,7,8,9,10] mixed (bV [0,1,2]) ?_;refine bI ?_;refine bL _ (h:=eA ec Hy (e:=138) (sz:=6) (len:=1) (dF:=[(0,ec {e with aI:=bu,loc:=((dp bb loc:Nat):Int)})]) (ab:=?_));intro v46 akd;refine aF (bI ?_) (bV [1,2,3]);refine bL _ (h:=e6 5 (hk:=rfl) (bG:=by simp;omega) (ab:=?_));intro oE um;refine aF (aP ?_) (bV [1,2,3]);refine eG (λ_=>True) (h:=tY rfl tA ?_);refine aF (aP ?_) dx;refine bL _ (h:=bD 3 (ab:=?_));refine aF (aP ?_) dx;refine cJ (Mem [(w,bB (cG aO t aj ae ak bu lv ahead q s false))] [.box eb (jk on) 83,.box ea (ec {e with aI:=bu,loc:=((dp bb loc:Nat):Int)}) 138,.box aO (gE t aj ae ak bu lv ⟨q.aJ,oE,q.bv,q.aK,q.aX,q.aw⟩ s.ba ahead false) 85,.own q.aJ 165 5 eX ((s.ah).map c8),.own oE 138 6 ec (s.J++[({e with aI:=bu,loc:=((dp bb loc:Nat):Int)}:eL)]),.own q.bv 140 3 fE (s.bars),.own q.aK 178 2 bz (s.addr),.own q.aX 178 2 bz (s.data),.own q.aw 178 2 bz (s.dB)]) (bV [1,2,3,4,5,6,7,8,9]) (af ?_);refine fs (Mem [(w,bB (cG aO t aj ae ak bu lv ahead q s false))] [.box eb (jk on) 83,.box ea (ec {e with aI:=bu,loc:=((dp bb loc:Nat):Int)}) 138,.box aO (gE t aj ae ak bu lv ⟨q.aJ,oE,q.bv,q.aK,q.aX,q.aw⟩ s.ba ahead false) 85]) [0,1,2,3,4,5,6,7,8,9,10] mixed (bV [0,1,2]) ?_;refine bI ?_;refine bL _ (h:=vj 6 rfl (a7:=λI hw=>LH q.aK s.addr on s.J.length I ih (by omega) (hw.only nS)) (ab:=?_));rintro yY cp _ bX ⟨_,E5,rfl,rfl⟩;refine aF (aP ?_) (bV [0,1,2]);refine eG (λ_=>True) (h:=tY rfl tA ?_);refine aF (aP ?_) dx;refine bL _ (h:=bD 2 (ab:=?_));refine aF (aP ?_) dx;refine cJ (Mem [(w,bB (cG aO t aj ae ak bu lv ahead q s false))] [.box eb (jk on) 83,.box ea (ec {e with aI:=bu,loc:=((dp bb loc:Nat):Int)}) 138,.box aO (gE t aj ae ak bu lv ⟨q.aJ,oE,q.bv,yY,q.aX,q.aw⟩ s.ba ahead false) 85,.own q.aJ 165 5 eX ((s.ah).map c8),.own oE 138 6 ec (s.J++[({e with aI:=bu,loc:=((dp bb loc:Nat):Int)}:eL)]),.own q.bv 140 3 fE (s.bars),.own yY 178 2 bz (s.addr++hS on s.J.length),.own q.aX 178 2 bz (s.data),.own q.aw 178 2 bz (s.dB)]) (λ_ h=>h) (af ?_);refine fs (Mem [(w,bB (cG aO t aj ae ak bu lv ahead q s false))] [.box eb (jk on) 83,.box ea (ec {e with aI:=bu,loc:=((dp bb loc:Nat):Int)}) 138,.box aO (gE t aj ae ak bu lv ⟨q.aJ,oE,q.bv,yY,q.aX,q.aw⟩ s.ba ahead false) 85]) [0,1,2,3,4,5,6,7,8,9,10,11,12,13] mixed (bV [0,1,2]) ?_;refine bI ?_;refine bL _ (h:=vj 8 rfl (a7:=λI hw=>LH q.aw s.dB s.ba s.J.length I nW (by omega) (hw.only JW)) (ab:=?_));rintro v70 hD _ gb ⟨_,aaa,rfl,rfl⟩;refine aF (aP ?_) (bV [0,1,2]);refine eG (λ_=>True) (h:=tY rfl tA ?_);refine aF (aP ?_) dx;refine bL _ (h:=bD 2 (ab:=?_));refine aF (aP ?_) dx;refine af ?_;refine ez rfl (.t1 rfl) (cG aO t aj ae ak bu lv ahead ⟨q.aJ,oE,q.bv,yY,q.aX,v70⟩ (xP bb bu s e loc on) false) [2,3,4,5,6,7,8] λI hw=>.inr ⟨by omega,rfl,⟨q.aJ,oE,q.bv,yY,q.aX,v70⟩,⟨cq,um,e8,E5,j9,aaa⟩,rfl⟩
end Go.Proofs.bK
namespace Go.cc
open Go Go.RowKit
theorem F5{P:Program}{N:Nat}{tm:dU}{A:World->Prop}{c:Bool}{t len e sz n b ky:Nat}{z ej:Value}[aE:Bi P t len e][cP:dh P e sz b ej][bp:dh P t n ky z]:bR P N (.build t #[]) tm A c (.agg z.cells):=by unfold bR;intro ai a w _ _ _ _ _ cn hw;simp only[execOp];refine hG ?_;obtain⟨i,hi,_,_,aY⟩:=bp.h;obtain⟨i2,x8,_,_,_⟩:=cP.h;simp[Instr.build,zeroValue,typeInfo,hi,aY,run_underlying aE.h,sizeOf,x8,Instr.fill]
end Go.cc
namespace Go.Proofs.bK
attribute [local irreducible] wpList Code.wp bodyPost Exit.then Exit.inBlock Calls
def yZ(bb:List ByteArray)(bu:Int)(s:b6)(k:Int)(loc:ByteArray)(on:BitVec 64)(n:Int)(x:BitVec 64):b6:={xP bb bu s ⟨0,k,2,0,n,0⟩ loc on with data:=s.data++hS x s.J.length}
def Mz(aO:Nat)(t:aM)(aj ae ak:Value)(bu:Int)(lv:Value)(bb:List ByteArray)(ahead:Nat)(q:jL)(s:b6)(k:Int)(loc:ByteArray)(on:BitVec 64)(x:eD):Nat->Value->List aA->World->Prop:=λ_ r es _=>
 ((hn x.has).2=false/\r=.bool false/\es=cG aO t aj ae ak bu lv ahead q s false)\/
 ((hn x.has).2=true/\64<=ahead+s.J.length/\r=.bool true/\es=cG aO t aj ae ak bu lv ahead q s true)\/
 ((hn x.has).2=true/\¬64<=ahead+s.J.length/\r=.bool true/\∃q',jL.ok q'/\es=cG aO t aj ae ak bu lv ahead q' (yZ bb bu s k loc on (hn x.has).1 x.on) false)
theorem LK(aO:Nat)(t:aM)(aj ae ak:Value)(bu:Int)(lv:Value)(bb:List ByteArray)(ahead:Nat)(q:jL)(s:b6)(k:Int)(loc:ByteArray)(on:BitVec 64)(x:eD)(w:World)(bm:Bh bb ahead q s)(eZ:loc∈bb) (c6:aV (bB (cG aO t aj ae ak bu lv ahead q s false)) w dV 1 lv bb) (hw:Mem [] (cG aO t aj ae ak bu lv ahead q s false) w): eM prog 71 [ax aO,.int .i64 k,.string loc,.agg (jk on).toArray,.agg (eX (c8 x)).toArray] (cG aO t aj ae ak bu lv ahead q s false) w (Mz aO t aj ae ak bu lv bb ahead q s k loc on x):=by
 have eh:=bm.data;obtain⟨cq,bn,e8,ih,j9,nW⟩:=bm.q;have IL:=c6.aG;refine s4 func71 ntmps71 rfl rfl hw ?_;refine cJ (Mem [(w,bB (cG aO t aj ae ak bu lv ahead q s false))] [.box aO (gE t aj ae ak bu lv ⟨q.aJ,q.aN,q.bv,q.aK,q.aX,q.aw⟩ s.ba ahead false) 85,.own q.aJ 165 5 eX ((s.ah).map c8),.own q.aN 138 6 ec (s.J),.own q.bv 140 3 fE (s.bars),.own q.aK 178 2 bz (s.addr),.own q.aX 178 2 bz (s.data),.own q.aw 178 2 bz (s.dB)]) (λ_ h=>h) (af ?_);refine eQ λdv=>?_;refine eQ λsN=>?_;refine dg (AV x.has (bY rfl)) (ab:=af ?_);refine bA (λh1=>?_) λh1=>?_
 ·rw[amk]at h1;refine af ?_;exact ez rfl (.t1 rfl) (cG aO t aj ae ak bu lv ahead q s false) [2,3,4,5,6,7,8] λI hw=>.inl ⟨h1,rfl,rfl⟩
 rw[amm]at h1;refine af ?_;refine cJ (Mem [(w,bB (cG aO t aj ae ak bu lv ahead q s false))] (cG aO t aj ae ak bu lv ahead q s false++[.box sN (eX (c8 x)) 165,.box dv (jk on) 83])) (λ_ h=>h.perm (H':=cG aO t aj ae ak bu lv ahead q s false++[.box sN (eX (c8 x)) 165,.box dv (jk on) 83]) (anB (l₁:=[_,_]))) ?_;refine ao (en (a7:=λI hw=>T3 aO t aj ae ak bu lv bb ahead q s ⟨0,k,2,0,(hn x.has).1,0⟩ loc on I bm eZ (hw.gw c6 aL λe he=>amE _ he) hw.dk.ei) (ab:=?_));rintro r bx es a6 (⟨fH,rfl,rfl⟩ | ⟨fH,rfl,q',vw,rfl⟩)
 ·refine cJ (Mem [(w,bB (cG aO t aj ae ak bu lv ahead q s false))] [.box aO (gE t aj ae ak bu lv ⟨q.aJ,q.aN,q.bv,q.aK,q.aX,q.aw⟩ s.ba ahead true) 85,.own q.aJ 165 5 eX ((s.ah).map c8),.own q.aN 138 6 ec (s.J),.own q.bv 140 3 fE (s.bars),.own q.aK 178 2 bz (s.addr),.own q.aX 178 2 bz (s.data),.own q.aw 178 2 bz (s.dB),.box sN (eX (c8 x)) 165,.box dv (jk on) 83]) (λ_ h=>h) (af ?_);refine cK rfl (λh2=>?_) (λh2=>by cases h2);refine af ?_;exact ez rfl (.t1 rfl) (cG aO t aj ae ak bu lv ahead q s true) [0,1,2,3,4,5,6] λI hw=>.inr (.inl ⟨h1,fH,rfl,rfl⟩)
 obtain⟨vW,xk,FX,RI,RJ,RL⟩:=vw;refine cJ (Mem [(w,bB (cG aO t aj ae ak bu lv ahead q s false))] [.box aO (gE t aj ae ak bu lv ⟨q'.aJ,q'.aN,q'.bv,q'.aK,q'.aX,q'.aw⟩ s.ba ahead false) 85,.own q'.aJ 165 5 eX ((s.ah).map c8),.own q'.aN 138 6 ec (s.J++[(⟨bu,k,2,((dp bb loc:Nat):Int),(hn x.has).1,0⟩:eL)]),.own q'.bv 140 3 fE (s.bars),.own q'.aK 178 2 bz (s.addr++hS on s.J.length),.own q'.aX 178 2 bz (s.data),.own q'.aw 178 2 bz (s.dB++hS s.ba s.J.length),.box sN (eX (c8 x)) 165,.box dv (jk on) 83]) (λ_ h=>h) (af ?_);refine cK rfl (λh2=>by cases h2) λh2=>?_;refine af ?_;refine fs (Mem [(w,bB (cG aO t aj ae ak bu lv ahead q s false))] [.box aO (gE t aj ae ak bu lv ⟨q'.aJ,q'.aN,q'.bv,q'.aK,q'.aX,q'.aw⟩ s.ba ahead false) 85,.box sN (eX (c8 x)) 165]) [0,1,2,3,4,5,6,7,8,9,10,11] mixed (bV [0,7]) ?_;refine bI ?_;refine bL _ (h:=vj 5 rfl (a7:=λI hw=>LH q'.aX s.data x.on s.J.length I RJ (by omega) (hw.only pE)) (ab:=?_));rintro v41 cp _ bX ⟨_,vF,rfl,rfl⟩;refine aF (aP ?_) (bV [0,7]);refine eG (λ_=>True) (h:=tY rfl tA ?_);refine aF (aP ?_) dx;refine bL _ (h:=bD 0 (ab:=?_));refine aF (aP ?_) dx;refine af ?_;exact ez rfl (.t1 rfl) (cG aO t aj ae ak bu lv ahead ⟨q'.aJ,q'.aN,q'.bv,q'.aK,v41,q'.aw⟩ (yZ bb bu s k loc on (hn x.has).1 x.on) false) [0,1,2,3,4,5,6] λI hw=>.inr (.inr ⟨h1,fH,rfl,⟨q'.aJ,q'.aN,q'.bv,q'.aK,v41,q'.aw⟩,⟨vW,xk,FX,RI,vF,RL⟩,rfl⟩)
def yR(az:Int)(bb:List ByteArray)(bu:Int)(s:b6)(k:Int)(loc:ByteArray)(on:BitVec 64)(d:Int):b6:={xP bb bu s ⟨0,k,1,0,0,d⟩ loc on with ah:=gJ az s.ah d ⟨.told s.J.length,1#64<<<s.J.length⟩}
def Mr(aO:Nat)(t:aM)(aj ae ak:Value)(bu:Int)(lv:Value)(bb:List ByteArray)(ahead:Nat)(q:jL)(s:b6)(k:Int)(loc:ByteArray)(on:BitVec 64)(d:Int):Nat->Value->List aA->World->Prop:=λ_ r es _=>
 (64<=ahead+s.J.length/\r=.tuple #[]/\es=cG aO t aj ae ak bu lv ahead q s true)\/
 (¬64<=ahead+s.J.length/\r=.tuple #[]/\∃q',jL.ok q'/\es=cG aO t aj ae ak bu lv ahead q' (yR t.az bb bu s k loc on d) false)
theorem T7(aO:Nat)(t:aM)(aj ae ak:Value)(bu:Int)(lv:Value)(bb:List ByteArray)(ahead:Nat)(q:jL)(s:b6)(k:Int)(loc:ByteArray)(on:BitVec 64)(d:Int)(w:World)(bm:Bh bb ahead q s)(eZ:loc∈bb)(hd:0<=d/\d<s.ah.length) (c6:aV (bB (cG aO t aj ae ak bu lv ahead q s false)) w dV 1 lv bb) (hw:Mem [] (cG aO t aj ae ak bu lv ahead q s false) w): eM prog 72 [ax aO,.int .i64 k,.string loc,.agg (jk on).toArray,.int .i64 d] (cG aO t aj ae ak bu lv ahead q s false) w (Mr aO t aj ae ak bu lv bb ahead q s k loc on d):=by
 have IL:=c6.aG;refine s4 func72 ntmps72 rfl rfl hw ?_;refine cJ (Mem [(w,bB (cG aO t aj ae ak bu lv ahead q s false))] [.box aO (gE t aj ae ak bu lv ⟨q.aJ,q.aN,q.bv,q.aK,q.aX,q.aw⟩ s.ba ahead false) 85,.own q.aJ 165 5 eX ((s.ah).map c8),.own q.aN 138 6 ec (s.J),.own q.bv 140 3 fE (s.bars),.own q.aK 178 2 bz (s.addr),.own q.aX 178 2 bz (s.data),.own q.aw 178 2 bz (s.dB)]) (λ_ h=>h) (af ?_);refine eQ λdv=>?_;refine cJ (Mem [(w,bB (cG aO t aj ae ak bu lv ahead q s false))] (cG aO t aj ae ak bu lv ahead q s false++[.box dv (jk on) 83])) (λ_ h=>h.perm (H':=cG aO t aj ae ak bu lv ahead q s false++[.box dv (jk on) 83]) (anB (l₁:=[_]))) ?_;refine ao (en (a7:=λI hw=>T3 aO t aj ae ak bu lv bb ahead q s ⟨0,k,1,0,0,d⟩ loc on I bm eZ (hw.gw c6 aL λe he=>amE _ he) hw.dk.ei) (ab:=?_));rintro r bx es a6 (⟨fH,rfl,rfl⟩ | ⟨fH,rfl,q',vw,rfl⟩)
 ·refine cJ (Mem [(w,bB (cG aO t aj ae ak bu lv ahead q s false))] [.box aO (gE t aj ae ak bu lv ⟨q.aJ,q.aN,q.bv,q.aK,q.aX,q.aw⟩ s.ba ahead true) 85,.own q.aJ 165 5 eX ((s.ah).map c8),.own q.aN 138 6 ec (s.J),.own q.bv 140 3 fE (s.bars),.own q.aK 178 2 bz (s.addr),.own q.aX 178 2 bz (s.data),.own q.aw 178 2 bz (s.dB),.box dv (jk on) 83]) (λ_ h=>h) (af ?_);refine cK rfl (λh2=>?_) (λh2=>by cases h2);refine af ?_;exact ez rfl .nil (cG aO t aj ae ak bu lv ahead q s true) [0,1,2,3,4,5,6] λI hw=>.inl ⟨fH,rfl,rfl⟩
 have kD:=vw;obtain⟨vW,xk,FX,RI,RJ,RL⟩:=vw;refine cJ (Mem [(w,bB (cG aO t aj ae ak bu lv ahead q s false))] [.box aO (gE t aj ae ak bu lv ⟨q'.aJ,q'.aN,q'.bv,q'.aK,q'.aX,q'.aw⟩ s.ba ahead false) 85,.own q'.aJ 165 5 eX ((s.ah).map c8),.own q'.aN 138 6 ec (s.J++[(⟨bu,k,1,((dp bb loc:Nat):Int),0,d⟩:eL)]),.own q'.bv 140 3 fE (s.bars),.own q'.aK 178 2 bz (s.addr++hS on s.J.length),.own q'.aX 178 2 bz (s.data),.own q'.aw 178 2 bz (s.dB++hS s.ba s.J.length),.box dv (jk on) 83]) (λ_ h=>h) (af ?_);refine cK rfl (λh2=>by cases h2) λh2=>?_;refine af ?_;refine dg (aco (bY rfl)) (ab:=af ?_);refine dg (nX F5 rfl) (v:=.agg (jk 0#64).toArray) (ab:=af ?_);refine ao (iJ (a7:=λI hw=>af6 0#64 s.J.length (by omega) I) (ab:=?_));rintro v cp bX rfl fq;rw[BitVec.zero_or];refine af ?_;refine cJ (Mem [(w,bB (cG aO t aj ae ak bu lv ahead q s false))] (cG aO t aj ae ak bu lv ahead q' (xP bb bu s ⟨0,k,1,0,0,d⟩ loc on) false++([.box dv (jk on) 83]:List aA))) c7 ?_;refine ao (en (a7:=λI hw=>LI aO t aj ae ak bu lv ahead q' (xP bb bu s ⟨0,k,1,0,0,d⟩ loc on) false d ⟨.told s.J.length,1#64<<<s.J.length⟩ I kD hd hw.dk.ei) (ab:=?_));rintro r hD es gb ⟨rfl,rfl⟩;refine af ?_;exact qF rfl .nil aL (cG aO t aj ae ak bu lv ahead q' (yR t.az bb bu s k loc on d) false) [0,1,2,3,4,5,6] rfl (by decide) λI hw=>.inr ⟨fH,rfl,q',kD,rfl⟩
end Go.Proofs.bK
namespace Go.cc
open Go Go.RowKit
section
variable {P:Program} {N:Nat} {Q:Exit->Act->World->Prop} {K:Act->World->Prop} {tm:dU} {bs:List dr} {H:List aA}
theorem N6{k:Nat}{T:TypeId}{x:Operand}{name:String}{v:Value}{a:Act}{w:World}{d:Option Tmp}{ty:TypeId}{pos:String}{cR:Array Edge}{g:Option (Nat×Bool)}[hF:aS P k] (hx:a.eval x=.iface T v) (hm:∀r w,(Go.method (P.types.size+Made.depth) T r name).run P w=.ok (k,r) w): (execOp a.eval ⟨d,.call {callee:=.invoke x name,args:=#[],argTypes:=#[]},ty,pos,cR,g⟩).run P w=.ok (.enter k #[v]) w:=by
 obtain⟨fn,h1,h2,h3⟩:=hF.h;have bF:fn.name≠ "runtime.NumGoroutine" :=by simpa using h2
 have dw:fn.body≠none:=by intro h;rw[h]at h3;cases h3
 simp only[execOp,resolve,hx];simp[invoke,callMethod,callFunc,hm,h1,bF,dw]
theorem Ef{d k:Nat}{T:TypeId}{x:Operand}{name:String}{v u:Value}[hF:aS P k](hx:bo tm true x (.iface T v))(hm:∀r w,(Go.method (P.types.size+Made.depth) T r name).run P w=.ok (k,r) w)(hd:Nat.blt d N=true) (a7:∀w,bj P k [v] w λ_ r _=>r=u) (ab:cL N K ((d,true,u)::tm) (Mem bs H)):gq P N (.call {callee:=.invoke x name,args:=#[],argTypes:=#[]}) (some d) Q tm (Mem bs H) K:=by unfold gq cL at *;intro a w ty pos cR g ag hw;unfold Oper.wp;rw[N6 (hx.get ag rfl) hm];simp only[Oper.upon];have uj:=a7 w;unfold bj at uj;refine Calls.mono uj λe I h=>?_;unfold qm at h;obtain⟨dL,rfl,hb,rfl⟩:=h;exact ab _ _ (by simpa using ag.put (anm.mp hd) true dL) (hw.ext hb)
theorem Em{k:Nat}{T:TypeId}{c:Bool}{x:Operand}{name:String}{v u:Value}[hF:aS P k](hx:bo tm c x (.iface T v))(hm:∀r w,(Go.method (P.types.size+Made.depth) T r name).run P w=.ok (k,r) w) (a7:∀w,bj P k [v] w λ_ r _=>r=u):uV P N (.call {callee:=.invoke x name,args:=#[],argTypes:=#[]}) tm (Mem bs H) c u:=by unfold uV;intro ai Q K a w d ty pos cR g ag hw jE;unfold Oper.wp;rw[N6 (hx.get ag ai) hm];simp only[Oper.upon];have uj:=a7 w;unfold bj at uj;refine Calls.mono uj λe I h=>?_;unfold qm at h;obtain⟨dL,rfl,hb,rfl⟩:=h;exact jE I (hw.ext hb)
end
end Go.cc
attribute [local irreducible] Go.wpList Go.Code.wp Go.bodyPost Go.Exit.then Go.Exit.inBlock Go.Calls
namespace Go.Proofs.bK
section
variable {N:Nat} {Q:Exit->Act->World->Prop} {K:Act->World->Prop} {tm:dU} {bs:List dr} {H:List aA}
theorem QM:∀r w,(Go.method (prog.types.size+Made.depth) 161 r "alembic/trace.open").run prog w=.ok (421,r) w:=by intro r w;kernel_rfl
theorem QK:∀r w,(Go.method (prog.types.size+Made.depth) 166 r "alembic/trace.open").run prog w=.ok (422,r) w:=by intro r w;kernel_rfl
theorem QN:∀r w,(Go.method (prog.types.size+Made.depth) 176 r "alembic/trace.open").run prog w=.ok (423,r) w:=by intro r w;kernel_rfl
theorem QL:∀r w,(Go.method (prog.types.size+Made.depth) 327 r "alembic/trace.open").run prog w=.ok (426,r) w:=by intro r w;kernel_rfl
theorem XI{d:Nat}{x:Operand}(h:jK)(hx:bo tm true x (iI h))(hd:Nat.blt d N=true)(ab:cL N K ((d,true,.bool h.ot)::tm) (Mem bs H)): gq prog N (.call {callee:=.invoke x "alembic/trace.open",args:=#[],argTypes:=#[]}) (some d) Q tm (Mem bs H) K:=by
 cases h with
 | num n=>exact Ef hx QM hd (λw=>Ru n w) ab
 | kb n=>exact Ef hx QK hd (λw=>Rs n w) ab
 | told n=>exact Ef hx QN hd (λw=>Rv n w) ab
 | hid=>exact Ef hx QL hd (λw=>Rt w) ab
theorem XP{c:Bool}{x:Operand}(h:jK)(hx:bo tm c x (iI h)):uV prog N (.call {callee:=.invoke x "alembic/trace.open",args:=#[],argTypes:=#[]}) tm (Mem bs H) c (.bool h.ot):=by
 cases h with
 | num n=>exact Em hx QM (λw=>Ru n w)
 | kb n=>exact Em hx QK (λw=>Rs n w)
 | told n=>exact Em hx QN (λw=>Rv n w)
 | hid=>exact Em hx QL λw=>Rt w
end
def U5(aO:Nat)(t:aM)(aj ae ak:Value)(bu:Int)(lv:Value)(bb:List ByteArray)(ahead:Nat)(q:jL)(s:b6)(k:Int)(i:Instr):Nat->Value->List aA->World->Prop:=λn r es I=>
 ((jy (bJ s i.a).has).2=false/\r=.bool false/\es=cG aO t aj ae ak bu lv ahead q s false)\/
 ((jy (bJ s i.a).has).2=true/\((i.op=7/\Mz aO t aj ae ak bu lv bb ahead q s k (jy (bJ s i.a).has).1 (bJ s i.a).on (bJ s i.b) n r es I)\/(¬i.op=7/\r=.bool true/\Mr aO t aj ae ak bu lv bb ahead q s k (jy (bJ s i.a).has).1 (bJ s i.a).on i.d n (.tuple #[]) es I)))
theorem ahl(aO:Nat)(t:aM)(aj ae ak:Value)(bu:Int)(lv:Value)(bb:List ByteArray)(ahead:Nat)(q:jL)(s:b6)(k:Int)(i:Instr)(w:World)(bm:Bh bb ahead q s)(eZ:(jy (bJ s i.a).has).2=true->(jy (bJ s i.a).has).1∈bb)(au:0<=i.a/\i.a<s.ah.length)(hb:0<=i.b/\i.b<s.ah.length)(hd:0<=i.d/\i.d<s.ah.length) (c6:aV (bB (cG aO t aj ae ak bu lv ahead q s false)) w dV 1 lv bb) (hw:Mem [] (cG aO t aj ae ak bu lv ahead q s false) w): eM prog 74 [ax aO,.int .i64 k,.agg (cC i).toArray] (cG aO t aj ae ak bu lv ahead q s false) w (U5 aO t aj ae ak bu lv bb ahead q s k i):=by
 obtain⟨cq,bn,e8,ih,j9,nW⟩:=bm.q;have IL:=c6.aG;have eP:(s.ah.map c8).length=s.ah.length:=amD _;have og:(s.ah.map c8).getD i.a.toNat default=c8 (bJ s i.a):=wb (by omega);have ic:(s.ah.map c8).getD i.b.toNat default=c8 (bJ s i.b):=wb (by omega);refine s4 func74 ntmps74 rfl rfl hw ?_;refine cJ (Mem [(w,bB (cG aO t aj ae ak bu lv ahead q s false))] [.box aO (gE t aj ae ak bu lv ⟨q.aJ,q.aN,q.bv,q.aK,q.aX,q.aw⟩ s.ba ahead false) 85,.own q.aJ 165 5 eX ((s.ah).map c8),.own q.aN 138 6 ec (s.J),.own q.bv 140 3 fE (s.bars),.own q.aK 178 2 bz (s.addr),.own q.aX 178 2 bz (s.data),.own q.aw 178 2 bz (s.dB)]) (λ_ h=>h) (af ?_);refine eQ λbi=>?_;refine cV [0,1,2,3,4,5,6,7,8,9] mixed ?_;refine bI ?_;refine bL _ (h:=ft ?_);intro dS;refine aF (bI ?_) iG;rw[og];refine hz (h:=bD 0 (h1:=.cons (qv _) (.cons rfl (.cons rfl (.cons rfl (.cons rfl .nil))))) (ab:=?_));refine cJ (Mem [(w,bB (cG aO t aj ae ak bu lv ahead q s false))] [.box aO (gE t aj ae ak bu lv ⟨q.aJ,q.aN,q.bv,q.aK,q.aX,q.aw⟩ s.ba ahead false) 85,.own q.aJ 165 5 eX ((s.ah).map c8),.own q.aN 138 6 ec (s.J),.own q.bv 140 3 fE (s.bars),.own q.aK 178 2 bz (s.addr),.own q.aX 178 2 bz (s.data),.own q.aw 178 2 bz (s.dB),.box dS (eX (c8 (bJ s i.a))) 165,.box bi (cC i) 169]) (λ_ h=>h.perm (anB (l₁:=[_,_]))) (af ?_);refine dg (Lx (bJ s i.a).has (bY rfl)) (ab:=af ?_);refine bA (λh1=>?_) λh1=>?_
 ·rw[amk]at h1;refine af ?_;exact ez rfl (.t1 rfl) (cG aO t aj ae ak bu lv ahead q s false) [0,1,2,3,4,5,6] λI hw=>.inl ⟨h1,rfl,rfl⟩
 rw[amm]at h1;refine di (λh2=>?_) λh2=>?_
 ·rw[aq]at h2;refine af ?_;refine cV [0,1,2,3,4,5,6,7,8,9,10,11,12,13,14] mixed ?_;refine bI ?_;rw[ic];refine eG (λ_=>True) (h:=en (es:=cG aO t aj ae ak bu lv ahead q s false) (H:=[.box dS (eX (c8 (bJ s i.a))) 165,.box bi (cC i) 169]) (a7:=λI hw=>LK aO t aj ae ak bu lv bb ahead q s k (jy (bJ s i.a).has).1 (bJ s i.a).on (bJ s i.b) I bm (eZ h1) (hw.gw c6 aL λe he=>amE _ he) hw.dk.ei) (ab:=?_));rintro r bx es a6 ew;refine aF (aP ?_) dx;refine cJ (Mem [(w,bB (cG aO t aj ae ak bu lv ahead q s false))] es) (λ_ h=>h.dk) (af ?_);exact Ri rfl (.t1 rfl) aL λI hw=>.inr ⟨h1,.inl ⟨h2,ew⟩⟩
 rw[ar]at h2;refine af ?_;refine ao (en (es:=cG aO t aj ae ak bu lv ahead q s false) (H:=[.box dS (eX (c8 (bJ s i.a))) 165,.box bi (cC i) 169]) (a7:=λI hw=>T7 aO t aj ae ak bu lv bb ahead q s k (jy (bJ s i.a).has).1 (bJ s i.a).on i.d I bm (eZ h1) hd (hw.gw c6 aL λe he=>amE _ he) hw.dk.ei) (ab:=?_));rintro r bx es a6 ew;have aH:r=.tuple #[]:=by rcases ew with⟨_,e,_⟩ | ⟨_,e,_⟩<;>exact e
 subst aH;refine cJ (Mem [(w,bB (cG aO t aj ae ak bu lv ahead q s false))] es) (λ_ h=>h.dk) (af ?_);exact Ri rfl (.t1 rfl) aL λI hw=>.inr ⟨h1,.inr ⟨h2,rfl,ew⟩⟩
theorem Hz(h:jK):(iI h).cells=[iI h].toArray:=by cases h<;>rfl
theorem aho(aO:Nat)(t:aM)(aj ae ak:Value)(bu:Int)(lv:Value)(ahead:Nat)(q:jL)(s:b6)(i:Instr)(w:World)(aZ:q.ok)(au:0<=i.a/\i.a<s.ah.length)(hb:0<=i.b/\i.b<s.ah.length)(hd:0<=i.d/\i.d<s.ah.length)(hw:Mem [] (cG aO t aj ae ak bu lv ahead q s false) w): eM prog 75 [ax aO,.agg (cC i).toArray] (cG aO t aj ae ak bu lv ahead q s false) w (Mp aO t aj ae ak bu lv ahead (.tuple #[]) q {s with ah:=gJ t.az s.ah i.d (jt s i)} false):=by
 obtain⟨cq,bn,e8,ih,j9,nW⟩:=aZ;have aZ:jL.ok q:=⟨cq,bn,e8,ih,j9,nW⟩;have eP:(s.ah.map c8).length=s.ah.length:=amD _;have og:(s.ah.map c8).getD i.a.toNat default=c8 (bJ s i.a):=wb (by omega);have ic:(s.ah.map c8).getD i.b.toNat default=c8 (bJ s i.b):=wb (by omega);refine s4 func75 ntmps75 rfl rfl hw ?_;refine cJ (Mem [(w,bB (cG aO t aj ae ak bu lv ahead q s false))] [.box aO (gE t aj ae ak bu lv ⟨q.aJ,q.aN,q.bv,q.aK,q.aX,q.aw⟩ s.ba ahead false) 85,.own q.aJ 165 5 eX ((s.ah).map c8),.own q.aN 138 6 ec (s.J),.own q.bv 140 3 fE (s.bars),.own q.aK 178 2 bz (s.addr),.own q.aX 178 2 bz (s.data),.own q.aw 178 2 bz (s.dB)]) (λ_ h=>h) (af ?_);refine eQ λbi=>?_;refine h7 (λ_:Nat×Nat=>True) (λz=>[(5,true,.pointer (some ⟨z.2,0,none⟩)),(4,true,.pointer (some ⟨z.1,0,none⟩)),(3,true,ax bi),(0,true,ax aO)]) (λz=>Mem [(w,bB (cG aO t aj ae ak bu lv ahead q s false))] [.box aO (gE t aj ae ak bu lv ⟨q.aJ,q.aN,q.bv,q.aK,q.aX,q.aw⟩ s.ba ahead false) 85,.own q.aJ 165 5 eX ((s.ah).map c8),.own q.aN 138 6 ec (s.J),.own q.bv 140 3 fE (s.bars),.own q.aK 178 2 bz (s.addr),.own q.aX 178 2 bz (s.data),.own q.aw 178 2 bz (s.dB),.box z.2 (eX (c8 ⟨.num i.cY,0#64⟩)) 165,.box z.1 (eX (c8 (bJ s i.a))) 165,.box bi (cC i) 169]) ?_ ?_
 ·refine cV [0,1,2,3,4,5,6,7,8,9,10,11,999] mixed ?_;refine bI ?_;refine jb (h:=vR (bY rfl)) (ab:=?_);refine bI ?_;rw[og];refine nn 12 13 ?_ ?_
  ·refine cB [999] _ (h:=ft ?_);intro dS;refine aF ?_ iG;refine eo 13 ?_;refine cB [14,15] _ (h:=ft ?_);intro dc;refine aF ?_ λ_ h=>h.tail.tail;refine bL _ (h:=bD 1 (h1:=.cons (qv _) (.cons rfl (.cons rfl (.cons rfl (.cons rfl .nil))))) (ab:=?_));refine aF ?_ (bV [2,3,4,5,6,7,8,9]);refine hz (h:=bD 0 (h1:=.cons (qv _) (.cons rfl (.cons rfl (.cons rfl (.cons rfl .nil))))) (ab:=?_));exact bZ (dS,dc) trivial (hA:=bV [3,4,5,6,7,8,9,0,1,2])
  refine cB [999] _ (h:=ft ?_);intro dc;refine aF ?_ iG;refine eo 12 ?_;refine cB [14,15] _ (h:=ft ?_);intro dS;refine aF ?_ λ_ h=>h.tail.tail;refine bL _ (h:=bD 0 (h1:=.cons (qv _) (.cons rfl (.cons rfl (.cons rfl (.cons rfl .nil))))) (ab:=?_));refine aF ?_ (bV [2,3,4,5,6,7,8,9]);refine hz (h:=bD 1 (h1:=.cons (qv _) (.cons rfl (.cons rfl (.cons rfl (.cons rfl .nil))))) (ab:=?_));exact bZ (dS,dc) trivial (hA:=bV [3,4,5,6,7,8,9,1,0,2])
 rintro⟨dS,dc⟩ _;dsimp only;refine af ?_;refine h7 (λlZ:eD=>lZ=(if i.op=8 then⟨.num i.cY,0#64⟩else bJ s i.b)) (λ_=>[(5,true,ax dc),(4,true,ax dS),(3,true,ax bi),(0,true,ax aO)]) (λlZ=>Mem [(w,bB (cG aO t aj ae ak bu lv ahead q s false))] [.box aO (gE t aj ae ak bu lv ⟨q.aJ,q.aN,q.bv,q.aK,q.aX,q.aw⟩ s.ba ahead false) 85,.own q.aJ 165 5 eX ((s.ah).map c8),.own q.aN 138 6 ec (s.J),.own q.bv 140 3 fE (s.bars),.own q.aK 178 2 bz (s.addr),.own q.aX 178 2 bz (s.data),.own q.aw 178 2 bz (s.dB),.box dc (eX (c8 lZ)) 165,.box dS (eX (c8 (bJ s i.a))) 165,.box bi (cC i) 169]) ?_ ?_
 ·refine bA (λh1=>?_) λh1=>?_
  ·rw[amk,ar]at h1;refine af ?_;refine cV [0,1,2,3,4,5,6,7,8] mixed ?_;refine bI ?_;rw[ic];refine hz (h:=bD 7 (h1:=.cons (qv _) (.cons rfl (.cons rfl (.cons rfl (.cons rfl .nil))))) (ab:=?_));exact bZ (bJ s i.b) (by rw[amn h1])
  rw[amm,aq]at h1;refine af ?_;exact bZ ⟨.num i.cY,0#64⟩ (by rw[amo h1])
 rintro lZ E8;refine af ?_;refine h7 (λ_:Nat=>True) (λz=>[(6,true,ax z),(3,true,ax bi),(0,true,ax aO)]) (λz=>Mem [(w,bB (cG aO t aj ae ak bu lv ahead q s false))] [.box aO (gE t aj ae ak bu lv ⟨q.aJ,q.aN,q.bv,q.aK,q.aX,q.aw⟩ s.ba ahead false) 85,.own q.aJ 165 5 eX ((s.ah).map c8),.own q.aN 138 6 ec (s.J),.own q.bv 140 3 fE (s.bars),.own q.aK 178 2 bz (s.addr),.own q.aX 178 2 bz (s.data),.own q.aw 178 2 bz (s.dB),.box z (eX (c8 ⟨pF i.op (bJ s i.a).has lZ.has,(bJ s i.a).on||| lZ.on⟩)) 165,.box bi (cC i) 169]) ?_ ?_
 ·refine cV [0,1,2,3,4,5,7,8,9,10,999] mixed ?_;refine bI ?_;refine nn 6 13 ?_ ?_
  ·refine cB [999] _ (h:=bw (λI hw=>T4 i.op (bJ s i.a).has lZ.has I) ?_);rintro v bx a6 rfl cA;refine aF ?_ eS;refine nn 11 13 ?_ ?_
   ·refine cB [12,999] _ (h:=bw (λI hw=>C6 (bJ s i.a).on lZ.on I) ?_);rintro v cp bX rfl fq;refine aF (aP ?_) λ_ h=>h.cI.cI;refine jb (v:=.agg (eX (c8 ⟨pF i.op (bJ s i.a).has lZ.has,(bJ s i.a).on||| lZ.on⟩)).toArray) (h:=?_) (ab:=?_)
    ·exact F4 (hp:=.cons (bY rfl) (Hz _) (.cons (bY rfl) rfl .nil))
    refine aP ?_;refine eo 13 ?_;refine cB [14] _ (h:=ft ?_);intro eN;refine aF ?_ λ_ h=>(h.last rfl).tail;refine hz (h:=bD 0 (h1:=.cons (qv _) (.cons rfl (.cons rfl (.cons rfl (.cons rfl .nil))))) (ab:=?_));exact bZ eN trivial (hA:=bM [1,2,3,4,5,6,7,0,10])
   refine cB [999] _ (h:=ft ?_);intro eN;refine aF ?_ λ_ h=>(h.last rfl).tail;refine eo 11 ?_;refine cB [12,14] _ (h:=bw (λI hw=>C6 (bJ s i.a).on lZ.on I) ?_);rintro v cp bX rfl fq;refine aF (aP ?_) λ_ h=>(h.last rfl).tail;refine jb (v:=.agg (eX (c8 ⟨pF i.op (bJ s i.a).has lZ.has,(bJ s i.a).on||| lZ.on⟩)).toArray) (h:=?_) (ab:=?_)
   ·exact F4 (hp:=.cons (bY rfl) (Hz _) (.cons (bY rfl) rfl .nil))
   refine aP ?_;refine hz (h:=bD 0 (h1:=.cons (qv _) (.cons rfl (.cons rfl (.cons rfl (.cons rfl .nil))))) (ab:=?_));exact bZ eN trivial (hA:=bM [1,2,3,4,5,6,7,0,10])
  refine cB [999] _ (h:=ft ?_);intro eN;refine aF ?_ iG;refine eo 6 ?_;refine cB [999] _ (h:=bw (λI hw=>T4 i.op (bJ s i.a).has lZ.has I) ?_);rintro v bx a6 rfl cA;refine aF ?_ λ_ h=>(h.last rfl).tail;refine eo 11 ?_;refine cB [12,14] _ (h:=bw (λI hw=>C6 (bJ s i.a).on lZ.on I) ?_);rintro v cp bX rfl fq;refine aF (aP ?_) λ_ h=>(h.last rfl).tail;refine jb (v:=.agg (eX (c8 ⟨pF i.op (bJ s i.a).has lZ.has,(bJ s i.a).on||| lZ.on⟩)).toArray) (h:=?_) (ab:=?_)
  ·exact F4 (hp:=.cons (bY rfl) (Hz _) (.cons (bY rfl) rfl .nil))
  refine aP ?_;refine hz (h:=bD 0 (h1:=.cons (qv _) (.cons rfl (.cons rfl (.cons rfl (.cons rfl .nil))))) (ab:=?_));exact bZ eN trivial (hA:=bM [1,2,3,4,5,6,7,0,10])
 rintro eN _;refine af ?_;refine h7 (λx:eD=>x=jt s i) (λ_=>[(6,true,ax eN),(3,true,ax bi),(0,true,ax aO)]) (λx=>Mem [(w,bB (cG aO t aj ae ak bu lv ahead q s false))] [.box aO (gE t aj ae ak bu lv ⟨q.aJ,q.aN,q.bv,q.aK,q.aX,q.aw⟩ s.ba ahead false) 85,.own q.aJ 165 5 eX ((s.ah).map c8),.own q.aN 138 6 ec (s.J),.own q.bv 140 3 fE (s.bars),.own q.aK 178 2 bz (s.addr),.own q.aX 178 2 bz (s.data),.own q.aw 178 2 bz (s.dB),.box eN (eX (c8 x)) 165,.box bi (cC i) 169]) ?_ ?_
 ·refine bA (λh1=>?_) λh1=>?_
  ·rw[ami,aq,aq]at h1;refine af ?_;refine dg (vR (bY rfl)) (ab:=af ?_);refine c0 7 ?_;exact bZ (⟨.num 0,(bJ s i.a).on||| lZ.on⟩:eD) (by rw[E8];unfold jt;dsimp only;rw[amo h1])
  rw[amx,ar,ar]at h1;refine af ?_;exact bZ (⟨pF i.op (bJ s i.a).has lZ.has,(bJ s i.a).on||| lZ.on⟩:eD) (by rw[E8];unfold jt;dsimp only;rw[amn (show ¬(i.op=9/\i.a=i.b)from λq=>h1.elim (λz=>z q.1) λz=>z q.2)])
 rintro x rfl;refine af ?_;refine ao (en (es:=cG aO t aj ae ak bu lv ahead q s false) (H:=[.box eN (eX (c8 (jt s i))) 165,.box bi (cC i) 169]) (a7:=λI hw=>LI aO t aj ae ak bu lv ahead q s false i.d (jt s i) I aZ hd hw.dk.ei) (ab:=?_));rintro r bx es a6 ⟨rfl,rfl⟩;refine af ?_;exact qF rfl .nil aL (cG aO t aj ae ak bu lv ahead q {s with ah:=gJ t.az s.ah i.d (jt s i)} false) [0,1,2,3,4,5,6] rfl (by decide) λI hw=>⟨rfl,rfl⟩
end Go.Proofs.bK
