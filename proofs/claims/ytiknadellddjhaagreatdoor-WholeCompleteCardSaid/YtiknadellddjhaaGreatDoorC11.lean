/- Lemmas for the law WholeComplete. -/
import Derived.Shelf.Sort.Plain
import Derived.Sort.OwnSortedInts
import Derived.Shelf.Slices.In.SortNone
import Derived.RangeFuncBox
import Derived.RangeFuncLeaves
import Derived.Shelf.Abstract
import Derived.OwnWalkIn
import Derived.TacticsInMore
import Derived.LoopNIn
import Derived.LoopIn
import Derived.Maps.AppendAt
import Derived.Test.YtiknadellddjhaaGreatDoorC04
set_option linter.all false
open Go.Proofs.Tryz
set_option maxHeartbeats 4000000
open Go Go.b9 Go.bM
attribute [local irreducible] Go.wpList Go.Code.wp Go.bodyPost Go.Exit.then Go.Exit.inBlock Go.Calls
namespace Go.bM
def nw(t:aW)(i:Nat):List (List Int):=(List.range t.aO.length).map λ(k:Nat)=>rf t (k:Int) i
theorem akc(t:aW)(i:Nat):(nw t i).length=t.aO.length:=by simp[nw]
theorem akg(t:aW):nw t 0=List.replicate t.aO.length []:=by unfold nw;rw[List.eq_replicate_iff];refine⟨by simp,λb hb=>?_⟩;obtain⟨k,_,rfl⟩:=ao9.1 hb;rfl
theorem ake(t:aW){i:Nat}(h:¬(t.J.getD i default).dir=2):nw t (i+1)=nw t i:=by unfold nw;refine apP λk _=>?_;rw[Hi,aot (by unfold nQ;rw[aoE h];simp),aoH]
theorem MZ(t:aW)(i:Nat){k:Nat}(hk:k<t.aO.length):(nw t i).getD k default=rf t (k:Int) i:=by unfold nw;rw[aor,ao4,apk hk];rfl
theorem akd(t:aW){i:Nat}(h:(t.J.getD i default).dir=2){k:Nat}(hk:k<t.aO.length)(aL:(t.J.getD i default).loc=(k:Int)):(nw t i).set k ((nw t i).getD k default++[(i:Int)])=nw t (i+1):=by
 rw[MZ t i hk];apply apq (by simp[nw]);intro j h1 h2;simp only[nw,aqK,aq3,aqO,Hi];by_cases fV:k=j
 ·subst fV;rw[aou rfl,aou (by unfold nQ;rw[aow h,aow aL];rfl)]
 rw[aot fV,aot (by unfold nQ;rw[aL,aoE (show ¬(k:Int)=(j:Int) by omega)];simp),aoH]
def jj(t:aW)(i:Nat):List Int:=if(t.J.getD i default).dir=1 then -1::wr t (t.J.getD i default).loc else [-1]
def pr(t:aW)(i:Nat):List (List Int):=(List.range t.J.length).map λk=>if k<i then jj t k else []
def qp(t:aW):List (List Int):=(List.range t.J.length).map (jj t)
def lZ(t:aW):List (List Int):=(List.range t.aO.length).map λ(k:Nat)=>wr t (k:Int)
theorem akb(t:aW):nw t t.J.length=lZ t:=rfl
theorem akf(t:aW)(i k:Nat):((nw t i).getD k default).length<=i:=by
 by_cases hk:k<t.aO.length
 ·rw[MZ t i hk];exact zF _ _ _
 rw[aor,aoV (by simp[nw];omega)];exact aoD _
theorem agn(t:aW)(i:Nat):(pr t i).length=t.J.length:=by simp[pr]
theorem ago(t:aW):pr t 0=List.replicate t.J.length []:=by unfold pr;rw[List.eq_replicate_iff];refine⟨by simp,λb hb=>?_⟩;obtain⟨k,_,rfl⟩:=ao9.1 hb;rfl
theorem agm(t:aW):pr t t.J.length=qp t:=by unfold pr qp;refine apP λk hk=>?_;rw[aou (aoQ.1 hk)]
theorem Tt(t:aW){i:Nat}{x:List Int}(hx:x=jj t i):(pr t i).set i x=pr t (i+1):=by
 subst hx;apply apq (by simp[pr]);intro j h1 h2;simp only[pr,aqK,aq3,aqO];by_cases iw:i=j
 ·subst iw;rw[aou rfl,aou (by omega)]
 rw[aot iw];by_cases kz:j<i
 ·rw[aou kz,aou (by omega)]
 rw[aot kz,aot (by omega)]
theorem Ha{t:aW}(h:e0 t=true){i:Nat}(hi:i<t.J.length):0<=(t.J.getD i default).loc/\(t.J.getD i default).loc<t.aO.length:=by simp only[e0,aoo,jP,fT]at h;have:=h.1.1.1.1.1.2.2 i hi;simp only[lL,qH,aoo,aop]at this;exact⟨this.1.1.1.1.1.1.2,this.1.1.1.1.1.2⟩
end Go.bM
namespace Go.Proofs.bA
theorem Ot{ak ah aI bv aG aR ad aT bj:Value}{t:aW}(w:World)(h:fB al w ak ah aI bv aG aR ad aT bj t)(hok:e0 t=true): bl prog 95 [.agg #[ak,ah,aI,bv,aG,aR,ad,aT,bj]] w λm v I=>∃aE gB,v=.agg #[aE,gB]/\o0 (Fr m) I aE (qp t)/\o0 (Fr m) I gB (lZ t):=by
 have cF:=h.J;have c0:=h.aO;obtain⟨hb,ma⟩:=kI hok;refine bZ func95 ntmps95 ?_;refine b7 λaQ=>?_;refine cH λaU=>?_;refine ih (λs:Nat×Value×Value=>aD s.2.1/\aD s.2.2) (λs=>[(3,true,.pointer (some ⟨s.1,0,none⟩)),(2,true,av aU),(1,true,av aQ)]) (λs=>Mem [(w,al)] [.box s.1 [s.2.1,s.2.2] 142,.own s.2.2 33 1 ct (List.replicate t.aO.length aa),.own s.2.1 33 1 ct (List.replicate t.J.length aa),.box aU [aa,aa] 142,.box aQ [ak,ah,aI,bv,aG,aR,ad,aT,bj] 41]) ?_ ?_
 ·skip
  refine fw (Mem [(w,al)] [.box aU [aa,aa] 142,.box aQ [ak,ah,aI,bv,aG,aR,ad,aT,bj] 41]) [0,1,2,4,5,6,999] mixed cv ?_;refine aN ?_;refine De 3 7 9 (h1:=?_) (h2:=?_) (h3:=?_)
  ·refine cp [999] _ (h:=gC ct kv 33 1 24 aa (ab:=?_));intro aE eo;refine aF ?_ (bD [1,2]);refine mf 7 9 ?_ ?_
   ·refine cp [8,999] _ (h:=gC ct kv 33 1 24 aa (ab:=?_));intro gB lP;refine aF (aN ?_) (bD [2,3]);refine ed 9 ?_;refine cp [10] _ (h:=fb ?_);intro fy;refine aF ?_ (bD [3,4]);refine gw (h:=bK 0 (ab:=?_));exact b6 (fy,aE,gB) ⟨eo,lP⟩ (hA:=bD [0,1,2,3,4])
   refine cp [999] _ (h:=fb ?_);intro fy;refine aF ?_ (bD [2,3]);refine ed 7 ?_;refine cp [8,10] _ (h:=gC ct kv 33 1 24 aa (ab:=?_));intro gB lP;refine aF (aN ?_) (bD [3,4]);refine gw (h:=bK 1 (ab:=?_));exact b6 (fy,aE,gB) ⟨eo,lP⟩ (hA:=bD [1,0,2,3,4])
  ·refine cp [999] _ (h:=gC ct kv 33 1 24 aa (ab:=?_));intro gB lP;refine aF ?_ (bD [1,2]);refine mf 3 9 ?_ ?_
   ·refine cp [8,999] _ (h:=gC ct kv 33 1 24 aa (ab:=?_));intro aE eo;refine aF (aN ?_) (bD [2,3]);refine ed 9 ?_;refine cp [10] _ (h:=fb ?_);intro fy;refine aF ?_ (bD [3,4]);refine gw (h:=bK 0 (ab:=?_));exact b6 (fy,aE,gB) ⟨eo,lP⟩ (hA:=bD [0,2,1,3,4])
   refine cp [999] _ (h:=fb ?_);intro fy;refine aF ?_ (bD [2,3]);refine ed 3 ?_;refine cp [8,10] _ (h:=gC ct kv 33 1 24 aa (ab:=?_));intro aE eo;refine aF (aN ?_) (bD [3,4]);refine gw (h:=bK 1 (ab:=?_));exact b6 (fy,aE,gB) ⟨eo,lP⟩ (hA:=bD [1,2,0,3,4])
  refine cp [999] _ (h:=fb ?_);intro fy;refine aF ?_ (bD [1,2]);refine mf 3 7 ?_ ?_
  ·refine cp [999] _ (h:=gC ct kv 33 1 24 aa (ab:=?_));intro aE eo;refine aF ?_ (bD [2,3]);refine ed 7 ?_;refine cp [8,10] _ (h:=gC ct kv 33 1 24 aa (ab:=?_));intro gB lP;refine aF (aN ?_) (bD [3,4]);refine gw (h:=bK 2 (ab:=?_));exact b6 (fy,aE,gB) ⟨eo,lP⟩ (hA:=bD [2,0,1,3,4])
  refine cp [999] _ (h:=gC ct kv 33 1 24 aa (ab:=?_));intro gB lP;refine aF ?_ (bD [2,3]);refine ed 3 ?_;refine cp [8,10] _ (h:=gC ct kv 33 1 24 aa (ab:=?_));intro aE eo;refine aF (aN ?_) (bD [3,4]);refine gw (h:=bK 2 (ab:=?_));exact b6 (fy,aE,gB) ⟨eo,lP⟩ (hA:=bD [2,1,0,3,4])
 rintro⟨fy,aE,gB⟩ ⟨eo,lP⟩;dsimp only at eo lP⊢;refine FX 3 t.aO.length ?_;rw[<-akg];simp only[aqu,apb];refine U ?_;refine bX (λs:Nat×List Value=>s.1<=t.J.length/\s.2.length=t.aO.length/\∀v,v∈s.2->aD v) (λs=>[(20,true,.int .i64 s.1),(19,true,.int .i64 t.J.length),(18,true,aI),(3,true,av fy),(2,true,av aU),(1,true,av aQ)]) (λs=>Mem [(w,al)] (.box fy [aE,gB] 142::.own gB 33 1 ct s.2::.own aE 33 1 ct (List.replicate t.J.length aa)::.box aU [aa,aa] 142::.box aQ [ak,ah,aI,bv,aG,aR,ad,aT,bj] 41::inner 3 s.2 (nw t s.1))) (λs=>t.J.length-s.1) (0,List.replicate t.aO.length aa) ⟨aoD _,aoX,λv ax=>?_⟩ ?_ ⟨rfl,rfl,rfl,rfl,rfl,rfl,trivial⟩ cv
 ·rw[aqs ax];exact⟨_,_,_,rfl⟩
 rintro⟨i,vs⟩ ⟨hi,gO,iA⟩;dsimp only at hi gO iA⊢;refine a8 (λh1=>?_) λh1=>?_
 ·have bU:i<t.J.length:=by rw[an]at h1;omega
  have lN:=Ha hok bU;refine U ?_;refine cH λeQ=>?_;refine bN 0 ?_;refine bC (λh2=>?_) λh2=>?_
  ·rw[an]at h2;obtain⟨l,aL⟩:∃l:Nat,(t.J.getD i default).loc=(l:Int):=⟨(t.J.getD i default).loc.toNat,by omega⟩;have dq:(t.J.getD i default).loc.toNat=l:=by omega
   have iy:l<vs.length:=by omega
   have CS:=akf t i l;refine fw (Mem [(w,al)] [.box eQ (ef (t.J.getD i default)) 138,.box fy [aE,gB] 142,.own gB 33 1 ct vs,.box aQ [ak,ah,aI,bv,aG,aR,ad,aT,bj] 41]) [0,1,2,3,4,5,6,7,8,9,10,11,12,13,14] mixed (b4 [0,1,2,5]) ?_;refine aN ?_;refine bO _ (h:=eI (enc:=a7) (dec:=oE) (e:=3) (sz:=1) (len:=1) (dM:=[(0,[.int .i64 i])]) (ab:=?_));intro v5 nI;refine aF (aN ?_) (b4 [1,2,3,6]);rw[dq];refine bO _ (h:=e6 (l+7) (hk:=FQ 3 (vs:=vs) (xss:=nw t i) (by rw[gO,akc]) iy) (bH:=by simp only[List.map,aoN,ao1];omega) (ab:=?_));intro v6 nd;refine aF (aN ?_) (b4 [1,2,3,6]);refine gw (h:=fq 3 rfl _ (ab:=U ?_));refine bm (i+1,vs.set l v6) ⟨by dsimp only;omega,by simpa using gO,λv ax=>?_⟩ (by dsimp only;omega) (hA:=λI h=>?_)
   ·rcases aqr ax with ax | rfl
    ·exact iA v ax
    exact nd
   have cm:=h.tail.tail;rw[dq]at cm;have bu:=Da 3 vs (nw t i) l v6 ((nw t i).getD l default++[(i:Int)]);rw[akd t h2 (by omega) aL]at bu;dsimp only;rw[<-bu];exact cm
  rw[au]at h2;refine U ?_;exact bm (i+1,vs) ⟨bU,gO,iA⟩ (by dsimp only;omega) (hA:=λ_ h=>by rw[ake t h2];exact h.tail)
 have gY:i=t.J.length:=by rw[au]at h1;omega
 subst gY;refine U ?_;refine FX 3 t.J.length ?_;rw[<-ago];simp only[aqu,apb];refine bX (λs:Nat×List Value=>s.1<=t.J.length/\s.2.length=t.J.length/\∀v,v∈s.2->aD v) (λs=>[(46,true,.int .i64 s.1),(45,true,.int .i64 t.J.length),(44,true,aI),(3,true,av fy),(2,true,av aU)]) (λs=>Mem [(w,al)] (.box fy [aE,gB] 142::.own gB 33 1 ct vs::.own aE 33 1 ct s.2::.box aU [aa,aa] 142::.box aQ [ak,ah,aI,bv,aG,aR,ad,aT,bj] 41::(inner 3 vs (lZ t)++inner 3 s.2 (pr t s.1)))) (λs=>t.J.length-s.1) (0,List.replicate t.J.length aa) ⟨aoD _,aoX,λv ax=>?_⟩ ?_ ⟨rfl,rfl,rfl,rfl,rfl,trivial⟩ cv
 ·rw[aqs ax];exact⟨_,_,_,rfl⟩
 rintro⟨i,rs⟩ ⟨hi,ep,iz⟩;dsimp only at hi ep iz⊢;have JZ:vs.length=(lZ t).length:=by simp[lZ,gO]
 have gJ:(inner 3 vs (lZ t)).length=vs.length:=abL _ JZ;refine a8 (λh1=>?_) λh1=>?_
 ·have bU:i<t.J.length:=by rw[an]at h1;omega
  have lN:=Ha hok bU;obtain⟨l,aL⟩:∃l:Nat,(t.J.getD i default).loc=(l:Int):=⟨(t.J.getD i default).loc.toNat,by omega⟩;have dq:(t.J.getD i default).loc.toNat=l:=by omega
  have iy:l<vs.length:=by omega
  have jU:(lZ t).getD l default=wr t (t.J.getD i default).loc:=by rw[aL,<-akb,MZ t _ (by omega)];rfl
  have CS:=zF t (t.J.getD i default).loc t.J.length;have h8:rs.length=(pr t i).length:=by rw[ep,agn]
  refine U ?_;refine cH λeQ=>?_;refine bN 0 ?_;refine aq (eI (ab:=λv4 uO=>U ?_));refine aq (fq 4 rfl _ (ab:=?_));refine cA (Mem [(w,al)] (.box eQ (ef (t.J.getD i default)) 138::.box fy [aE,gB] 142::.own gB 33 1 ct vs::.own aE 33 1 ct (rs.set i v4)::.box aU [aa,aa] 142::.box aQ [ak,ah,aI,bv,aG,aR,ad,aT,bj] 41::(inner 3 vs (lZ t)++inner 3 (rs.set i v4) ((pr t i).set i [-1])))) (λI h=>?_) ?_
  ·have cm:=h.put (6+((inner 3 vs (lZ t)).length+i));rw[Nat.add_comm 6]at cm;rw[<-Da,<-Uj];exact cm
  have CQ:∀v,v∈rs.set i v4->aD v:=λv ax=>by
   rcases aqr ax with ax | rfl
   ·exact iz v ax
   exact uO
  refine a8 (λh2=>?_) λh2=>?_
  ·rw[an]at h2;have CR:(rs.set i v4).length=t.J.length:=by rw[aoU];exact ep
   refine fw (Mem [(w,al)] [.box eQ (ef (t.J.getD i default)) 138,.box fy [aE,gB] 142,.own gB 33 1 ct vs,.own aE 33 1 ct (rs.set i v4),.box aQ [ak,ah,aI,bv,aG,aR,ad,aT,bj] 41]) [0,1,2,3,4,5,6,7,8,9,10,11,12,13,14,15,16] mixed (b4 [0,1,2,3,5]) ?_;refine aN ?_;rw[dq];have aaS:(rs.set i v4).length=((pr t i).set i [-1]).length:=by simpa using h8
   have Fk:i<(rs.set i v4).length:=by rw[aoU];omega
   have Jc:((pr t i).set i [-1]).getD i default=[-1]:=by rw[aor,aqf (by omega)];rfl
   have hk:=FQ 3 aaS Fk;rw[<-PE (inner 3 vs (lZ t)),Jc,gJ]at hk;refine bO _ (h:=e6 (vs.length+i+6) (enc:=a7) (dec:=oE) (hk:=hk) (hm:=aoM (i:=l+6) (show(inner 3 vs (lZ t)++inner 3 (rs.set i v4) ((pr t i).set i [-1]))[l]?=_ by rw[aoT (by omega)];exact FQ _ JZ iy)) (bH:=by rw[jU];simp only[aoN,ao1,wr];omega) (ab:=?_));intro v5 nI;refine aF (aN ?_) (b4 [0,1,2,3,5]);refine gw (h:=fq 3 rfl _ (ab:=U ?_));refine bm (i+1,(rs.set i v4).set i v5) ⟨by dsimp only;omega,by simpa using ep,λv ax=>?_⟩ (by dsimp only;omega) (hA:=λI h=>?_)
   ·rcases aqr ax with ax | rfl
    ·exact CQ v ax
    exact nI
   have cm:=h.tail;have bu:=Da 3 (rs.set i v4) ((pr t i).set i [-1]) i v5 ([-1]++(lZ t).getD l default);rw[List.set_set (a:=[-1]),Tt t (show [-1]++(lZ t).getD l default=jj t i by unfold jj;rw[aou h2,jU];rfl)]at bu;dsimp only;rw[<-bu,<-Uj,gJ];exact cm
  rw[au]at h2;refine U ?_;refine bm (i+1,rs.set i v4) ⟨by dsimp only;omega,by simpa using ep,CQ⟩ (by dsimp only;omega) (hA:=λI h=>?_);dsimp only;rw[<-Tt t (show [-1]=jj t i by unfold jj;rw[aot h2])];exact h.tail
 have gY:i=t.J.length:=by rw[au]at h1;omega
 subst gY;refine U ?_;refine bN 3 ?_;refine bT rfl (.c1 rfl jC rfl) λI hw=>?_;rw[agm]at hw;exact⟨aE,gB,rfl,hw.PF 3 33 hy (by simp[qp,ep]) (λe he=>.tail _ (.tail _ (.tail _ (.tail _ (.tail _ (apA _ he)))))) aP,hw.PF 3 33 dg JZ (λe he=>.tail _ (.tail _ (.tail _ (.tail _ (.tail _ (aoK _ he)))))) aP⟩
end Go.Proofs.bA
namespace Go.bM
def fv(l:List Int)(n:Int):Int:=if n∈l then(l.idxOf n:Int)else -1
theorem Kc{n:Int}:∀{l:List Int} {i:Nat},i<l.length->l.getD i default=n->(∀j,j<i->l.getD j default≠n)->l.idxOf n=i
 | a::l,0,_,h1,_=>by have:a=n:=h1;subst this;simp
 | a::l,i+1,h0,h1,h2=>by have h3:a≠n:=h2 0 (by omega);have bP:=Kc (l:=l) (i:=i) (by simpa using h0) h1 λj ae=>h2 (j+1) (by omega);rw[List.idxOf_cons,bP,beq_false_of_ne h3];rfl
theorem uX{l:List Int}{n:Int}:n∈l↔∃i,i<l.length/\l.getD i default=n:=by
 constructor
 ·intro h;obtain⟨i,hi,he⟩:=aqk h;exact⟨i,hi,by rw[aor,aov hi];exact he⟩
 rintro⟨i,hi,he⟩;rw[aor,aov hi]at he;exact he▸apC hi
theorem wv(l:List Int)(n:Int):0<=fv l n↔n∈l:=by
 unfold fv;split
 ·rename_i h;exact⟨λ_=>h,λ_=>by omega⟩
 rename_i h;exact⟨λcm=>by omega,λcm=>absurd cm h⟩
theorem ada{l m:List Int}(aL:l.length=m.length)(h:∀i,i<l.length->l.getD i default=m.getD i default):l=m:=by apply apq aL;intro i h1 h2;have:=h i h1;rwa[aor,aor,aov h1,aov h2]at this
end Go.bM
namespace Go.Proofs.bA
theorem Up(s:Value)(v:Int)(w:World)(l:List Int)(aj:aZ al w a7 1 s l): bl prog 189 [s,.int .i64 v] w λ_ r _=>r=.int .i64 (fv l v):=by
 have iy:=aj.le;refine bZ func189 ntmps189 ?_;refine bX (λi:Nat=>i<=l.length/\∀j,j<i->l.getD j default≠v) (λi=>[(8,true,.int .i64 i),(7,true,.int .i64 l.length),(1,true,.int .i64 v),(0,true,s)]) (λs=>Mem [(w,al)] []) (λs=>l.length-s) (0) ⟨by omega,λj ae=>by omega⟩ ?_ ⟨rfl,rfl,rfl,rfl,trivial⟩ cv
 rintro i ⟨hi,bG⟩;refine a8 (λh1=>?_) λh1=>?_
 ·have bU:i<l.length:=by rw[an]at h1;omega
  refine a8 (λh2=>?_) λh2=>?_
  ·rw[an]at h2;refine bf λI hw=>?_;have:fv l v=(i:Int):=by unfold fv;rw[aou (uX.2 ⟨i,bU,h2.symm⟩),Kc bU h2.symm bG]
   rw[this];rfl
  rw[au]at h2;refine U ?_;refine bm ((i+1)) ⟨by omega,λj ae=>?_⟩ (by omega) (hA:=cv);by_cases kz:j<i
  ·exact bG j kz
  obtain rfl:j=i:=by omega
  exact λe=>h2 e.symm
 rw[au]at h1;refine bf λI hw=>?_;have:fv l v= -1:=by unfold fv;rw[aot λhm=>by obtain⟨j,ae,he⟩:=uX.1 hm;exact bG j (by omega) he]
 rw[this];rfl
theorem ahA(s:Value)(v:Int)(w:World)(l:List Int)(aj:aZ al w a7 1 s l): bl prog 183 [s,.int .i64 v] w λ_ r _=>r=.bool (decide (v∈l)):=by refine bZ func183 ntmps183 ?_;refine aq (bp (λI hw=>Up s v I l (hw.now aj)) ?_);rintro v1 bx bc rfl cu;refine bf λI hw=>?_;rw[show decide (v∈l)=bw (0<=fv l v) by rw[cd];exact ao7.2 (wv l v).symm];rfl
theorem ahQ(s1 s2:Value)(w:World)(mL jX:List Int)(fA:aZ al w a7 1 s1 mL)(j7:aZ al w a7 1 s2 jX): bl prog 184 [s1,s2] w λ_ r _=>r=.bool (decide (mL=jX)):=by
 have uI:=fA.le;have sm:=j7.le;refine bZ func184 ntmps184 ?_;refine bC (λh1=>?_) λh1=>?_
 ·rw[aoq,au]at h1;refine bf λI hw=>?_;rw[aoE λh=>h1 (by rw[h])];rfl
 rw[aos,an]at h1;have bU:mL.length=jX.length:=by omega
 refine U ?_;refine bX (λi:Nat=>i<=mL.length/\∀j,j<i->mL.getD j default=jX.getD j default) (λi=>[(13,true,.int .i64 i),(12,true,.int .i64 mL.length),(1,true,s2),(0,true,s1)]) (λs=>Mem [(w,al)] []) (λs=>mL.length-s) (0) ⟨by omega,λj ae=>by omega⟩ ?_ ⟨rfl,rfl,rfl,rfl,trivial⟩ cv
 rintro i ⟨hi,bG⟩;refine a8 (λh2=>?_) λh2=>?_
 ·have bq:i<mL.length:=by rw[an]at h2;omega
  have akO:i<jX.length:=by omega
  refine U ?_;refine cz [0,1,2,3,4,5,6,7,8] mixed ?_;refine aN ?_;refine a8 (λh3=>?_) λh3=>?_
  ·rw[aoq,au]at h3;refine bf λI hw=>?_;rw[aoE λh=>h3 (by rw[h])];rfl
  rw[aos,an]at h3;refine U ?_;refine bm ((i+1)) ⟨by omega,λj ae=>?_⟩ (by omega) (hA:=cv);by_cases kz:j<i
  ·exact bG j kz
  obtain rfl:j=i:=by omega
  exact h3
 rw[au]at h2;refine bf λI hw=>?_;rw[aow (ada bU λj ae=>bG j (by omega))];rfl
end Go.Proofs.bA
namespace Go.Proofs.bA
open Go Go.Proofs Go.Shelf
def acI:Go.Shelf.Ren:=⟨λ| 189=>269 | 125=>157 | 257=>343 | 128=>243 | 129=>244 | 294=>380 | 295=>381 | 296=>382 | 297=>383 | 298=>384 | 299=>385 | 216=>386 | 300=>387 | 301=>388 | 328=>398 | 329=>319 | 330=>320 | 331=>399 | 332=>400 | 215=>401 | 343=>405 | n=>n,λ| 28=>33 | 3=>3 | 46=>156 | 0=>0 | 51=>336 | 53=>81 | 4=>4 | 183=>330 | 182=>329 | 131=>73 | 5=>5 | 9=>9 | 218=>389 | 222=>393 | 228=>413 | 229=>414 | n=>n,λ| n=>n⟩
theorem Ro:Go.Proofs.Lays.n189 prog acI:={
 mixed:=by kernel_rfl
 f125:=func157.trans (aoI some (by kernel_rfl))
 f128:=func243.trans (aoI some (by kernel_rfl))
 f129:=func244.trans (aoI some (by kernel_rfl))
 f189:=func269.trans (aoI some (by kernel_rfl))
 f215:=func401.trans (aoI some (by kernel_rfl))
 f216:=func386.trans (aoI some (by kernel_rfl))
 f257:=func343.trans (aoI some (by kernel_rfl))
 f294:=func380.trans (aoI some (by kernel_rfl))
 f295:=func381.trans (aoI some (by kernel_rfl))
 f296:=func382.trans (aoI some (by kernel_rfl))
 f297:=func383.trans (aoI some (by kernel_rfl))
 f298:=func384.trans (aoI some (by kernel_rfl))
 f299:=func385.trans (aoI some (by kernel_rfl))
 f300:=func387.trans (aoI some (by kernel_rfl))
 f301:=func388.trans (aoI some (by kernel_rfl))
 f328:=func398.trans (aoI some (by kernel_rfl))
 f329:=func319.trans (aoI some (by kernel_rfl))
 f330:=func320.trans (aoI some (by kernel_rfl))
 f331:=func399.trans (aoI some (by kernel_rfl))
 f332:=func400.trans (aoI some (by kernel_rfl))
 f343:=func405.trans (aoI some (by kernel_rfl))
 t0:=underlying0
 a0:=Tryz.isAgg0
 z0:=Tryz.sizeOf0
 v0:=Tryz.zeroValue0
 t3:=underlying3
 a3:=Tryz.isAgg3
 z3:=Tryz.sizeOf3
 v3:=Tryz.zeroValue3
 t4:=underlying4
 a4:=Tryz.isAgg4
 z4:=Tryz.sizeOf4
 v4:=Tryz.zeroValue4
 t5:=underlying5
 a5:=Tryz.isAgg5
 z5:=Tryz.sizeOf5
 v5:=Tryz.zeroValue5
 t9:=underlying9
 a9:=Tryz.isAgg9
 z9:=Tryz.sizeOf9
 v9:=Tryz.zeroValue9
 t28:=underlying33
 a28:=Tryz.isAgg33
 z28:=Tryz.sizeOf33
 v28:=Tryz.zeroValue33
 t46:=underlying156
 a46:=Tryz.isAgg156
 z46:=Tryz.sizeOf156
 v46:=Tryz.zeroValue156
 t51:=underlying336
 a51:=Tryz.isAgg336
 z51:=Tryz.sizeOf336
 v51:=Tryz.zeroValue336
 t53:=underlying81
 a53:=Tryz.isAgg81
 z53:=Tryz.sizeOf81
 v53:=Tryz.zeroValue81
 t131:=underlying73
 a131:=Tryz.isAgg73
 z131:=Tryz.sizeOf73
 v131:=Tryz.zeroValue73
 t182:=underlying329
 a182:=Tryz.isAgg329
 z182:=Tryz.sizeOf329
 v182:=Tryz.zeroValue329
 t183:=underlying330
 a183:=Tryz.isAgg330
 z183:=Tryz.sizeOf330
 v183:=Tryz.zeroValue330
 t218:=underlying389
 a218:=Tryz.isAgg389
 z218:=Tryz.sizeOf389
 v218:=Tryz.zeroValue389
 t222:=underlying393
 a222:=Tryz.isAgg393
 z222:=Tryz.sizeOf393
 v222:=Tryz.zeroValue393
 t228:=underlying413
 a228:=Tryz.isAgg413
 z228:=Tryz.sizeOf413
 v228:=Tryz.zeroValue413
 t229:=underlying414
 a229:=Tryz.isAgg414
 z229:=Tryz.sizeOf414
 v229:=Tryz.zeroValue414}
end Go.Proofs.bA
namespace Go.bM
def pS(xs:List Int):List Int:=xs.mergeSort λx y=>decide (x<=y)
theorem Uv(xs:List Int):(pS xs).length=xs.length:=List.length_mergeSort xs
theorem G0(xs:List Int):(pS xs).Perm xs:=aql xs _
theorem Am(xs:List Int):xs.flatMap a7=xs.map (Value.int .i64):=by
 induction xs with
 | nil=>rfl
 | cons x xs bP=>rw[ao8,bP];rfl
end Go.bM
namespace Go.Proofs.bA
open Go Go.b9 Go.bM Go.Proofs Go.RowKit
theorem aib(v:Value)(xs:List Int)(w:World)(hx:xs.length* 8<=140737488351232)(hw:Mem [] [.own v 3 1 a7 xs] w): oy prog 269 [v] (.own v 3 1 a7 xs) w λ_ r e' _=>r=.tuple #[]/\e'=.own v 3 1 a7 (pS xs):=by
 have gY:=hw.fC _ aP;obtain⟨aL,bn⟩:=hw.own _ aP;unfold oy;rcases bn with⟨rfl,h0⟩ | ⟨g,cap,cur,rfl,az,eC,bd,hm,ej,gj⟩
 ·have:xs=[]:=aoY h0;subst this;refine(Any.slices_Sort_int_none Ro none 0 w).mono ?_;rintro e I ⟨rfl,rfl⟩;unfold r1;have qF:pS []=[]:=by unfold pS;exact List.mergeSort_nil
  exact⟨_,_,rfl,⟨rfl,rfl⟩,by rw[qF];exact zg hw⟩
 have CV:cur.toList.take xs.length=xs.map (Value.int .i64):=by rw[ara]at gj;rw[gj,Am]
 have CA:g<w.heap.size:=gY g (by simp[aB.cN,Value.ownBlock]);refine(Any.slices_Sort_int Ro g 0 cap xs w (holds_of_blockI eC CV) CA (by omega)).mono ?_;rintro e I ⟨rfl,n,os,rfl⟩;unfold r1;refine⟨_,_,rfl,⟨rfl,rfl⟩,?_⟩;have gN:=grownBy_sortedI (w:=w) (g:=g) (n:=n) (os:=os) (pS xs).toArray;refine(zg hw).q9 (i:=0) rfl gN.os gN.tape gN.output gN.size (λk hk dS=>gN.block k hk λe=>dS (by simp[aB.cN,Value.ownBlock];cases e;rfl)) ?_ (λk hk=>?_) λk hk=>.inl hk
 ·have:=ownsRow_sortedI (base:=0) (n:=n) (os:=os) (ts:=pS xs) (Uv xs) (aoD _) eC bd hm ej;show World.ownsRow _ 0 3 1 _ (pS xs).length ((pS xs).flatMap a7);rw[Am,Uv];exact this
 exact apJ (gY k hk) gN.size
def upto{α:Type}(f:Nat->α)(k:Nat):List α:=(List.range k).map f
theorem Vd{α:Type}(f:Nat->α)(k:Nat):upto f (k+1)=upto f k++[f k]:=by simp[upto,ape]
theorem ajr{α:Type}(f:Nat->α)(k:Nat):(upto f k).length=k:=by simp[upto]
theorem ajp(zs:List Int):upto (λj=>zs[j]?.getD 0) zs.length=zs:=by
 apply apq
 ·simp[upto]
 intro i h1 h2;simp[upto,h2]
theorem ajt(zs:List Int){k:Nat}(hk:k<=zs.length):upto (λj=>zs[j]?.getD 0) k=zs.take k:=by
 apply apq
 ·simp[upto,hk]
 intro i h1 h2;have:i<zs.length:=by simp[upto]at h1;omega
 simp[upto,this]
section
attribute [local go_sem] Oper.semAt_some
set_option maxRecDepth 100000 in
theorem ajA(F:Fence)(n:Nat)(hf:F.fn 270)(pK:F.round=none)(bd:1<=n)(l jd mj b off len cap:Nat)(zs:List Int)(QA:len* 8<=140737488351232)(hb:b<mj)(ee Ec:List Int->World->Prop) (IG:∀pre x W,ee pre W->pre.length<len->YieldAt F (n-1) prog l #[.int .i64 x] W λe mw=>(e=.returned (.bool true)/\ee (pre++[x]) mw/\Below mj W mw)\/(e=.returned (.bool false)/\Ec (pre++[x]) mw)) (W:World) (Co:W.cell? ⟨jd,0,none⟩=some (.slice (some ⟨b,off,none⟩) len cap)) (ai:∀j,j<len->W.cell? ⟨b,off+j,none⟩=some (.int .i64 (zs[j]?.getD 0))) (h0:ee [] W): CallsIn F n prog 270 #[.func (.yield l) #[] #[],av jd] W λe mw=>(∃v,e=.returned v)/\ ((∃ys,ys=upto (λj=>zs[j]?.getD 0) len/\ee ys mw)\/(∃pre,(∃k,k<=len/\pre=upto (λj=>zs[j]?.getD 0) k)/\Ec pre mw)):=by
 refine callsIn_of_wp func270 rfl hf ?_ pK;simp only[ntmps270,ap8,aoN,ao1,Nat.reduceAdd,Nat.reduceSub,Array.replicate_succ,Array.replicate_zero,List.push_toArray,List.append_toArray,apb,aqu]
 gi_wp2
 gi_loopw [7] (λi wr=>∃k:Nat,k<=len/\i=.int .i64 k/\ee (upto (λj=>zs[j]?.getD 0) k) wr/\Below mj W wr) λi _=>len-(intOf i).toNat
 case atStart=>exact⟨0,aoD _,rfl,h0,Below.refl _ _⟩
 case round=>
  obtain⟨k,hk,rfl,E4,Qh⟩:=hrel;have vW:k<len->wr.cell? ⟨b,off+k,none⟩=some (.int .i64 (zs[k]?.getD 0)):=λh=>(Qh.cell (p:=⟨b,off+k,none⟩) hb).trans (ai k h);by_cases dq:k<len
  ·obtain⟨fn,tmps,assign,body,aY,cj⟩:=IG _ (zs[k]?.getD 0) wr E4 (by rw[ajr];exact dq);have alf:=vW dq
   gi_wp2
   refine cj.mono ?_;rintro e aks (⟨rfl,Zg,aac⟩ | ⟨rfl,Zh⟩)
   ·gi_wp2
    go_roundw
    case rel=>exact⟨k+1,by omega,by simp,by rw[Vd];exact Zg,Qh.trans aac⟩
    case measure=>simp[intOf];omega
   gi_wp2
   refine bodyPost_ret (results_none rfl _ _ _) rfl ?_;exact⟨⟨_,rfl⟩,.inr ⟨_,⟨k+1,by omega,(Vd _ _).symm⟩,Zh⟩⟩
  obtain rfl:k=len:=by omega
  gi_wp2
  go_end0
  exact⟨⟨_,rfl⟩,.inl ⟨_,rfl,E4⟩⟩
def zK(mj:Nat)(W:World)(aK:Value)(zs:List Int):Prop:=(∃a cap,aK=.slice a 0 cap/\zs=[])\/∃b off cap,aK=.slice (some ⟨b,off,none⟩) zs.length cap/\b<mj/\∀j,j<zs.length->W.cell? ⟨b,off+j,none⟩=some (.int .i64 (zs[j]?.getD 0))
theorem zK.below{mj:Nat}{A B:World}(h:Below mj A B){aK:Value}{zs:List Int}:zK mj A aK zs->zK mj B aK zs
 | .inl e=>.inl e
 | .inr ⟨b,off,cap,e,hb,ai⟩=>.inr ⟨b,off,cap,e,hb,λj ae=>(h.cell (p:=⟨b,off+j,none⟩) hb).trans (ai j ae)⟩
set_option maxRecDepth 100000 in
theorem ajB(F:Fence)(n:Nat)(hf:F.fn 270)(pK:F.round=none)(l jd cap:Nat)(a:Option Addr)(ee:List Int->World->Prop)(W:World)(Co:W.cell? ⟨jd,0,none⟩=some (.slice a 0 cap))(h0:ee [] W): CallsIn F n prog 270 #[.func (.yield l) #[] #[],av jd] W λe mw=>(∃v,e=.returned v)/\ee [] mw:=by
 refine callsIn_of_wp func270 rfl hf ?_ pK;simp only[ntmps270,ap8,aoN,ao1,Nat.reduceAdd,Nat.reduceSub,Array.replicate_succ,Array.replicate_zero,List.push_toArray,List.append_toArray,apb,aqu]
 gi_wp2
 gi_loopw [7] (λi wr=>i=.int .i64 0/\ee [] wr) λ_ _=>0
 case atStart=>exact⟨rfl,h0⟩
 case round=>
  obtain⟨rfl,E4⟩:=hrel
  gi_wp2
  go_end0
  exact⟨⟨_,rfl⟩,E4⟩
theorem ajC(F:Fence)(n:Nat)(hf:F.fn 270)(pK:F.round=none)(bd:1<=n)(jd mj:Nat)(aK:Value)(zs:List Int)(QA:zs.length* 8<=140737488351232)(w:World)(Co:jd<w.heap.size)(yO:mj<=w.heap.size) (ai:w.cell? ⟨jd,0,none⟩=some aK) (fs:zK mj w aK zs): SeqStopsK F n prog 270 #[av jd] (λx:Int=>#[Value.int .i64 x]) (Below mj) (λys=>ys=zs) (λpre=>pre <+:zs) zs.length w:=λl ee Ec W xt _ _ IG h0=>by
 have PT:=(xt.cell (p:=⟨jd,0,none⟩) Co).trans ai;rcases fs.below (xt.mono yO)with⟨a,cap,rfl,rfl⟩ | ⟨b,off,cap,rfl,hb,fP⟩
 ·exact(ajB F n hf pK l jd cap a ee W PT h0).mono λe mw ⟨he,ae⟩=>⟨he,.inl ⟨_,rfl,ae⟩⟩
 refine(ajA F n hf pK bd l jd mj b off zs.length cap zs QA hb ee Ec IG W PT fP h0).mono ?_;rintro e mw ⟨he,⟨ys,rfl,ae⟩ | ⟨pre,⟨k,hk,rfl⟩,ae⟩⟩
 ·exact⟨he,.inl ⟨_,ajp zs,ae⟩⟩
 exact⟨he,.inr ⟨_,by rw[ajt zs hk];exact List.take_prefix _ _,ae⟩⟩
theorem abG:(prog.info? 3).map (λi=>(i.zero,i.size,i.bytes))=some (some (.int .i64 0),1,8):=by kernel_rfl
set_option maxRecDepth 100000 in
theorem Wp(F:Fence)(n:Nat)(hf:F.fn 342)(ax:F.fn 270)(pK:F.round=none)(bd:3<=n)(jd:Nat)(aK:Value)(zs:List Int)(bH:zs.length* 8<=140737488351232)(w:World)(Co:jd<w.heap.size) (ai:w.cell? ⟨jd,0,none⟩=some aK) (fs:zK w.heap.size w aK zs): CallsIn F n prog 342 #[aa,.func (.func 270) #[] #[av jd]] w λe mw=>∃v,e=.returned v/\mw.ownsRow w.heap.size 3 1 v zs.length (zs.map (Value.int .i64))/\Below w.heap.size w mw:=by
 have h1:1<=n:=by omega
 obtain⟨i0,hi,C2,C3,C4⟩:=info_parts abG;refine callsIn_of_wp_marks func342 rfl hf ?_ pK;simp only[ntmps342,ap8,aoN,ao1,Nat.reduceAdd,Nat.reduceSub,Array.replicate_succ,Array.replicate_zero,List.push_toArray,List.append_toArray,apb,aqu]
 gi_wp2
 have Wy:=Boxed.new w 33 aa;have Cn:Below w.heap.size w (w.alloc (.cells #[aa] 33)):=(Below.refl _ w).alloc (aoL _) _;refine wpIn_rangeFunc_ownG pK h1 (gf:=270) (lb:=#[av jd]) rfl ax (enters_of func270 (by kernel_rfl) rfl) (ajC F (n-1) ax pK (by omega) jd w.heap.size aK zs (by omega) _ (by simp;omega) (by simp) ((Cn.cell (p:=⟨jd,0,none⟩) Co).trans ai) (fs.below Cn)) belowK_t (belowK_b (by simp)) (Below.refl _ _) (λ_=>rfl) (λpre W=>(∃v,Boxed W w.heap.size 33 v/\W.ownsRow w.heap.size 3 1 v pre.length (pre.map (Value.int .i64))/\True)/\Below w.heap.size w W) (λ_ _ _=>False) (OwnFrom.and (Own.from (holdsRow_own w.heap.size w.heap.size 33 3 1 (λ(pre:List Int)=>pre.length) (λpre=>pre.map (Value.int .i64)) λ_ _=>True) _) (ownFrom_below (aoL _) (by simp))) (λ_ _ _ _ _ aj _ _=>aj) ⟨⟨_,Wy,World.ownsRow_nil _ _ _ _,trivial⟩,Cn⟩ (λx=>{tmps:=#[aa,.func (.func 270) #[] #[av jd],.pointer (some ⟨w.heap.size,0,none⟩),undef,aa,.int .i64 x,.func (.func 270) #[] #[av jd],.int .i64 x,undef,undef,undef,undef,undef],defers:=[]}) ?assign ?body ?done ?stop
 case assign=>
  intro l x W K jR
  gi_wp2
  exact jR
 case body=>
  rintro l pre x W ⟨⟨v,ax,lO,_⟩,hB⟩ dq;have ai:=ax.cell
  gi_wp2_with (gi_at_builtin;refine wpListIn_append_own _ rfl _ _ 33 rfl w.heap.size 3 i0 (.int .i64 0) 1 8 underlying33 hi C2 C3 C4 rfl (by decide) _ _ _ rfl (lO.alloc _) ⟨W.heap.size,0,none⟩ 1 1 [.int .i64 x] rfl rfl (cell_one_new _ _ _) (by simp[Value.oneCell']) (by unfold maxLen;omega) (by omega) (by have:=hB.size;simp;omega) ?_;intro dG bc Qm Z3 _;obtain⟨nD,Ca,rfl⟩:=ownsRow_succ Qm;obtain⟨jy,hS,tE,l9,IM⟩:=ax.appended (by decide) lO hB.size (aoL _) Qm Z3;have ald:=jy.cell;have alj:=jy.frozen)
  exact⟨l9.from _,IM,⟨_,hS,by simpa using tE,trivial⟩,hB.trans IM⟩
 case done=>
  rintro D ys W E3 rfl ⟨⟨v,ax,lO,_⟩,hB⟩ jR;have ai:=ax.cell
  gi_wp2
  refine⟨by simp,.inl ⟨_,_,rfl,run_takeDeferred jR,?_⟩⟩;exact⟨_,results_tmp rfl _ _ _,v,rfl,ownsRow_putObj lO _ jR rfl,hB.trans (belowK_b (w:=w) (aoL _) W D _ _ (by simp at E3;omega) jR rfl rfl)⟩
 case stop=>rintro D c pre W _ _ h _;exact h.elim
end
end Go.Proofs.bA
namespace Go.Proofs.bA
open Go.RowKit
theorem Q4{w:World}{aK:Value}{zs:List Int}(h:aZ al w a7 1 aK zs):zK w.heap.size w aK zs:=by
 obtain⟨a,n,cap,rfl,bd,_,_,fQ⟩:=h.is;subst bd;by_cases h0:zs=[]
 ·subst h0;exact .inl ⟨a,cap,rfl,rfl⟩
 have oJ:0<zs.length:=List.length_pos_iff.2 h0;obtain⟨A,rfl⟩:=apf.1 (fQ oJ);have Fc:∀j,j<zs.length->w.cell? (A.add j)=some (.int .i64 (zs[j]?.getD 0)):=λj ae=>by have:=h.cell j (zs[j]) 0 (.int .i64 zs[j]) (aov ae) rfl;simp only[gT,ara,add_add,Nat.add_zero]at this;rw[this,aov ae];rfl
 obtain⟨b,off,sp⟩:=A;have xq:=Fc 0 oJ;have uM:sp=none:=by
  cases sp with
  | none=>rfl
  | some x=>
   exfalso;rw[NA]at xq;unfold World.cell? at xq;split at xq
   ·simp at xq
   cases xq
 subst uM;refine .inr ⟨b,off,cap,rfl,?_,λj ae=>?_⟩
 ·have:=World.block_lt_of_cell? w _ xq;rwa[B1]at this
 have:=Fc j ae;unfold Addr.add at this;by_cases P9:j=0
 ·subst P9;simpa using this
 simpa[P9]using this
def GY(b:Nat):Value:=.func (.func 270) #[] #[av b]
theorem Wq(jd:Nat)(aK:Value)(zs:List Int)(w:World)(bH:zs.length* 8<=140737488351232)(ai:w.cell? ⟨jd,0,none⟩=some aK)(aj:aZ al w a7 1 aK zs): en prog 342 [aa,GY jd] w λ_ v es _=>aD v/\es=[.own v 3 1 a7 zs]:=by
 unfold en;have h:=callsIn_wide.1 (Wp Fence.wide 5 trivial trivial rfl (by decide) jd aK zs bH w (World.block_lt_of_cell? w _ ai) ai (Q4 aj));refine h.mono ?_;rintro e I ⟨v,rfl,bn,hb⟩;unfold rj;have hr:aD v:=by rcases bn.2 with⟨rfl,_⟩ | ⟨g,cap,cur,rfl,_⟩<;>exact⟨_,_,_,rfl⟩
 have mE:∀k,k∈(aB.own v 3 1 a7 zs).cN->k<I.heap.size/\w.heap.size<=k:=λk hk=>by
  rcases bn.2 with⟨rfl,_⟩ | ⟨g,cap,cur,rfl,az,eC,_⟩
  ·simp[aB.cN,Value.ownBlock]at hk
  simp only[aB.cN,Value.ownBlock,Option.mem_toList,Option.mem_some_iff]at hk;obtain rfl:g=k:=aqW hk;exact⟨(aqe.1 eC).1,az⟩
 refine⟨v,_,rfl,⟨hr,rfl⟩,⟨λB hB=>?_,λe he=>?_,λe he k hk=>?_,λB hB e he k hk _=>?_,λi j gh gr iw hi ae=>?_⟩⟩
 ·rw[aoB.1 hB];exact⟨hb.os,hb.tape,hb.output,hb.size,λk hk _=>hb.block k hk⟩
 ·rw[aoB.1 he];show World.ownsRow I 0 3 1 v zs.length (zs.flatMap a7);rw[Am];exact⟨bn.1,bn.2.imp id λ⟨g,cap,cur,a,_,r⟩=>⟨g,cap,cur,a,aoD _,r⟩⟩
 ·rw[aoB.1 he]at hk;exact(mE k hk).1
 ·rw[aoB.1 he]at hk;rw[aoB.1 hB];exact(mE k hk).2
 cases i<;>cases j<;>simp_all
end Go.Proofs.bA
namespace Go.Proofs.bA
theorem ahy(jd:Nat)(aK:Value)(zs:List Int)(w:World)(bH:zs.length* 8<=140737488351232)(ai:w.cell? ⟨jd,0,none⟩=some aK)(aj:aZ al w a7 1 aK zs): en prog 268 [GY jd] w λ_ v es _=>aD v/\es=[.own v 3 1 a7 zs]:=by refine hL func268 ntmps268 ?_;refine aq (gi (λI hw=>Wq jd aK zs I bH (z1 (hw.base _ aP) trivial ai) (hw.now aj)) ?_);rintro v bx es bc ⟨ax,rfl⟩;refine U ?_;exact et rfl (.t1 rfl) [_] [0] λI hw=>⟨ax,rfl⟩
theorem aiB(aK:Value)(w:World)(ax:aD aK): en prog 186 [aK] w λ_ v es _=>∃b,v=GY b/\es=[.box b [aK] 33]:=by refine hL func186 ntmps186 ?_;refine b7 λb=>?_;exact et rfl (.t1 rfl) [_] [0] λI hw=>⟨b,rfl,rfl⟩
theorem aic(jd:Nat)(aK:Value)(zs:List Int)(w:World)(bH:zs.length* 8<=140737488351232)(ai:w.cell? ⟨jd,0,none⟩=some aK)(aj:aZ al w a7 1 aK zs): en prog 185 [GY jd] w λ_ v es _=>aD v/\es=[.own v 3 1 a7 (pS zs)]:=by refine hL func185 ntmps185 ?_;refine aq (gi (λI hw=>ahy jd aK zs I bH (z1 (hw.base _ aP) trivial ai) (hw.now aj)) ?_);rintro v bx es bc ⟨ax,rfl⟩;refine U ?_;refine aq (uB 0 rfl (bb:=λI hw=>aib v zs I bH (hw.only aP)) (ab:=?_));rintro r ck e' bY ⟨rfl,rfl⟩;refine U ?_;exact et rfl (.t1 rfl) [_] [0] λI hw=>⟨ax,rfl⟩
end Go.Proofs.bA
