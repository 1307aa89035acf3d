/- Lemmas for the law WholeSound. -/
import Derived.Test.YtiknadellddjhaaGreatDoorS04
set_option linter.all false
open Go.Proofs.Tryz
set_option maxHeartbeats 4000000
open Go Go.cc Go.bU
attribute [local irreducible] Go.wpList Go.Code.wp Go.bodyPost Go.Exit.then Go.Exit.inBlock Go.Calls
namespace Go.bU
def mW(t:a1)(i:Nat):List (List Int):=(List.range t.bb.length).map λ(k:Nat)=>rH t (k:Int) i
theorem ais(t:a1)(i:Nat):(mW t i).length=t.bb.length:=by simp[mW]
theorem aiw(t:a1):mW t 0=List.replicate t.bb.length []:=by unfold mW;rw[List.eq_replicate_iff];refine⟨by simp,λb hb=>?_⟩;obtain⟨k,_,rfl⟩:=am1.1 hb;rfl
theorem aiu(t:a1){i:Nat}(h:¬(t.J.getD i default).dir=2):mW t (i+1)=mW t i:=by unfold mW;refine an0 λk _=>?_;rw[UE,amn (by unfold n0;rw[amy h];simp),amB]
theorem L7(t:a1)(i:Nat){k:Nat}(hk:k<t.bb.length):(mW t i).getD k default=rH t (k:Int) i:=by unfold mW;rw[aml,amZ,ann hk];rfl
theorem ait(t:a1){i:Nat}(h:(t.J.getD i default).dir=2){k:Nat}(hk:k<t.bb.length)(aB:(t.J.getD i default).loc=(k:Int)):(mW t i).set k ((mW t i).getD k default++[(i:Int)])=mW t (i+1):=by
 rw[L7 t i hk];apply anw (by simp[mW]);intro j h1 h2;simp only[mW,List.getElem_set,List.getElem_map,List.getElem_range,UE];by_cases fM:k=j
 ·subst fM;rw[amo rfl,amo (by unfold n0;rw[amq h,amq aB];rfl)]
 rw[amn fM,amn (by unfold n0;rw[aB,amy (show ¬(k:Int)=(j:Int) by omega)];simp),amB]
def rr(t:a1)(i:Nat):List Int:=if(t.J.getD i default).dir=1 then -1::wr t (t.J.getD i default).loc else [-1]
def pb(t:a1)(i:Nat):List (List Int):=(List.range t.J.length).map λk=>if k<i then rr t k else []
def uD(t:a1):List (List Int):=(List.range t.J.length).map (rr t)
def n1(t:a1):List (List Int):=(List.range t.bb.length).map λ(k:Nat)=>wr t (k:Int)
theorem air(t:a1):mW t t.J.length=n1 t:=rfl
theorem aiv(t:a1)(i k:Nat):((mW t i).getD k default).length<=i:=by
 by_cases hk:k<t.bb.length
 ·rw[L7 t i hk];exact GM _ _ _
 rw[aml,amR (by simp[mW];omega)];exact amz _
theorem aeU(t:a1)(i:Nat):(pb t i).length=t.J.length:=by simp[pb]
theorem aeV(t:a1):pb t 0=List.replicate t.J.length []:=by unfold pb;rw[List.eq_replicate_iff];refine⟨by simp,λb hb=>?_⟩;obtain⟨k,_,rfl⟩:=am1.1 hb;rfl
theorem aeT(t:a1):pb t t.J.length=uD t:=by unfold pb uD;refine an0 λk hk=>?_;rw[amo (amH.1 hk)]
theorem St(t:a1){i:Nat}{x:List Int}(hx:x=rr t i):(pb t i).set i x=pb t (i+1):=by
 subst hx;apply anw (by simp[pb]);intro j h1 h2;simp only[pb,List.getElem_set,List.getElem_map,List.getElem_range];by_cases hN:i=j
 ·subst hN;rw[amo rfl,amo (by omega)]
 rw[amn hN];by_cases kh:j<i
 ·rw[amo kh,amo (by omega)]
 rw[amn kh,amn (by omega)]
theorem GF{t:a1}(h:gL t=true){i:Nat}(hi:i<t.J.length):0<=(t.J.getD i default).loc/\(t.J.getD i default).loc<t.bb.length:=by simp only[gL,ami,oP,fX]at h;have:=h.1.1.1.1.1.2.2 i hi;simp only[pY,vg,ami,amj]at this;exact⟨this.1.1.1.1.1.1.2,this.1.1.1.1.1.2⟩
end Go.bU
namespace Go.Proofs.bK
theorem Wx{lv aj aN bv aK aX ae aU bE:Value}{t:a1}(w:World)(h:ha an w lv aj aN bv aK aX ae aU bE t)(hok:gL t=true): bj prog 95 [.agg #[lv,aj,aN,bv,aK,aX,ae,aU,bE]] w λm v I=>∃aJ iU,v=.agg #[aJ,iU]/\wB (Fr m) I aJ (uD t)/\wB (Fr m) I iU (n1 t):=by
 have cP:=h.J;have c6:=h.bb;obtain⟨hb,w0⟩:=lD hok;refine ca func95 ntmps95 ?_;refine ck λaT=>?_;refine cU λaO=>?_;refine h7 (λs:Nat×Value×Value=>aD s.2.1/\aD s.2.2) (λs=>[(3,true,.pointer (some ⟨s.1,0,none⟩)),(2,true,ax aO),(1,true,ax aT)]) (λs=>Mem [(w,an)] [.box s.1 [s.2.1,s.2.2] 142,.own s.2.2 33 1 cD (List.replicate t.bb.length U),.own s.2.1 33 1 cD (List.replicate t.J.length U),.box aO [U,U] 142,.box aT [lv,aj,aN,bv,aK,aX,ae,aU,bE] 41]) ?_ ?_
 ·skip
  refine fs (Mem [(w,an)] [.box aO [U,U] 142,.box aT [lv,aj,aN,bv,aK,aX,ae,aU,bE] 41]) [0,1,2,4,5,6,999] mixed c7 ?_;refine aP ?_;refine Fl 3 7 9 (h1:=?_) (h2:=?_) (h3:=?_)
  ·refine cB [999] _ (h:=ix cD l6 33 1 24 U (ab:=?_));intro aJ fv;refine aF ?_ (bM [1,2]);refine nn 7 9 ?_ ?_
   ·refine cB [8,999] _ (h:=ix cD l6 33 1 24 U (ab:=?_));intro iU oZ;refine aF (aP ?_) (bM [2,3]);refine eo 9 ?_;refine cB [10] _ (h:=ft ?_);intro hc;refine aF ?_ (bM [3,4]);refine hz (h:=bD 0 (ab:=?_));exact bZ (hc,aJ,iU) ⟨fv,oZ⟩ (hA:=bM [0,1,2,3,4])
   refine cB [999] _ (h:=ft ?_);intro hc;refine aF ?_ (bM [2,3]);refine eo 7 ?_;refine cB [8,10] _ (h:=ix cD l6 33 1 24 U (ab:=?_));intro iU oZ;refine aF (aP ?_) (bM [3,4]);refine hz (h:=bD 1 (ab:=?_));exact bZ (hc,aJ,iU) ⟨fv,oZ⟩ (hA:=bM [1,0,2,3,4])
  ·refine cB [999] _ (h:=ix cD l6 33 1 24 U (ab:=?_));intro iU oZ;refine aF ?_ (bM [1,2]);refine nn 3 9 ?_ ?_
   ·refine cB [8,999] _ (h:=ix cD l6 33 1 24 U (ab:=?_));intro aJ fv;refine aF (aP ?_) (bM [2,3]);refine eo 9 ?_;refine cB [10] _ (h:=ft ?_);intro hc;refine aF ?_ (bM [3,4]);refine hz (h:=bD 0 (ab:=?_));exact bZ (hc,aJ,iU) ⟨fv,oZ⟩ (hA:=bM [0,2,1,3,4])
   refine cB [999] _ (h:=ft ?_);intro hc;refine aF ?_ (bM [2,3]);refine eo 3 ?_;refine cB [8,10] _ (h:=ix cD l6 33 1 24 U (ab:=?_));intro aJ fv;refine aF (aP ?_) (bM [3,4]);refine hz (h:=bD 1 (ab:=?_));exact bZ (hc,aJ,iU) ⟨fv,oZ⟩ (hA:=bM [1,2,0,3,4])
  refine cB [999] _ (h:=ft ?_);intro hc;refine aF ?_ (bM [1,2]);refine nn 3 7 ?_ ?_
  ·refine cB [999] _ (h:=ix cD l6 33 1 24 U (ab:=?_));intro aJ fv;refine aF ?_ (bM [2,3]);refine eo 7 ?_;refine cB [8,10] _ (h:=ix cD l6 33 1 24 U (ab:=?_));intro iU oZ;refine aF (aP ?_) (bM [3,4]);refine hz (h:=bD 2 (ab:=?_));exact bZ (hc,aJ,iU) ⟨fv,oZ⟩ (hA:=bM [2,0,1,3,4])
  refine cB [999] _ (h:=ix cD l6 33 1 24 U (ab:=?_));intro iU oZ;refine aF ?_ (bM [2,3]);refine eo 3 ?_;refine cB [8,10] _ (h:=ix cD l6 33 1 24 U (ab:=?_));intro aJ fv;refine aF (aP ?_) (bM [3,4]);refine hz (h:=bD 2 (ab:=?_));exact bZ (hc,aJ,iU) ⟨fv,oZ⟩ (hA:=bM [2,1,0,3,4])
 rintro⟨hc,aJ,iU⟩ ⟨fv,oZ⟩;dsimp only at fv oZ⊢;refine Qj 3 t.bb.length ?_;rw[<-aiw];simp only[aoI,anf];refine aa ?_;refine b9 (λs:Nat×List Value=>s.1<=t.J.length/\s.2.length=t.bb.length/\∀v,v∈s.2->aD v) (λs=>[(20,true,.int .i64 s.1),(19,true,.int .i64 t.J.length),(18,true,aN),(3,true,ax hc),(2,true,ax aO),(1,true,ax aT)]) (λs=>Mem [(w,an)] (.box hc [aJ,iU] 142::.own iU 33 1 cD s.2::.own aJ 33 1 cD (List.replicate t.J.length U)::.box aO [U,U] 142::.box aT [lv,aj,aN,bv,aK,aX,ae,aU,bE] 41::inner 3 s.2 (mW t s.1))) (λs=>t.J.length-s.1) (0,List.replicate t.bb.length U) ⟨amz _,amS,λv aw=>?_⟩ ?_ ⟨rfl,rfl,rfl,rfl,rfl,rfl,trivial⟩ c7
 ·rw[List.eq_of_mem_replicate aw];exact⟨_,_,_,rfl⟩
 rintro⟨i,vs⟩ ⟨hi,jn,jR⟩;dsimp only at hi jn jR⊢;refine bg (λh1=>?_) λh1=>?_
 ·have cb:i<t.J.length:=by rw[aq]at h1;omega
  have ni:=GF hok cb;refine aa ?_;refine cU λeN=>?_;refine bQ 0 ?_;refine bA (λh2=>?_) λh2=>?_
  ·rw[aq]at h2;obtain⟨l,aB⟩:∃l:Nat,(t.J.getD i default).loc=(l:Int):=⟨(t.J.getD i default).loc.toNat,by omega⟩;have dn:(t.J.getD i default).loc.toNat=l:=by omega
   have ja:l<vs.length:=by omega
   have ZK:=aiv t i l;refine fs (Mem [(w,an)] [.box eN (ec (t.J.getD i default)) 138,.box hc [aJ,iU] 142,.own iU 33 1 cD vs,.box aT [lv,aj,aN,bv,aK,aX,ae,aU,bE] 41]) [0,1,2,3,4,5,6,7,8,9,10,11,12,13,14] mixed (bV [0,1,2,5]) ?_;refine aP ?_;refine bL _ (h:=eA bd q4 (e:=3) (sz:=1) (len:=1) (dF:=[(0,[.int .i64 i])]) (ab:=?_));intro v5 om;refine aF (aP ?_) (bV [1,2,3,6]);rw[dn];refine bL _ (h:=e6 (l+7) (hk:=Fg 3 (vs:=vs) (xss:=mW t i) (by rw[jn,ais]) ja) (bG:=by simp only[List.map,amI,amW];omega) (ab:=?_));intro v6 mH;refine aF (aP ?_) (bV [1,2,3,6]);refine hz (h:=fB 3 rfl _ (ab:=aa ?_));refine bt (i+1,vs.set l v6) ⟨by dsimp only;omega,by simpa using jn,λv aw=>?_⟩ (by dsimp only;omega) (hA:=λI h=>?_)
   ·rcases List.mem_or_eq_of_mem_set aw with aw | rfl
    ·exact jR v aw
    exact mH
   have cr:=h.tail.tail;rw[dn]at cr;have bC:=JA 3 vs (mW t i) l v6 ((mW t i).getD l default++[(i:Int)]);rw[ait t h2 (by omega) aB]at bC;dsimp only;rw[<-bC];exact cr
  rw[ar]at h2;refine aa ?_;exact bt (i+1,vs) ⟨cb,jn,jR⟩ (by dsimp only;omega) (hA:=λ_ h=>by rw[aiu t h2];exact h.tail)
 have hy:i=t.J.length:=by rw[ar]at h1;omega
 subst hy;refine aa ?_;refine Qj 3 t.J.length ?_;rw[<-aeV];simp only[aoI,anf];refine b9 (λs:Nat×List Value=>s.1<=t.J.length/\s.2.length=t.J.length/\∀v,v∈s.2->aD v) (λs=>[(46,true,.int .i64 s.1),(45,true,.int .i64 t.J.length),(44,true,aN),(3,true,ax hc),(2,true,ax aO)]) (λs=>Mem [(w,an)] (.box hc [aJ,iU] 142::.own iU 33 1 cD vs::.own aJ 33 1 cD s.2::.box aO [U,U] 142::.box aT [lv,aj,aN,bv,aK,aX,ae,aU,bE] 41::(inner 3 vs (n1 t)++inner 3 s.2 (pb t s.1)))) (λs=>t.J.length-s.1) (0,List.replicate t.J.length U) ⟨amz _,amS,λv aw=>?_⟩ ?_ ⟨rfl,rfl,rfl,rfl,rfl,trivial⟩ c7
 ·rw[List.eq_of_mem_replicate aw];exact⟨_,_,_,rfl⟩
 rintro⟨i,rs⟩ ⟨hi,eP,ig⟩;dsimp only at hi eP ig⊢;have Jl:vs.length=(n1 t).length:=by simp[n1,jn]
 have gB:(inner 3 vs (n1 t)).length=vs.length:=aax _ Jl;refine bg (λh1=>?_) λh1=>?_
 ·have cb:i<t.J.length:=by rw[aq]at h1;omega
  have ni:=GF hok cb;obtain⟨l,aB⟩:∃l:Nat,(t.J.getD i default).loc=(l:Int):=⟨(t.J.getD i default).loc.toNat,by omega⟩;have dn:(t.J.getD i default).loc.toNat=l:=by omega
  have ja:l<vs.length:=by omega
  have oo:(n1 t).getD l default=wr t (t.J.getD i default).loc:=by rw[aB,<-air,L7 t _ (by omega)];rfl
  have ZK:=GM t (t.J.getD i default).loc t.J.length;have j3:rs.length=(pb t i).length:=by rw[eP,aeU]
  refine aa ?_;refine cU λeN=>?_;refine bQ 0 ?_;refine ao (eA _ _ (ab:=λv4 vE=>aa ?_));refine ao (fB 4 rfl _ (ab:=?_));refine cJ (Mem [(w,an)] (.box eN (ec (t.J.getD i default)) 138::.box hc [aJ,iU] 142::.own iU 33 1 cD vs::.own aJ 33 1 cD (rs.set i v4)::.box aO [U,U] 142::.box aT [lv,aj,aN,bv,aK,aX,ae,aU,bE] 41::(inner 3 vs (n1 t)++inner 3 (rs.set i v4) ((pb t i).set i [-1])))) (λI h=>?_) ?_
  ·have cr:=h.put (6+((inner 3 vs (n1 t)).length+i));rw[Nat.add_comm 6]at cr;rw[<-JA,<-To];exact cr
  have Cd:∀v,v∈rs.set i v4->aD v:=λv aw=>by
   rcases List.mem_or_eq_of_mem_set aw with aw | rfl
   ·exact ig v aw
   exact vE
  refine bg (λh2=>?_) λh2=>?_
  ·rw[aq]at h2;have zS:(rs.set i v4).length=t.J.length:=by rw[amQ];exact eP
   refine fs (Mem [(w,an)] [.box eN (ec (t.J.getD i default)) 138,.box hc [aJ,iU] 142,.own iU 33 1 cD vs,.own aJ 33 1 cD (rs.set i v4),.box aT [lv,aj,aN,bv,aK,aX,ae,aU,bE] 41]) [0,1,2,3,4,5,6,7,8,9,10,11,12,13,14,15,16] mixed (bV [0,1,2,3,5]) ?_;refine aP ?_;rw[dn];have ZB:(rs.set i v4).length=((pb t i).set i [-1]).length:=by simpa using j3
   have EH:i<(rs.set i v4).length:=by rw[amQ];omega
   have Iz:((pb t i).set i [-1]).getD i default=[-1]:=by rw[aml,an8 (by omega)];rfl
   have hk:=Fg 3 ZB EH;rw[<-OI (inner 3 vs (n1 t)),Iz,gB]at hk;refine bL _ (h:=e6 (vs.length+i+6) (enc:=bd) (dec:=q4) (hk:=hk) (hm:=amF (i:=l+6) (show(inner 3 vs (n1 t)++inner 3 (rs.set i v4) ((pb t i).set i [-1]))[l]?=_ by rw[amM (by omega)];exact Fg _ Jl ja)) (bG:=by rw[oo];simp only[amI,amW,wr];omega) (ab:=?_));intro v5 om;refine aF (aP ?_) (bV [0,1,2,3,5]);refine hz (h:=fB 3 rfl _ (ab:=aa ?_));refine bt (i+1,(rs.set i v4).set i v5) ⟨by dsimp only;omega,by simpa using eP,λv aw=>?_⟩ (by dsimp only;omega) (hA:=λI h=>?_)
   ·rcases List.mem_or_eq_of_mem_set aw with aw | rfl
    ·exact Cd v aw
    exact om
   have cr:=h.tail;have bC:=JA 3 (rs.set i v4) ((pb t i).set i [-1]) i v5 ([-1]++(n1 t).getD l default);rw[List.set_set (a:=[-1]),St t (show [-1]++(n1 t).getD l default=rr t i by unfold rr;rw[amo h2,oo];rfl)]at bC;dsimp only;rw[<-bC,<-To,gB];exact cr
  rw[ar]at h2;refine aa ?_;refine bt (i+1,rs.set i v4) ⟨by dsimp only;omega,by simpa using eP,Cd⟩ (by dsimp only;omega) (hA:=λI h=>?_);dsimp only;rw[<-St t (show [-1]=rr t i by unfold rr;rw[amn h2])];exact h.tail
 have hy:i=t.J.length:=by rw[ar]at h1;omega
 subst hy;refine aa ?_;refine bQ 3 ?_;refine bP rfl (.c1 rfl mh rfl) λI hw=>?_;rw[aeT]at hw;exact⟨aJ,iU,rfl,hw.OJ 3 33 gC (by simp[uD,eP]) (λe he=>.tail _ (.tail _ (.tail _ (.tail _ (.tail _ (anq _ he)))))) aL,hw.OJ 3 33 ds Jl (λe he=>.tail _ (.tail _ (.tail _ (.tail _ (.tail _ (amE _ he)))))) aL⟩
end Go.Proofs.bK
namespace Go.bU
def eF(l:List Int)(n:Int):Int:=if n∈l then(l.idxOf n:Int)else -1
theorem Jy{n:Int}:∀{l:List Int} {i:Nat},i<l.length->l.getD i default=n->(∀j,j<i->l.getD j default≠n)->l.idxOf n=i
 | a::l,0,_,h1,_=>by have:a=n:=h1;subst this;simp
 | a::l,i+1,h0,h1,h2=>by have h3:a≠n:=h2 0 (by omega);have bH:=Jy (l:=l) (i:=i) (by simpa using h0) h1 λj ad=>h2 (j+1) (by omega);rw[List.idxOf_cons,bH,beq_false_of_ne h3];rfl
theorem se{l:List Int}{n:Int}:n∈l↔∃i,i<l.length/\l.getD i default=n:=by
 constructor
 ·intro h;obtain⟨i,hi,he⟩:=aod h;exact⟨i,hi,by rw[aml,amp hi];exact he⟩
 rintro⟨i,hi,he⟩;rw[aml,amp hi]at he;exact he▸anx hi
theorem tq(l:List Int)(n:Int):0<=eF l n↔n∈l:=by
 unfold eF;split
 ·rename_i h;exact⟨λ_=>h,λ_=>by omega⟩
 rename_i h;exact⟨λcr=>by omega,λcr=>absurd cr h⟩
theorem abO{l m:List Int}(aB:l.length=m.length)(h:∀i,i<l.length->l.getD i default=m.getD i default):l=m:=by apply anw aB;intro i h1 h2;have:=h i h1;rwa[aml,aml,amp h1,amp h2]at this
end Go.bU
namespace Go.Proofs.bK
theorem Tu(s:Value)(v:Int)(w:World)(l:List Int)(ag:aV an w bd 1 s l): bj prog 189 [s,.int .i64 v] w λ_ r _=>r=.int .i64 (eF l v):=by
 have ja:=ag.le;refine ca func189 ntmps189 ?_;refine b9 (λi:Nat=>i<=l.length/\∀j,j<i->l.getD j default≠v) (λi=>[(8,true,.int .i64 i),(7,true,.int .i64 l.length),(1,true,.int .i64 v),(0,true,s)]) (λs=>Mem [(w,an)] []) (λs=>l.length-s) (0) ⟨by omega,λj ad=>by omega⟩ ?_ ⟨rfl,rfl,rfl,rfl,trivial⟩ c7
 rintro i ⟨hi,bS⟩;refine bg (λh1=>?_) λh1=>?_
 ·have cb:i<l.length:=by rw[aq]at h1;omega
  refine bg (λh2=>?_) λh2=>?_
  ·rw[aq]at h2;refine bl λI hw=>?_;have:eF l v=(i:Int):=by unfold eF;rw[amo (se.2 ⟨i,cb,h2.symm⟩),Jy cb h2.symm bS]
   rw[this];rfl
  rw[ar]at h2;refine aa ?_;refine bt ((i+1)) ⟨by omega,λj ad=>?_⟩ (by omega) (hA:=c7);by_cases kh:j<i
  ·exact bS j kh
  obtain rfl:j=i:=by omega
  exact λe=>h2 e.symm
 rw[ar]at h1;refine bl λI hw=>?_;have:eF l v= -1:=by unfold eF;rw[amn λhm=>by obtain⟨j,ad,he⟩:=se.1 hm;exact bS j (by omega) he]
 rw[this];rfl
theorem afU(s:Value)(v:Int)(w:World)(l:List Int)(ag:aV an w bd 1 s l): bj prog 183 [s,.int .i64 v] w λ_ r _=>r=.bool (decide (v∈l)):=by refine ca func183 ntmps183 ?_;refine ao (bw (λI hw=>Tu s v I l (hw.now ag)) ?_);rintro v1 bx a6 rfl cA;refine bl λI hw=>?_;rw[show decide (v∈l)=bO (0<=eF l v) by rw[ch];exact am3.2 (tq l v).symm];rfl
theorem af7(s1 s2:Value)(w:World)(mf km:List Int)(fk:aV an w bd 1 s1 mf)(jQ:aV an w bd 1 s2 km): bj prog 184 [s1,s2] w λ_ r _=>r=.bool (decide (mf=km)):=by
 have uf:=fk.le;have r4:=jQ.le;refine ca func184 ntmps184 ?_;refine bA (λh1=>?_) λh1=>?_
 ·rw[amk,ar]at h1;refine bl λI hw=>?_;rw[amy λh=>h1 (by rw[h])];rfl
 rw[amm,aq]at h1;have cb:mf.length=km.length:=by omega
 refine aa ?_;refine b9 (λi:Nat=>i<=mf.length/\∀j,j<i->mf.getD j default=km.getD j default) (λi=>[(13,true,.int .i64 i),(12,true,.int .i64 mf.length),(1,true,s2),(0,true,s1)]) (λs=>Mem [(w,an)] []) (λs=>mf.length-s) (0) ⟨by omega,λj ad=>by omega⟩ ?_ ⟨rfl,rfl,rfl,rfl,trivial⟩ c7
 rintro i ⟨hi,bS⟩;refine bg (λh2=>?_) λh2=>?_
 ·have bF:i<mf.length:=by rw[aq]at h2;omega
  have ai5:i<km.length:=by omega
  refine aa ?_;refine cV [0,1,2,3,4,5,6,7,8] mixed ?_;refine aP ?_;refine bg (λh3=>?_) λh3=>?_
  ·rw[amk,ar]at h3;refine bl λI hw=>?_;rw[amy λh=>h3 (by rw[h])];rfl
  rw[amm,aq]at h3;refine aa ?_;refine bt ((i+1)) ⟨by omega,λj ad=>?_⟩ (by omega) (hA:=c7);by_cases kh:j<i
  ·exact bS j kh
  obtain rfl:j=i:=by omega
  exact h3
 rw[ar]at h2;refine bl λI hw=>?_;rw[amq (abO cb λj ad=>bS j (by omega))];rfl
end Go.Proofs.bK
