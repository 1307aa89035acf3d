/- Lemmas for the law WholeSound. -/
import Derived.Test.YtiknadellddjhaaGreatDoorS15
set_option linter.all false
open Go.Proofs.Tryz
set_option maxHeartbeats 3200000
open Go Go.cc Go.bU Go.gH Go.eV
namespace Go.cc
open Go
structure DB where
 n:Int
 s:Value
instance:Inhabited DB:=⟨⟨0,.nilIface⟩⟩
def HA(r:DB):List Value:=[.int .i64 r.n,r.s]
def WO:List Value->DB | [a,b]=>⟨iS a,b⟩ | _=>⟨0,.nilIface⟩
instance:ee HA 2:=⟨λ_=>rfl,by decide⟩
end Go.cc
namespace Go.Proofs.bK
attribute [local irreducible] wpList Code.wp bodyPost Exit.then Exit.inBlock Calls
instance:jw prog 113 HA WO:=⟨trivial⟩
end Go.Proofs.bK
namespace Go.eV
theorem wg{p:Nat->Bool}{i:Nat}(h:∀j,j<i->p j=true)(hp:p i=true):∀j,j<i+1->p j=true:=kq h hp
end Go.eV
namespace Go.bU
theorem UC{t:a1}{loc x:Int}:x∈wr t loc↔∃i:Nat,i<t.J.length/\x=i/\(t.J.getD i default).dir=2/\(t.J.getD i default).loc=loc:=by
 unfold wr rH;simp only[am1,am5,amH,n0,ami,amj];constructor
 ·rintro⟨i,⟨h1,h2,h3⟩,rfl⟩;exact⟨i,h1,rfl,h2,h3⟩
 rintro⟨i,h1,rfl,h2,h3⟩;exact⟨i,⟨h1,h2,h3⟩,rfl⟩
theorem WA{t:a1}{c:cv}(ai:oc t c=true){k:Nat}(hk:k<t.bb.length):(c.co.getD k default).Perm (wr t (k:Int)):=by have:=((q2 t c).1 ai).2.2.2 k hk;rw[Dm,amj]at this;exact this▸(Gr _).symm
theorem Ni{t:a1}{c:cv}(aY:fc t c=0):gL t=true/\oc t c=true:=by
 unfold fc at aY;by_cases h1:gL t=true
 ·rw[amo h1]at aY;by_cases h2:oc t c=true
  ·exact⟨h1,h2⟩
  rw[amn h2]at aY;cases aY
 rw[amn h1]at aY;cases aY
theorem afh{t:a1}{c:cv}(ai:oc t c=true){i:Nat}(hi:i<t.J.length):c.br.getD i default= -1\/((t.J.getD i default).dir=1/\c.br.getD i default∈wr t (t.J.getD i default).loc):=by have:=((q2 t c).1 ai).2.2.1 i hi;simp only[AG,amr,ami,amj]at this;exact this
theorem afi{t:a1}{c:cv}(ai:oc t c=true){i:Nat}(hi:i<t.J.length):c.br.getD i default<t.J.length:=by
 rcases afh ai hi with h | ⟨_,h⟩
 ·omega
 obtain⟨j,ad,e,_⟩:=UC.1 h;omega
theorem z7{t:a1}(h:gL t=true):t.init.length=t.bb.length:=by simp only[gL,ami,o4,amj]at h;exact h.1.1.1.1.1.1.1.2
theorem HC{t:a1}(h:gL t=true):t.cw.length=t.ends.length/\t.cw.length<=1024:=by simp only[gL,ami,uK,amj]at h;exact h.2.1
theorem W9{t:a1}(h:gL t=true){i:Nat}(hi:i<t.ends.length): (t.ends.getD i default).kind=1\/((t.ends.getD i default).kind=2/\0<=(t.ends.getD i default).n/\(t.ends.getD i default).n<t.J.length)\/((t.ends.getD i default).kind=3/\0<=(t.ends.getD i default).n/\(t.ends.getD i default).n<t.bb.length):=by
 have aB:=HC h;simp only[gL,ami,uK,fX]at h;have h1:=h.2.2 i (by omega);simp only[AX,ami]at h1;have h2:=h1.1;unfold tD at h2;split at h2
 ·unfold CE at h2;split at h2
  ·rename_i k hk;simp only[ami,amj]at h2;have dn:k<t.bb.length:=by rw[List.findIdx?_eq_some_iff_getElem]at hk;exact hk.1
   exact .inr (.inr ⟨h2.1.2,by omega,by omega⟩)
  cases h2
 simp only[zt,ami,amr,amj]at h2;rcases h2.2 with h3 | h3
 ·exact .inl h3.1
 exact .inr (.inl ⟨h3.1.1.1.1,h3.1.1.1.2,h3.1.1.2⟩)
def mQ(t:a1)(c:cv)(i:Nat):Int:=if(t.J.getD i default).dir=2 then(t.J.getD i default).value else if c.br.getD i default<0 then t.init.getD (t.J.getD i default).loc.toNat default else(t.J.getD (c.br.getD i default).toNat default).value
def xr(t:a1)(c:cv):List Int:=(List.range t.J.length).map (mQ t c)
def pw(n:Nat)(f:Nat->Int)(i:Nat):List Int:=(List.range n).map λq=>if q<i then f q else 0
theorem Oj(n:Nat)(f:Nat->Int)(i:Nat):(pw n f i).length=n:=by simp[pw]
theorem Ol(n:Nat)(f:Nat->Int):pw n f 0=List.replicate n 0:=by unfold pw;apply anw (by simp);intro i h1 h2;simp
theorem Oi(n:Nat)(f:Nat->Int):pw n f n=(List.range n).map f:=by unfold pw;refine an0 λq aZ=>?_;rw[amH]at aZ;rw[amo aZ]
theorem Ea{n:Nat}{f:Nat->Int}{i:Nat}(hi:i<n){x:Int}(hx:x=f i):(pw n f i).set i x=pw n f (i+1):=by
 subst hx;unfold pw;apply anw (by simp);intro q h1 h2;rw[List.getElem_set];simp only[List.getElem_map,List.getElem_range];by_cases e:i=q
 ·subst e;rw[amo rfl,amo (by omega)]
 rw[amn e];by_cases r:q<i
 ·rw[amo r,amo (by omega)]
 rw[amn r,amn (by omega)]
theorem Um{t:a1}{c:cv}{i:Nat}(hi:i<t.J.length):(xr t c).getD i default=mQ t c i:=by unfold xr;rw[aml,amZ,ann hi];rfl
theorem ahP(t:a1)(c:cv):(xr t c).length=t.J.length:=by simp[xr]
def qw(t:a1)(c:cv)(i:Nat):Int:=if(t.ends.getD i default).kind=1 then(t.ends.getD i default).n else if(t.ends.getD i default).kind=2 then mQ t c (t.ends.getD i default).n.toNat else if(c.co.getD (t.ends.getD i default).n.toNat default).length=0 then t.init.getD (t.ends.getD i default).n.toNat default else mQ t c ((c.co.getD (t.ends.getD i default).n.toNat default).getD ((c.co.getD (t.ends.getD i default).n.toNat default).length-1) default).toNat
def tW(t:a1)(c:cv):List Int:=(List.range t.ends.length).map (qw t c)
theorem Xv(t:a1)(c:cv):(tW t c).length=t.ends.length:=by simp[tW]
theorem Xu{t:a1}{c:cv}{i:Nat}(hi:i<t.ends.length):(tW t c).getD i default=qw t c i:=by unfold tW;rw[aml,amZ,ann hi];rfl
end Go.bU
namespace Go.cc
open Go
def dJ(E:Nat->List aA)(n:Nat):List aA:=(List.range n).flatMap E
def jC(E:Nat->List aA)(n k:Nat):List aA:=((List.range n).filter λj=>!decide (j=k)).flatMap E
theorem N7(E:Nat->List aA){n k:Nat}(hk:k<n):(dJ E n).Perm (E k++jC E n k):=by
 have hp:(List.range n).Perm (k::(List.range n).filter λj=>!decide (j=k)):=by
  refine(aou an7 (List.nodup_cons.2 ⟨λq=>?_,anC _ an7⟩)).2 λx=>?_
  ·have:=(am5.1 q).2;rw[amq rfl]at this;cases this
  rw[amG,am5,amH,amk,amu];by_cases q:x=k
  ·subst q;exact⟨λ_=>.inl rfl,λ_=>hk⟩
  exact⟨λh=>.inr ⟨h,q⟩,λh=>h.elim (λh=>absurd h q) λh=>h.1⟩
 exact hp.flatMap_right E
theorem Xf{E qT:Nat->List aA}{n k:Nat}(h:∀j,j<n->j≠k->qT j=E j):jC qT n k=jC E n k:=by
 unfold jC;have:∀l:List Nat,(∀j,j∈l->qT j=E j)->l.flatMap qT=l.flatMap E:=λl aB=>by
  induction l with
  | nil=>rfl
  | cons x l bH=>rw[am0,am0,aB x aL,bH λj ad=>aB j (.tail _ ad)]
 refine this _ λj ad=>?_;obtain⟨h1,h2⟩:=am5.1 ad;rw[amk,amu]at h2;exact h j (amH.1 h1) h2
theorem Mem.rm{bs:List dr}{E:Nat->List aA}{n:Nat}{H:List aA}{w:World}(h:Mem bs (df (dJ E n)::H) w)(k:Nat)(hk:k<n):Mem bs (E k++(df (jC E n k)::H)) w:=by
 have h1:=h.unpack;have h2:Mem bs (jC E n k++(E k++H)) w:=h1.perm (by rw[<-amJ];exact((N7 E hk).trans anB).append_right H)
 refine h2.pack.perm ?_;exact List.perm_middle.symm
theorem Mem.wI{bs:List dr}{E:Nat->List aA}(qT:Nat->List aA){n:Nat}{H:List aA}{w:World}(k:Nat)(h:Mem bs (qT k++(df (jC E n k)::H)) w)(hk:k<n)(he:∀j,j<n->j≠k->qT j=E j):Mem bs (df (dJ qT n)::H) w:=by have h1:Mem bs (df (jC E n k)::(qT k++H)) w:=h.perm List.perm_middle;have h2:=h1.unpack;refine Mem.pack (h2.perm ?_);rw[<-Xf he,<-amJ];exact(anB.trans (N7 qT hk).symm).append_right H
theorem Mem.FG{bs:List dr}{E:Nat->List aA}{n:Nat}{H:List aA}{w:World}(h:Mem bs (E n++(df (dJ E n)::H)) w):Mem bs (df (dJ E (n+1))::H) w:=by have h1:Mem bs (df (dJ E n)::(E n++H)) w:=h.perm List.perm_middle;have h2:=h1.unpack;refine Mem.pack (h2.perm ?_);unfold dJ;rw[am6,am4,aoM,<-amJ]
theorem xS{E qT:Nat->List aA}{n:Nat}(h:∀j,j<n->qT j=E j):dJ qT n=dJ E n:=by
 induction n with
 | zero=>rfl
 | succ n bH=>unfold dJ at *;rw[am6,am4,am4,bH λj ad=>h j (by omega),aoM,aoM,h n (by omega)]
theorem Mem.FI{bs:List dr}{H:List aA}{w:World}(E:Nat->List aA)(h:Mem bs H w):Mem bs (df (dJ E 0)::H) w:=Mem.pack (L:=[]) h
end Go.cc
attribute [local irreducible] Go.wpList Go.Code.wp Go.bodyPost Go.Exit.then Go.Exit.inBlock Go.Calls
namespace Go.bU
theorem Kx(x:BitVec 64)(i:Nat):(hS x i).length<=64:=by unfold hS l4;rw[amD];exact ani (anj _ _) (by simp)
structure mo(cx:fa)(s:b6)(k:Nat):Prop where
 J:s.J.length<=64
 addr:s.addr.length<=64* s.J.length
 data:s.data.length<=64* s.J.length
 dB:s.dB.length<=64* s.J.length
 bars:s.bars.length<=k
theorem mo.aN{cx:fa}{s:b6}{k:Nat}(h:mo cx s k)(hf:rU cx s=false)(j:Nat)(dir:Int)(loc:ByteArray)(val bq:Int)(on dat:BitVec 64):mo cx (rQ cx s j dir loc val bq on dat) (k+1):=by unfold rU at hf;rw[amu]at hf;have h1:=Kx on s.J.length;have h2:=Kx dat s.J.length;have h3:=Kx s.ba s.J.length;obtain⟨a,b,c,d,e⟩:=h;unfold rQ;refine⟨?_,?_,?_,?_,?_⟩<;>simp only[ams,amI,amW]<;>omega
theorem mo.ae3{cx:fa}{s:b6}{k:Nat}(h:mo cx s k)(r:List eD):mo cx {s with ah:=r} k:=⟨h.J,h.addr,h.data,h.dB,h.bars⟩
theorem mo.Bo{cx:fa}{s:b6}{k:Nat}(h:mo cx s k)(b:ny):mo cx {s with bars:=s.bars++[b]} (k+1):=⟨h.J,h.addr,h.data,h.dB,by have:=h.bars;simp only[ams,amI,amW];omega⟩
theorem L6{cx:fa}{s s':b6}{k cF:Nat}{loc:ByteArray}{on:BitVec 64}{x:eD}(h:mo cx s k)(ay:kr cx s k loc on x=.go s' cF):mo cx s' cF:=by
 unfold kr at ay;split at ay
 ·split at ay
  ·cases ay
  rename_i hf;cases ay;exact h.aN (by simpa using hf) _ _ _ _ _ _ _
 cases ay
theorem SE{cx:fa}{s s':b6}{k cF:Nat}{loc:ByteArray}{on:BitVec 64}{d:Int}(h:mo cx s k)(ay:lT cx s k loc on d=.go s' cF):mo cx s' cF:=by
 unfold lT at ay;split at ay
 ·cases ay
 rename_i hf;cases ay;exact(h.aN (by simpa using hf) k 1 loc 0 d on 0#64).ae3 _
theorem Gx{cx:fa}{s s':b6}{k cF:Nat}(h:mo cx s k)(hk:k<=cF)(ay:fJ cx s k=.go s' cF):mo cx s' cF:=by
 unfold fJ at ay;dsimp only at ay;split at ay
 ·exact L6 h ay
 split at ay
 ·exact L6 h ay
 split at ay
 ·exact SE h ay
 split at ay
 ·cases ay;exact⟨h.J,h.addr,h.data,h.dB,by have:=h.bars;dsimp only;omega⟩
 split at ay
 ·cases ay;exact h.Bo _
 split at ay
 ·split at ay
  ·exact SE h ay
  cases ay
 split at ay
 ·split at ay
  ·exact L6 h ay
  cases ay
 split at ay
 ·cases ay;exact⟨h.J,h.addr,h.data,h.dB,by have:=h.bars;dsimp only;omega⟩
 split at ay
 ·unfold qp at ay;dsimp only at ay;split at ay
  ·split at ay
   ·cases ay;exact⟨h.J,h.addr,h.data,h.dB,by have:=h.bars;dsimp only;omega⟩
   cases ay
  split at ay
  ·cases ay;exact⟨h.J,h.addr,h.data,h.dB,by have:=h.bars;dsimp only;omega⟩
  cases ay;exact⟨h.J,h.addr,h.data,h.dB,by have:=h.bars;dsimp only;omega⟩
 split at ay
 ·cases ay;exact h.Bo _
 cases ay;exact⟨h.J,h.addr,h.data,h.dB,by have:=h.bars;omega⟩
end Go.bU
namespace Go.eV
theorem LY{t:a1}{c:cv}(h:fc t c=0):GK t c={n:=t.J.length,po:=bT t.J.length (dK t),pl:=bT t.J.length (sj t),br:=bT t.J.length (iR t c),Gg:=bT t.J.length (ke t (iR t c)),co:=bT t.J.length (hX t c),coe:=bT t.J.length (ke t (hX t c)),fr:=bT t.J.length (jD t c),Ee:=bT t.J.length (ke t (jD t c)),DP:=bT t.J.length (qq t c)}:=amo h
def nN(t:a1)(c:cv)(i j:Nat):Bool:=sj t i j||qq t c i j
theorem _root_.Go.bU.jW.oM{S:Nat->Prop}{w:World}{cz ae:Value}{c:cv}(h:jW S w cz ae c):aD ae:=by obtain⟨vs,aw,_⟩:=h.co;exact aw.aG
end Go.eV
namespace Go.Proofs.bK
def na(t:a1)(c:cv):Bool:=if fc t c=0 then wD t.J.length (bT t.J.length (nN t c))else false
theorem ahU(m:Nat)(s1 s2 cy dq dd ep dP ff fy:Value)(a b:List W)(w:World)(fk:aD s1)(jQ:aD s2)(j4:aD cy)(j5:aD dq)(k4:aD dd)(mc:aD ep)(lN:aD dP)(me:aD ff)(mG:aD fy)(au:aV an w fA 1 s2 a)(hb:aV an w fA 1 fy b)(Al:fx m a=true)(xi:fx m b=true): eH prog 279 [.agg #[.int .i64 m,s1,.int .i64 m,s2,.int .i64 m,cy,.int .i64 m,dq,.int .i64 m,dd,.int .i64 m,ep,.int .i64 m,dP,.int .i64 m,ff,.int .i64 m,fy]] w (G1 m (GH m a b)):=by refine iY func279 ntmps279 ?_;refine ck λbv=>?_;refine cU λdy=>?_;refine ao (gr (λI hw=>A2 Al xi (hw.now au) (hw.now hb)) ?_);rintro v bx es a6 ⟨s,ag,rfl,rfl⟩;refine aa ?_;refine cU λdR=>?_;refine bQ 0 ?_;refine bQ 2 ?_;exact eR rfl (.c1 rfl gC rfl) [_] [1] λI hw=>⟨s,ag,rfl,rfl⟩
theorem ahT{lv aj aN bv aK aX ae aU bE:Value}{t:a1}(cz b1:Value)(c:cv)(w:World)(h:ha an w lv aj aN bv aK aX ae aU bE t)(ai:jW an w cz b1 c)(bp:lg w): bj prog 195 [.agg #[lv,aj,aN,bv,aK,aX,ae,aU,bE],.agg #[cz,b1]] w λ_ v _=>v=.tuple #[.bool (na t c),.int .i64 (fc t c)]:=by
 have k2:=ai.br.aG;have mE:=ai.oM;refine ca func195 ntmps195 ?_;refine ck λjA=>?_;refine ck λkZ=>?_;refine ao (gr (λI hw=>LX cz b1 c I (h.now hw) (ai.now hw) (bp.now hw)) ?_);rintro v bx es a6 ⟨s1,s2,cy,dq,dd,ep,dP,ff,fy,⟨fk,jQ,j4,j5,k4,mc,lN,me,mG⟩,rfl,rfl⟩;refine aa ?_;refine cU λcS=>?_;refine bQ 0 ?_;refine bA (λh1=>?_) λh1=>?_
 ·rw[amk,ar]at h1;refine aa ?_;refine bP rfl (.tmp rfl (.t1 rfl)) λI hw=>?_;unfold na;rw[amn h1];rfl
 rw[amm,aq]at h1;obtain⟨aE,kg⟩:=l5 h1;obtain⟨hb,w0⟩:=lD aE;have zA:=LY h1;rw[zA];refine aa ?_;refine ao (gr (λI hw=>ahU t.J.length s1 s2 cy dq dd ep dP ff fy (bT t.J.length (sj t)) (bT t.J.length (qq t c)) I fk jQ j4 j5 k4 mc lN me mG (hw.ed) (hw.ed) (lz _ _ hb) (lz _ _ hb)) ?_);rintro v cp es bX ⟨s,ag,rfl,rfl⟩;rw[AI hb];refine aa ?_;refine ao (bw (λI hw=>G6 t.J.length s (bT t.J.length (nN t c)) I (hw.ed)) ?_);rintro v hD gb rfl nj;refine aa ?_;refine bP rfl (.tmp rfl (.t1 rfl)) λI hw=>?_;unfold na;rw[amo h1,h1,lz _ _ hb];rfl
theorem getD_some{α:Type}[Inhabited α]{l:List α}{i:Nat}(h:i<l.length):l[i]?=some (l.getD i default):=by rw[aml,amp h];rfl
theorem aaP{l:List Int}{x y:Int}(hx:0<=eF l x)(h:eF l x=eF l y):x=y:=by rw[<-Aa hx,h,Aa (by omega)]
section
variable {t:a1} {c:cv} (h:fc t c=0)
include h
theorem Cu{i j:Nat}(hi:i<t.J.length)(ad:j<t.J.length):0<=eF (iH t c i) (j:Int)↔((bf t j).dir=2/\(bf t j).loc=(bf t i).loc):=by
 obtain⟨aE,ai⟩:=l5 h;obtain⟨k,hk,eB⟩:=tw aE hi;rw[tq,tR hk,sY ai eB,hk];constructor
 ·rintro⟨w8,_,e,h1,h2⟩;obtain rfl:j=w8:=by omega
  exact⟨h1,h2⟩
 rintro⟨h1,h2⟩;exact⟨j,ad,rfl,h1,h2⟩
theorem xH{i j:Nat}(e:(bf t i).loc=(bf t j).loc):iH t c i=iH t c j:=by unfold iH;rw[e]
end
def lvl(t:a1)(c:cv)(w:Int):Int:=if w<0 then 0 else eF (iH t c w.toNat) w+1
def ga(t:a1)(c:cv)(i:Nat):Int:=if(bf t i).dir=1 then lvl t c (c.br.getD i default)else lvl t c i
def yJ(t:a1)(c:cv)(i j:Nat):Bool:=if(ik t i j&&ov t i j)=true then(if(bf t j).dir=2 then decide (ga t c i<ga t c j)else decide (ga t c i<=ga t c j))else true
theorem CX{m:Nat}{p:Nat->Nat->Bool}(hm:m<=64){a b:Nat}(h:aT (bT m p) a b=true):a<m/\b<m/\p a b=true:=by
 rw[AH m p hm]at h;simp only[ami,amj]at h;refine⟨?_,?_,?_⟩
 ·omega
 ·omega
 simp_all
section
variable {t:a1} {c:cv} (h:fc t c=0)
include h
theorem wa{i:Nat}(hi:i<t.J.length)(hd:(bf t i).dir=1):(c.br.getD i default= -1/\ga t c i=0)\/ ∃k:Nat,k<t.J.length/\c.br.getD i default=(k:Int)/\(bf t k).dir=2/\(bf t k).loc=(bf t i).loc/\ga t c i=ga t c k/\ga t c i=eF (iH t c i) (k:Int)+1/\0<=eF (iH t c i) (k:Int):=by
 obtain⟨aE,ai⟩:=l5 h;rcases K2 ai hi with h1 | ⟨_,h1⟩
 ·refine .inl ⟨h1,?_⟩;unfold ga lvl;rw[amo hd,h1];rfl
 obtain⟨k,hk,e,mz,eB⟩:=FD.1 h1;refine .inr ⟨k,hk,e,mz,eB,?_,?_,(Cu h hi hk).2 ⟨mz,eB⟩⟩
 ·unfold ga;rw[amo hd,amn (by omega),e]
 unfold ga lvl;rw[amo hd,e,amn (by omega),amw,xH h eB]
theorem rI{i:Nat}(hi:i<t.J.length)(hd:(bf t i).dir=2):ga t c i=eF (iH t c i) (i:Int)+1/\0<=eF (iH t c i) (i:Int):=by refine⟨?_,(Cu h hi hi).2 ⟨hd,rfl⟩⟩;unfold ga lvl;rw[amn (by omega),amn (by omega),amw]
theorem Qw{i:Nat}(hi:i<t.J.length):0<=ga t c i:=by
 obtain⟨aE,ai⟩:=l5 h;rcases mU aE hi with hd | hd
 ·rcases wa h hi hd with h1 | ⟨k,_,_,_,_,_,h2,h3⟩<;>omega
 have:=rI h hi hd;omega
theorem Ga{i:Nat}(hi:i<t.J.length)(hd:(bf t i).dir=1):ga t c i=eF (iH t c i) (c.br.getD i default)+1:=by
 obtain⟨aE,ai⟩:=l5 h;rcases wa h hi hd with⟨h1,h2⟩ | ⟨k,_,e,_,_,_,h2,_⟩
 ·have:eF (iH t c i) (-1)= -1:=by
   have:=Cw (iH t c i) (-1);by_cases q:0<=eF (iH t c i) (-1)
   ·obtain⟨p,hp,kC⟩:=tw aE hi;rw[tq,tR hp,sY ai kC]at q;obtain⟨w8,_,e,_⟩:=q;omega
   omega
  rw[h1,h2,this];rfl
 rw[e,h2]
def wz(t:a1)(c:cv)(i j:Nat):Prop:=ga t c i<ga t c j\/(ga t c i=ga t c j/\(bf t j).dir=1/\((bf t i).dir=2\/((bf t i).dir=1/\i<j)))
theorem aa6{i j k:Nat}(h1:wz t c i j)(h2:wz t c j k):wz t c i k:=by unfold wz at *;omega
theorem Qe(hf:∀i j,i<j->j<t.J.length->yJ t c i j=true){i j:Nat}(hi:i<t.J.length)(ad:j<t.J.length)(ag:nN t c i j=true):wz t c i j:=by
 obtain⟨aE,ai⟩:=l5 h;unfold nN qq at ag;simp only[amr]at ag;rcases ag with ag | (ag | ag) | ag
 ·unfold sj at ag;rw[ami,qI aE hi ad,ami,amj]at ag;have:=hf i j ag.1.1 ad;unfold yJ at this;rw[amo (by rw[ag.1.2,ag.2];rfl)]at this;unfold wz;rcases mU aE ad with hd | hd
  ·rw[amn (by omega),amj]at this;have:=mU aE hi;omega
  rw[amo hd,amj]at this;exact .inl this
 ·unfold iR at ag;rw[ami,amj,amj]at ag;rcases wa h ad ag.1 with⟨h1,_⟩ | ⟨k,_,e,mz,_,aB,_⟩
  ·omega
  obtain rfl:i=k:=by omega
  exact .inr ⟨aB.symm,ag.1,.inl mz⟩
 ·unfold hX sL at ag;rw[ami,amj,amj]at ag;obtain⟨hid,_⟩:=(Cu h hi hi).1 ag.1;obtain⟨kV,fZ⟩:=(Cu h hi ad).1 (by omega);have h1:=rI h hi hid;have h2:=rI h ad kV;rw[xH h fZ]at h2;exact .inl (by omega)
 unfold jD at ag;rw[ami,amj,amj]at ag;have h0:=Cw (iH t c i) (c.br.getD i default);obtain⟨kV,fZ⟩:=(Cu h hi ad).1 (by omega);have h2:=rI h ad kV;rw[xH h fZ]at h2;have h3:=Ga h hi ag.1;exact .inl (by omega)
theorem HT{i k:Nat}(hi:i<t.J.length)(hk:k<t.J.length)(hd:(bf t i).dir=1)(mz:(bf t k).dir=2)(e:(bf t k).loc=(bf t i).loc)(aB:ga t c i<ga t c k):jD t c i k=true:=by have h2:=rI h hk mz;rw[xH h e]at h2;have h3:=Ga h hi hd;unfold jD;rw[ami,amj,amj];exact⟨hd,by omega⟩
theorem DR{i k:Nat}(hi:i<t.J.length)(hk:k<t.J.length)(hd:(bf t i).dir=2)(mz:(bf t k).dir=2)(e:(bf t k).loc=(bf t i).loc)(aB:ga t c i<ga t c k):hX t c i k=true:=by have h2:=rI h hk mz;rw[xH h e]at h2;have h3:=rI h hi hd;unfold hX sL;rw[ami,amj,amj];omega
theorem Ft{i k:Nat}(hi:i<t.J.length)(hk:k<t.J.length)(hd:(bf t i).dir=2)(mz:(bf t k).dir=2)(e:(bf t k).loc=(bf t i).loc)(aB:ga t c i=ga t c k):i=k:=by have h2:=rI h hk mz;rw[xH h e]at h2;have h3:=rI h hi hd;have:=aaP h3.2 (show eF (iH t c i) (i:Int)=eF (iH t c i) (k:Int) by omega);omega
theorem Gf{i k:Nat}(hd:(bf t i).dir=1)(e:c.br.getD i default=(k:Int)):iR t c k i=true:=by unfold iR;rw[ami,amj,amj];exact⟨hd,e⟩
theorem HM(hb:t.J.length<=64):na t c=true↔∀i j,i<j->j<t.J.length->yJ t c i j=true:=by
 obtain⟨aE,ai⟩:=l5 h;have ok:=lz t.J.length (nN t c) hb;unfold na wD;rw[amo h,amo ok,amk,amw,<-anK,LM ok];constructor
 ·intro bh i j hN ad;have hi:i<t.J.length:=by omega
  apply amT;intro zD;apply bh;refine⟨i,hi,?_⟩;unfold yJ at zD;have ag:(eV.ik t i j&&ov t i j)=true:=amT λag=>by rw[amn ag]at zD;exact zD rfl
  rw[amo ag]at zD;rw[ami]at ag;have hle:(bf t i).loc=(bf t j).loc:=by simpa[ov]using ag.2
  have st:∀{a b:Nat},a<t.J.length->b<t.J.length->nN t c a b=true->l1 (aT (bT t.J.length (nN t c))) a b:=λau e1 aZ=>.one (by rw[uE _ _ hb _ _ au e1];exact aZ);have ue:∀{a b:Nat},hX t c a b=true->nN t c a b=true:=λq=>by unfold nN qq;rw[q];simp
  have p5:∀{a b:Nat},iR t c a b=true->nN t c a b=true:=λq=>by unfold nN qq;rw[q];simp
  have vu:∀{a b:Nat},jD t c a b=true->nN t c a b=true:=λq=>by unfold nN qq;rw[q];simp
  have qA:nN t c i j=true:=by unfold nN sj;rw[qI aE hi ad,ag.1,ag.2,amq hN];rfl
  have s1:=st hi ad qA;rcases mU aE ad with kV | kV
  ·rw[amn (by omega),amj]at zD;rcases mU aE hi with hid | hid
   ·rcases wa h hi hid with⟨_,h0⟩ | ⟨k,hk,e,mz,eB,aB,_⟩
    ·have:=Qw h ad;omega
    exact(s1.trans (st ad hk (vu (HT h ad hk kV mz (by omega) (by omega))))).trans (st hk hi (p5 (Gf h hid e)))
   exact s1.trans (st ad hi (vu (HT h ad hi kV hid hle (by omega))))
  rw[amo kV,amj]at zD;rcases mU aE hi with hid | hid
  ·have EI:=rI h ad kV;rcases wa h hi hid with⟨_,h0⟩ | ⟨k,hk,e,mz,eB,aB,_⟩
   ·omega
   by_cases r3:k=j
   ·subst r3;exact s1.trans (st ad hi (p5 (Gf h hid e)))
   have:¬ga t c j=ga t c k:=λq=>r3 (Ft h ad hk kV mz (by omega) q).symm;exact(s1.trans (st ad hk (ue (DR h ad hk kV mz (by omega) (by omega))))).trans (st hk hi (p5 (Gf h hid e)))
  have:¬ga t c j=ga t c i:=λq=>by have:=Ft h ad hi kV hid hle q;omega
  exact s1.trans (st ad hi (ue (DR h ad hi kV hid hle (by omega))))
 rintro hf ⟨i,hi,aH⟩;have key:∀{a b:Nat},l1 (aT (bT t.J.length (nN t c))) a b->wz t c a b:=λq=>by
  induction q with
  | one q=>obtain⟨au,e1,aZ⟩:=CX hb q;exact Qe h hf au e1 aZ
  | more _ q bH=>obtain⟨au,e1,aZ⟩:=CX hb q;exact aa6 h bH (Qe h hf au e1 aZ)
 have:=key aH;unfold wz at this;omega
end
def BP(p d:Int):Bool:=decide (p=2)||decide (p=d-1)
def qg(f a b:Int):Bool:=
 if(a=1\/a=2)/\(b=1\/b=2)then
  if f=1 then true else if f=2 then decide (a=1)||decide (b=2)else
  if f<3\/11<f then false else BP ((f-3).tdiv 3) a&&BP ((f-3).tmod 3) b
 else false
def zd(x y:eL)(b:ny):Bool:=decide (b.aI=x.aI)&&decide (x.place<b.place)&&decide (b.place<y.place)&&qg b.dE x.dir y.dir
def vh(bars:List ny)(x y:eL):Bool:=bars.any (zd x y)
def vi(t:a1)(i j:Nat):Bool:=dK t i j&&vh t.bars (bf t i) (bf t j)
def o3(t:a1)(i j:Nat):Bool:=decide ((bf t i).dir=2)&&decide ((bf t j).dir=1)
def nu(t:a1)(i j:Nat):Bool:=dK t i j&&(!o3 t i j||vi t i j)
def nx(t:a1)(c:cv)(i j:Nat):Bool:=((nu t i j||ke t (iR t c) i j)||hX t c i j)||jD t c i j
def pJ(t:a1)(c:cv)(i j:Nat):Bool:=dK t i j||qq t c i j
def mq(t:a1)(p:Nat->Nat->Bool):Bool:=wD t.J.length (bT t.J.length p)
def ml(t:a1)(c:cv):Bool:=na t c&&mq t (nx t c)
def oB(t:a1)(c:cv):Bool:=if fc t c=0 then mq t (pJ t c)else false
theorem ME{t:a1}(hb:t.J.length<=64)(p:Nat->Nat->Bool):mq t p=true↔¬∃i,i<t.J.length/\l1 (aT (bT t.J.length p)) i i:=by have ok:=lz t.J.length p hb;unfold mq wD;rw[amo ok,amk,amw,<-anK,LM ok]
theorem aeS{n:Nat}(hb:n<=64){p q:Nat->Nat->Bool}(h:∀a b,a<n->b<n->p a b=true->q a b=true){a b:Nat}(aH:l1 (aT (bT n p)) a b):l1 (aT (bT n q)) a b:=by
 have st:∀{a b:Nat},aT (bT n p) a b=true->aT (bT n q) a b=true:=λaZ=>by obtain⟨au,e1,aZ⟩:=CX hb aZ;rw[uE _ _ hb _ _ au e1];exact h _ _ au e1 aZ
 induction aH with
 | one h1=>exact .one (st h1)
 | more _ h2 bH=>exact .more bH (st h2)
theorem Vq{t:a1}(hb:t.J.length<=64){p q:Nat->Nat->Bool}(h:∀a b,a<t.J.length->b<t.J.length->p a b=true->q a b=true)(aZ:mq t q=true):mq t p=true:=by rw[ME hb]at aZ⊢;rintro⟨i,hi,aH⟩;exact aZ ⟨i,hi,aeS hb h aH⟩
theorem Wy{t:a1}{c:cv}(h:fc t c=0):na t c=mq t (nN t c):=by unfold na mq;rw[amo h]
theorem Nu{t:a1}{c:cv}(h:¬fc t c=0):na t c=false:=by unfold na;rw[amn h]
theorem T9{t:a1}{c:cv}{a b:Nat}(h:nx t c a b=true):pJ t c a b=true:=by
 unfold nx nu ke at h;unfold pJ qq;simp only[amr,ami]at h⊢;rcases h with((h | h) | h) | h
 ·exact .inl h.1
 ·exact .inr (.inl (.inl h.1))
 ·exact .inr (.inl (.inr h))
 exact .inr (.inr h)
theorem Yt{t:a1}{c:cv}{a b:Nat}(h:nN t c a b=true):pJ t c a b=true:=by
 unfold nN sj at h;unfold pJ;simp only[amr,ami]at h⊢;rcases h with h | h
 ·exact .inl h.1
 exact .inr h
theorem afR{t:a1}{c:cv}(h:oB t c=true):na t c=true:=by
 unfold oB at h;by_cases aY:fc t c=0
 ·rw[amo aY]at h;have hb:=(lD (l5 aY).1).1;rw[Wy aY];exact Vq hb (λa b _ _ q=>Yt q) h
 rw[amn aY]at h;cases h
section
variable {t:a1} {c:cv} (h:fc t c=0) (ai:na t c=true)
include h ai
theorem SN{i j:Nat}(hi:i<t.J.length)(ad:j<t.J.length)(aH:iR t c i j=true)(aE:eV.ik t i j=true):dK t i j=true/\i<j:=by
 obtain⟨hok,kg⟩:=l5 h;have hb:=(lD hok).1;have hf:=(HM h hb).1 ai;unfold iR at aH;rw[ami,amj,amj]at aH;rcases wa h ad aH.1 with⟨h1,_⟩ | ⟨k,_,e,mz,eB,aB,_⟩
 ·omega
 obtain rfl:i=k:=by omega
 have dn:i<j:=by
  rcases aoV i j with q | q | q
  ·exact q
  ·subst q;omega
  have:=hf j i q hi;unfold yJ at this;rw[amo (by simp only[eV.ik,ov,ami,amj]at aE⊢;exact⟨aE.symm,eB.symm⟩),amo mz,amj]at this
  omega
 refine⟨?_,dn⟩;rw[qI hok hi ad,amq dn,aE];rfl
end
theorem JP{t:a1}(hb:t.J.length<=64){p:Nat->Nat->Bool}(au:mq t p=true):Ae t.J.length (bT t.J.length p)=0/\ vL t.J.length (bT t.J.length p)=ints (jT t.J.length (aT (bT t.J.length p)) t.J.length)/\rM t.J.length (aT (bT t.J.length p)) (jT t.J.length (aT (bT t.J.length p)) t.J.length)/\(jT t.J.length (aT (bT t.J.length p)) t.J.length).length=t.J.length:=by
 have ok:=lz t.J.length p hb;unfold mq wD at au;rw[amo ok,amk,amw]at au;refine⟨?_,?_,abl _,abk ok au _ (amK _)⟩
 ·unfold Ae;rw[amo ok,amw,amn (by rw[au];simp)]
 unfold vL;rw[amo ok,amw,amn (by rw[au];simp)]
theorem abJ{t:a1}(hb:t.J.length<=64){p:Nat->Nat->Bool}(au:mq t p=false):Ae t.J.length (bT t.J.length p)=12/\vL t.J.length (bT t.J.length p)=[]:=by
 have ok:=lz t.J.length p hb;unfold mq wD at au;rw[amo ok,amm,amw]at au;constructor
 ·unfold Ae;rw[amo ok,amw,amo au]
 unfold vL;rw[amo ok,amw,amo au]
def e0(ts:List Nat)(x:Nat):Nat:=ts.idxOf x
theorem ahe{m:Nat}{p:Nat->Nat->Bool}{ts:List Nat}(bp:rM m p ts)(aB:ts.length=m){a b:Nat}(au:a<m)(hb:b<m)(h:p a b=true):e0 ts a<e0 ts b:=by
 have Ew:=bp.all aB b hb;have lj:=anG Ew;have e:ts[ts.idxOf b]?=some b:=by rw[amp lj];simp
 obtain⟨k,hk,zM⟩:=bp.prec _ _ e a au h;have Yd:=bp.all aB a au;have x1:=anG Yd;have cd:ts[ts.idxOf a]?=some a:=by rw[amp x1];simp
 have:=(List.getElem?_inj (amV.1 zM).1 bp.nodup).1 (zM.trans cd.symm);unfold e0;omega
structure rJ(n:Nat)(o:List Nat):Prop where
 nodup:o.Nodup
 lt:∀x,x∈o->x<n
 len:o.length=n
def lh(l:List Int):Int:=if l.length=0 then -1 else l.getD (l.length-1) default
def fP(t:a1)(o:List Nat)(k:Int):List Int:=ints (o.filter (n0 t k))
theorem rJ.all{n:Nat}{o:List Nat}(h:rJ n o){x:Nat}(hx:x<n):x∈o:=rM.all (m:=n) (p:=λ_ _=>false) ⟨h.nodup,h.lt,λ_ _ _ _ _ q=>by cases q⟩ h.len x hx
theorem rJ.perm{n:Nat}{o:List Nat}(h:rJ n o):o.Perm (List.range n):=(aou h.nodup an7).2 λx=>⟨λq=>amH.2 (h.lt x q),λq=>h.all (amH.1 q)⟩
theorem RU{o:List Nat}{x:Nat}(h:x∈o):e0 o x<o.length:=anG h
theorem FZ{o:List Nat}{x:Nat}(h:x∈o):o[e0 o x]?=some x:=by have:=RU h;unfold e0 at this⊢;rw[amp this];simp
theorem pos_at{o:List Nat}(h:o.Nodup){i x:Nat}(hi:o[i]?=some x):e0 o x=i:=by have hm:x∈o:=amF hi;exact(List.getElem?_inj (RU hm) h).1 ((FZ hm).trans hi.symm)
theorem ads{o:List Nat}{x y:Nat}(hx:x∈o)(h:e0 o x=e0 o y)(aR:y∈o):x=y:=by have h1:=FZ hx;rw[h,FZ aR]at h1;injection h1 with h1;exact h1.symm
theorem Ra{o:List Nat}(bh:o.Nodup){x m:Nat}:x∈o.take m↔x∈o/\e0 o x<m:=by
 constructor
 ·intro h;obtain⟨i,hi⟩:=anv h;rw[anO]at hi;split at hi
  ·rename_i YS;exact⟨List.mem_of_mem_take h,by rw[pos_at bh hi];exact YS⟩
  cases hi
 rintro⟨h1,h2⟩;refine amF (i:=e0 o x) ?_;rw[anO,amo h2,FZ h1]
theorem RV{o:List Nat}(bh:o.Nodup):o.Pairwise λa b=>e0 o a<e0 o b:=by rw[am9];intro i j hi ad hN;rw[pos_at bh (amp hi),pos_at bh (amp ad)];exact hN
theorem yF{t:a1}{o:List Nat}{k x:Int}:x∈fP t o k↔∃i:Nat,i∈o/\x=i/\(bf t i).dir=2/\(bf t i).loc=k:=by
 unfold fP ints;simp only[am1,am5,n0,ami,amj];constructor
 ·rintro⟨i,⟨h1,h2,h3⟩,rfl⟩;exact⟨i,h1,rfl,h2,h3⟩
 rintro⟨i,h1,rfl,h2,h3⟩;exact⟨i,⟨h1,h2,h3⟩,rfl⟩
theorem Nx{t:a1}{o:List Nat}(bh:o.Nodup)(k:Int):(fP t o k).Pairwise λa b=>e0 o a.toNat<e0 o b.toNat:=by unfold fP ints;rw[anz];exact anV (λ{a b} h=>by simpa using h) (anC _ (RV bh))
theorem Nw{t:a1}{o:List Nat}(h:rJ t.J.length o)(k:Int):(fP t o k).Perm (wr t k):=by unfold fP ints wr rH;exact(h.perm.filter _).map _
theorem D1{l:List Int}(h:¬l.length=0):lh l∈l:=by unfold lh;rw[amn h];exact se.2 ⟨_,by omega,rfl⟩
theorem LP{t:a1}(hb:t.J.length<=64){p:Nat->Nat->Bool}{f:Nat->Nat}(hf:∀a b,a<t.J.length->b<t.J.length->p a b=true->f a<f b):mq t p=true:=by
 rw[ME hb];rintro⟨i,_,aH⟩;have key:∀{a b:Nat},l1 (aT (bT t.J.length p)) a b->f a<f b:=λq=>by
  induction q with
  | one q=>obtain⟨au,e1,aZ⟩:=CX hb q;exact hf _ _ au e1 aZ
  | more _ q bH=>obtain⟨au,e1,aZ⟩:=CX hb q;have:=hf _ _ au e1 aZ;omega
 have:=key aH;omega
theorem HY{α:Type}[Inhabited α]{l m:List α}(aB:l.length=m.length)(h:∀i,i<l.length->l.getD i default=m.getD i default):l=m:=by refine anw aB λi h1 h2=>?_;have:=h i h1;rw[aml,aml,amp h1,amp h2]at this;simpa using this
theorem Wu{t:a1}{c:cv}{o:List Nat}(aY:fc t c=0)(h:rJ t.J.length o)(hh:∀a b,a<t.J.length->b<t.J.length->hX t c a b=true->e0 o a<e0 o b){k:Nat}(hk:k<t.bb.length):fP t o k=c.co.getD k default:=by
 obtain⟨aE,ai⟩:=l5 aY;refine List.Perm.eq_of_pairwise (le:=λa b=>e0 o a.toNat<e0 o b.toNat) (λa b _ _ h1 h2=>by omega) (Nx h.nodup k) ?_ ((Nw h k).trans (DS ai hk).symm);rw[am9];intro i j hi ad hN;have mB:=zk ai hk;have key:∀q (aZ:q<(c.co.getD k default).length),∃x:Nat,x<t.J.length/\(c.co.getD k default)[q]=(x:Int)/\(bf t x).loc=k/\eF (c.co.getD k default) x=q:=λq aZ=>by obtain⟨x,hx,e,_,h2⟩:=(sY ai hk).1 (anx aZ);refine⟨x,hx,e,h2,?_⟩;have:=yx mB aZ;rw[aml (l:=c.co.getD k default),amp aZ]at this;simp only[anE]at this;rw[<-e];exact this
 obtain⟨x,hx,ex,JV,aaM⟩:=key i hi;obtain⟨y,aR,xR,abW,aaQ⟩:=key j ad;rw[ex,xR,amw,amw];refine hh x y hx aR ?_;unfold hX sL;rw[tR JV,aaM,aaQ];simp only[amr,ami,amj];exact⟨by omega,by omega⟩
end Go.Proofs.bK
