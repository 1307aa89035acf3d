/- Lemmas for the law WholeComplete. -/
import Derived.Test.YtiknadellddjhaaGreatDoorC39
set_option linter.all false
open Go.Proofs.Tryz
set_option maxHeartbeats 12800000
open Go Go.b9 Go.bM Go.gG Go.fo
namespace Go.Proofs.bA
attribute [local irreducible] wpList Code.wp bodyPost Exit.then Exit.inBlock Calls
theorem adn(p:Int)(n:Nat)(w:World)(bd:0<n)(aL:n<=1000):bl prog 163 [.int .i64 p,.int .i64 n] w λ_ v _=>v=.int .i64 (p.emod n):=by
 have h0:(0:Int)<(n:Int):=by omega
 have qO:=SO (x:=p) h0;have h2:=Int.emod_nonneg p (show(n:Int)≠0 by omega);have h3:=Int.emod_lt_of_pos p h0;refine ha func163 ntmps163 ?_;refine dh (Tl (b3 rfl) (b3 rfl) bd) (ab:=af ?_);refine bC (λh1=>?_) λh1=>?_
 ·rw[an]at h1;rw[aou h1]at qO;have hb:p.tmod n+n=p % n:=qO;refine pG λI hw=>?_;exact aoI (Value.int .i64) qO
 rw[au]at h1;rw[aot h1]at qO;refine pG λI hw=>?_;exact aoI (Value.int .i64) qO
def qX(t:aV)(m:cD)(p:Int):lI:=(c8 t m).getD (p.emod (c8 t m).length).toNat default
def Nc(b:Nat)(t:aV)(q:gd)(m:cD)(p:Int):Nat->Value->List aB->World->Prop:=λ_ v es _=>v=.tuple #[.agg (e7 (qX t m p)).toArray,.int .i64 0]/\∃qQ,es=kG b t {q with aj:=qQ} (hK t (ar t) false m (qX t m p))/\s4 t {q with aj:=qQ} (hK t (ar t) false m (qX t m p))
theorem SP{t:aV}{m:cD}(p:Int)(h:¬c8 t m=[]):qX t m p∈c8 t m/\(p.emod (c8 t m).length).toNat<(c8 t m).length/\0<=p.emod (c8 t m).length:=by
 have aL:(0:Int)<(c8 t m).length:=by
  rcases Nat.eq_zero_or_pos (c8 t m).length with g | g
  ·exact absurd (aoY g) h
  omega
 have h2:0<=p.emod (c8 t m).length:=Int.emod_nonneg p (by omega);have h3:p.emod (c8 t m).length<(c8 t m).length:=Int.emod_lt_of_pos p aL;have aA:(p.emod (c8 t m).length).toNat<(c8 t m).length:=by omega
 exact⟨eN aA,aA,h2⟩
theorem adk{b:Nat}{t:aV}{q:gd}{m:cD}(w:World)(aJ:dI t=0){log:List Nat}{df:Nat->List Nat}(R:kg t false m log df)(ok:s4 t q m)(p:Int)(dS:¬c8 t m=[]) (c0:aZ (bJ (kG b t q m)) w dU 1 q.ak (cc t)) (jS:aZ (bJ (kG b t q m)) w eH 3 q.aT (br t)) (hw:Mem [] (kG b t q m) w): eY prog 85 [av b,.int .i64 p] (kG b t q m) w (Nc b t q m p):=by
 have G:=kS aJ;have nF:=G.n16;have M:=R.M;have hc:∀k,k<t.code.length->m.cW.getD k default=[]:=λk hk=>by rw[M.buf k hk,(R.lF rfl).1 k hk];rfl
 obtain⟨sr,mc,aaB⟩:=SP p dS;have jg:(c8 t m).length<=2* t.code.length:=AZ t m _;obtain⟨k,hk,mZ⟩:=wB.1 sr;have aai:qX t m p=⟨1,(k:Int)⟩/\k9 t m k=true:=mZ.resolve_right λg=>g.2 (hc k hk);obtain⟨mZ,n4⟩:=aai;have dR:(m.aw.getD k default).at'<(cr t k).length:=by unfold k9 at n4;rw[aoo,aop]at n4;exact n4.1
 have mD:hK t (ar t) false m (qX t m p)=eU t (ar t) false m k:=by rw[mZ];unfold hK;rw[aou rfl,aoF]
 unfold Nc;rw[mD];refine j3 func85 ntmps85 hw ?_;refine ei λcO=>?_;refine aq (bp (λI hw=>KI I (oY.rG ok hw.tail (hw.now c0) (hw.now jS))) ?_);rintro v bx bc rfl cu;refine af ?_;refine cM rfl (λh=>by cases h) λ_=>?_;refine af ?_;refine aq (bp (λI hw=>RU I (oY.rG ok hw.tail (hw.now c0) (hw.now jS)) nF hc) ?_);rintro v6 ck bY nd eZ;have anz:=nd.aK;refine af ?_;refine cM rfl (λh2=>by rw[an]at h2;omega) λ_=>?_;refine af ?_;refine aq (hq (bb:=λI hw=>adn p (c8 t m).length I (by omega) (by omega)) (ab:=?_));rintro v22 hj fW rfl nG;refine af ?_;refine ei λeQ=>?_;refine c7 0 ?_;have CC:(c8 t m).getD (p.emod (c8 t m).length).toNat default=(⟨1,(k:Int)⟩:lI):=mZ;rw[CC,mZ];refine cA (Mem [(w,bJ (kG b t q m))] (kG b t q m++[.box eQ (e7 ⟨1,(k:Int)⟩) 97,.box cO [.int .i64 0,.int .i64 0] 97])) (λ_ h=>(h.cC (es:=kG b t q m++[_,_]) [2,3,4,5,6,0,1]).cX.cX.cX) ?_;refine aq (eB (es:=kG b t q m) (bb:=λI hw=>adq I aJ M ok k hk dR (hc k hk) (hw.iD c0 aP λ_ h=>aoK _ h) (hw.iD jS aP λ_ h=>aoK _ h) hw.dt.ew) (ab:=?_));rintro rM ia es ig ⟨qQ,rfl,ob⟩;refine af ?_;refine c7 6 ?_;exact Ge rfl (.dv rfl oQ rfl (.t1 rfl)) aP λI hw=>⟨_,⟨rfl,qQ,rfl,ob⟩,hw.cC [0,1,2,3,4]⟩
end Go.Proofs.bA
namespace Go.Proofs.bA
attribute [local irreducible] wpList Code.wp bodyPost Exit.then Exit.inBlock Calls Exit.jump
def Ht(t:aV)(buf:Bool)(script:List Int):Nat->Value->World->Prop:=λn v I=>(dI t≠0/\v=.tuple #[.agg #[aa,aa],.int .i64 (dI t)])\/ (dI t=0/\65536<script.length/\v=.tuple #[.agg #[aa,aa],.int .i64 2])\/ (dI t=0/\script.length<=65536/\∃st bR,v=.tuple #[.agg #[st,bR],.int .i64 0]/\aD bR/\aZ (Fr n) I a7 1 st (wT (ar t) (uv t (ar t) buf script)))
def rK(script:List Int)(i:Nat):Int:=if i<script.length then script.getD i default else 0
theorem aeA{t:aV}{script:List Int}{i:Nat}{m:cD}(hm:runM t (ar t) false script i=m)(h:¬c8 t m=[]):hK t (ar t) false m (qX t m (rK script i))=runM t (ar t) false script (i+1):=by
 subst hm;have bd:¬(c8 t (runM t (ar t) false script i)).length=0:=λg=>h (aoY g);have e:runM t (ar t) false script (i+1)=let m:=runM t (ar t) false script i
  if(c8 t m).length=0 then m else hK t (ar t) false m ((c8 t m).getD (wL script i (c8 t m).length) default):=rfl
 rw[e];dsimp only;rw[aot bd];rfl
structure VZ where
 i:Nat
 q:gd
 bR:Value
 ms:List lI
 b:Nat
 du:Nat
 bx:Nat
 bc:World
 es:List aB
theorem ado(t:aV)(ah ad ao aK:Value)(vs:List Value)(script:List Int)(w:World)(bL:gW al w ah ad ao vs t)(cG:aZ al w a7 1 aK script):bl prog 30 [.agg (c6 t ah ad ao).toArray,aK] w (Ht t false script):=by
 have hr:=cG.aK;refine ha func30 ntmps30 ?_;refine e4 λaQ=>?_;refine ei λaU=>?_;refine aj4 0 (λz:VZ=>dI t=0/\script.length<=65536/\z.i<=4161/\s4 t z.q (runM t (ar t) false script z.i)/\aD z.bR/\z.ms.length=z.i/\aZ (jK z.bx z.es) z.bc dU 1 z.q.ak (cc t)/\aZ (jK z.bx z.es) z.bc eH 3 z.q.aT (br t)) (λz=>[(9,true,.int .i64 (z.i:Nat)),(8,true,.pointer (some ⟨z.du,0,none⟩)),(6,true,.pointer (some ⟨z.b,0,none⟩)),(4,true,av aU),(1,true,aK)]) (λz=>Mem [(z.bc,jK z.bx z.es),(w,al)] (kG z.b t z.q (runM t (ar t) false script z.i)++[.box z.du [aa,z.bR] 47,.own z.bR 97 2 e7 z.ms,.box aU [aa,aa] 47])) (λz=>4161-z.i) rfl ?_ λhp=>?_
 ·rintro⟨i,q,bR,ms,b,du,bx,bc,es⟩ ⟨h1,CR,hi,ok,kC,CG,c0,jS⟩;dsimp only at h1 CR hi ok kC CG c0 jS⊢;have G:=kS h1;have nF:=G.n16;obtain⟨log,df,R,aaF⟩:=DJ h1 false script i;have I1:=@GU t h1 false script i;have M:=R.M;generalize kB:runM t (ar t) false script i=m at *;have hc:∀k,k<t.code.length->m.cW.getD k default=[]:=λk hk=>by rw[M.buf k hk,(R.lF rfl).1 k hk];rfl
  refine af ?_;refine aq (bp (λI hw=>RU I (oY.rG ok (Mem.dt hw) (hw.now c0) (hw.now jS)) nF hc) ?_);rintro Vh ck bY abk eZ;refine dp (λh3=>?_) λh3=>?_
  ·have dS:¬c8 t m=[]:=λg=>by rw[g,an]at h3;simp at h3
   have Je:=I1 dS;refine af ?_;refine ih (λ_:Unit=>True) (λ_=>[(10,true,.int .i64 (rK script i)),(9,true,.int .i64 (i:Nat)),(8,true,av du),(6,true,av b),(4,true,av aU),(1,true,aK)]) (λ_=>Mem [(bc,jK bx es),(w,al)] (kG b t q m++[.box du [aa,bR] 47,.own bR 97 2 e7 ms,.box aU [aa,aa] 47])) ?_ ?_
   ·refine bC (λaA=>?_) λaA=>?_
    ·have da:i<script.length:=by rw[an]at aA;omega
     refine af ?_;exact b6 () trivial ⟨by unfold rK;rw[aou da];rfl,rfl,rfl,rfl,rfl,rfl,trivial⟩ ek
    have da:¬i<script.length:=by rw[au]at aA;omega
    refine af ?_;exact b6 () trivial ⟨by unfold rK;rw[aot da];rfl,rfl,rfl,rfl,rfl,rfl,trivial⟩ ek
   rintro⟨⟩ _;refine af ?_;refine aq (eB (es:=kG b t q m) (bb:=λI hw=>adk I h1 R ok (rK script i) dS (hw.iD c0 aP λ_ h=>aoK _ h) (hw.iD jS aP λ_ h=>aoK _ h) hw.dt.ew) (ab:=?_));rintro rM ia Yn ig ⟨rfl,qQ,rfl,ob⟩;rw[aeA kB dS]at ob⊢;refine af ?_;generalize qO:qX t m (rK script i)=u4;refine ei λeQ=>?_;refine c7 0 ?_;refine cA (Mem [(bc,jK bx es),(w,al)] (.box eQ (e7 u4) 97::(kG b t {q with aj:=qQ} (runM t (ar t) false script (i+1))++([.box du [aa,bR] 47,.own bR 97 2 e7 ms,.box aU [aa,aa] 47]:List aB)))) (λ_ h=>h) ?_;refine aq (eI (enc:=e7) (dec:=xh) (e:=97) (sz:=2) (len:=1) (dM:=[(0,e7 u4)]) (ab:=λpU y0=>af ?_));refine aq (e6 8 (hm:=aP) (hk:=rfl) (bH:=by simp;omega) (ab:=λtZ tJ=>af ?_));refine c7 7 ?_;refine aj0 ?_;repeat refine aeL ?_
   refine aeD ⟨i+1,{q with aj:=qQ},tZ,ms++[u4],b,du,bx,bc,es⟩ ⟨h1,CR,?_,ob,tJ,?_,c0,jS⟩ ?_ ⟨rfl,rfl,rfl,rfl,rfl,trivial⟩ (b4 [2,3,4,5,6,7,8,9])
   ·show i+1<=4161;omega
   ·show(ms++[u4]).length=i+1;simp[CG]
   show 4161-(i+1)<4161-i;omega
  have I3:c8 t m=[]:=by rw[au]at h3;exact aoY (by omega)
  have AA:=LX h1 false script (i:=i) (by rw[kB];exact I3);rw[kB]at AA;refine af ?_;have jg:=M.nL;rw[lR h1]at jg;refine aq (bp (λI hw=>(adp I (oY.rG ok (Mem.dt hw) (hw.now c0) (hw.now jS)) G jg λk hk=>(M.zu h1 hk).1.1).size (hw.sz hy)) ?_);rintro v53 hj fW ⟨CX,Jr⟩ nG;have aix:=CX.aK;refine af ?_;refine c7 5 ?_;refine c7 7 ?_;refine Lb (bT rfl (.dv rfl xR rfl (.t1 rfl)) λI hw=>.inr (.inr ⟨h1,CR,v53,bR,rfl,kC,?_⟩));rw[<-AA,UF h1];exact hw.pass CX aP Jr
 refine af ?_;refine aq (gi (λI hw=>adl t ah ad ao vs I (bL.now hw)) ?_);rintro v bx es bc ir;rcases ir with⟨h1,rfl,rfl⟩ | ⟨h1,b,q,rfl,rfl,ok,c0,jS⟩
 ·refine af ?_;refine cM rfl (λ_=>?_) (λh=>by rw[aos,an]at h;exact absurd h h1);refine af ?_;refine c7 0 ?_;exact Lb (bT rfl (.dv rfl aP rfl (.t1 rfl)) λI hw=>.inl ⟨h1,rfl⟩)
 refine af ?_;refine cM rfl (λh=>by rw[aoq,au]at h;exact absurd rfl h) λ_=>?_;refine dp (λh2=>?_) λh2=>?_
 ·rw[an]at h2;refine af ?_;refine c7 5 ?_;exact Lb (bT rfl (.dv rfl pN rfl (.t1 rfl)) λI hw=>.inr (.inl ⟨h1,by omega,rfl⟩))
 rw[au]at h2;refine af ?_;refine ei λdu=>?_;refine ea 97 2 e7 ?_;exact ajY hp ⟨0,q,aa,[],b,du,bx,bc,kG b t q (iY t (ar t))⟩ ⟨h1,by omega,aoD _,ok,cU,rfl,c0,jS⟩ ⟨rfl,rfl,rfl,rfl,rfl,trivial⟩ (b4 [2,3,4,5,6,1,0,7])
end Go.Proofs.bA
namespace Go.b9
open Go Go.bM
def mz(k:Nat):List Value:=[av k]
def OF:List Value->Nat | [.pointer (some a)]=>a.block | _=>0
instance:eg mz 1:=⟨λ_=>rfl,by decide⟩
instance:nR mz (λ_=>True):=⟨λ_ _ u hu=>by simp[mz]at hu;subst hu;rfl⟩
end Go.b9
attribute [local irreducible] Go.wpList Go.Code.wp Go.bodyPost Go.Exit.then Go.Exit.inBlock Go.Calls
namespace Go.Proofs.bA
instance:jo prog 267 mz OF:=⟨trivial⟩
structure gy where
 ad:Value
 ak:Value
 aT:Value
 ax:Value
 bR:Value
 vs:List Value
 eK:List Nat
 rs:List (Value×Value)
def arj(t:aV)(q:gy):List Value:=[.int .i64 t.aC,q.ad,q.ak,q.aT,q.bR,q.ax]
def mq(w:qA):ca:=⟨w.loc,w.val⟩
def ark(q:gy)(m:cD)(k:Nat):List Value:=[(q.rs.getD k default).1,.int .i64 (m.aw.getD k default).at',(q.rs.getD k default).2]
def xb(q:gy)(m:cD)(k:Nat):List aB:=[.box (q.eK.getD k default) (ark q m k) 271,.own (q.rs.getD k default).1 70 2 dy (m.aw.getD k default).ag,.own (q.rs.getD k default).2 178 2 bB ((m.cW.getD k default).map mq)]
def ik(t:aV)(q:gy)(m:cD)(k:Nat):List aB:=.own (q.vs.getD k default) 169 8 cL (cr t k)::xb q m k
def iJ(b:Nat)(t:aV)(q:gy)(m:cD):List aB:=[.box b (arj t q) 266,.own q.ad 167 1 ct q.vs,.own q.ax 267 1 mz q.eK,.own q.bR 3 1 a7 m.mem,dj (dQ (ik t q m) t.code.length)]
structure qv(t:aV)(q:gy):Prop where
 ad:aD q.ad
 ak:aD q.ak
 aT:aD q.aT
 ax:aD q.ax
 bR:aD q.bR
 Vo:q.vs.length=t.code.length
 Rg:q.eK.length=t.code.length
 agQ:q.rs.length=t.code.length
 vs:∀k,k<t.code.length->aD (q.vs.getD k default)
 rs:∀k,k<t.code.length->aD (q.rs.getD k default).1/\aD (q.rs.getD k default).2
structure px(S:Nat->Prop)(w:World)(b:Nat)(t:aV)(q:gy)(m:cD):Prop where
 ok:qv t q
 box:gQ S w b (arj t q)
 code:aZ S w ct 1 q.ad q.vs
 ptr:aZ S w mz 1 q.ax q.eK
 mem:aZ S w a7 1 q.bR m.mem
 row:∀k,k<t.code.length->aZ S w cL 8 (q.vs.getD k default) (cr t k)
 gF:∀k,k<t.code.length->gQ S w (q.eK.getD k default) (ark q m k)
 bo:∀k,k<t.code.length->aZ S w dy 2 (q.rs.getD k default).1 (m.aw.getD k default).ag
 buf:∀k,k<t.code.length->aZ S w bB 2 (q.rs.getD k default).2 ((m.cW.getD k default).map mq)
 aO:aZ S w dU 1 q.ak (cc t)
 cf:aZ S w eH 3 q.aT (br t)
theorem px.of{b:Nat}{t:aV}{q:gy}{m:cD}{bs:List dm}{H:List aB}{w:World}(ok:qv t q)(hw:Mem bs (iJ b t q m++H) w)(aL:aZ al w dU 1 q.ak (cc t))(aJ:aZ al w eH 3 q.aT (br t)):px al w b t q m:=
 have hf:∀k,k<t.code.length->Mem bs (ik t q m k++(dj (jQ (ik t q m) t.code.length k)::H)) w:=λk hk=>(hw.tail.tail.tail.tail).sE k hk
 ⟨ok,hw.eQ aP trivial,hw.dX,hw.dX,hw.dX,λk hk=>(hf k hk).dX aP,λk hk=>(hf k hk).eQ dg trivial,λk hk=>(hf k hk).dX hy,λk hk=>(hf k hk).dX jC,aL,aJ⟩
theorem px.rG{b:Nat}{t:aV}{q:gy}{m:cD}{bs:List dm}{w:World}(ok:qv t q)(hw:Mem bs (iJ b t q m) w)(aL:aZ al w dU 1 q.ak (cc t))(aJ:aZ al w eH 3 q.aT (br t)):px al w b t q m:=px.of (H:=[]) ok (by rw[aoH];exact hw) aL aJ
theorem px.now{S:Nat->Prop}{B I:World}{b:Nat}{t:aV}{q:gy}{m:cD}{bs:List dm}{H:List aB}(h:px S B b t q m)(hw:Mem bs H I)(hB:(B,S)∈bs:=by repeat (first | exact List.Mem.head _ | refine List.Mem.tail _ ?_)):px al I b t q m:=⟨h.ok,hw.vE h.box hB,hw.now h.code hB,hw.now h.ptr hB,hw.now h.mem hB,λk hk=>hw.now (h.row k hk) hB,λk hk=>hw.vE (h.gF k hk) hB,λk hk=>hw.now (h.bo k hk) hB,λk hk=>hw.now (h.buf k hk) hB,hw.now h.aO hB,hw.now h.cf hB⟩
theorem T8(v:Value)(s:ByteArray)(l:List ByteArray)(w:World)(h:aZ al w dU 1 v l)(hm:s∈l):bl prog 257 [v,.string s] w λ_ r _=>r=.int .i64 (dr l s):=by
 have iy:=h.le;have sk:∀i,i<l.length->l.getD i default=s->(∀j,j<i->l.getD j default≠s)->dr l s=i:=λi h1 h2 h3=>by unfold dr;rw[List.findIdx_eq h1];refine⟨by rw[aop,<-h2,aor,aov h1];rfl,λj ae=>?_⟩;have:=h3 j ae;rw[aoA];rwa[aor,aov (by omega)]at this
 obtain⟨i1,h1,h2⟩:=aqk hm;refine ha func257 ntmps257 ?_;refine bX (λi:Nat=>i<=l.length/\∀j,j<i->l.getD j default≠s) (λi=>[(8,true,.int .i64 i),(7,true,.int .i64 l.length),(1,true,.string s),(0,true,v)]) (λs=>Mem [(w,al)] []) (λs=>l.length-s) (0) ⟨by omega,λj ae=>by omega⟩ ?_ ⟨rfl,rfl,rfl,rfl,trivial⟩ cv
 rintro i ⟨hi,bG⟩;refine dp (λh3=>?_) λh3=>?_
 ·have dE:i<l.length:=by rw[an]at h3;omega
  refine dp (λaA=>?_) λaA=>?_
  ·rw[an]at aA;refine pG λI hw=>?_;rw[sk i dE aA.symm bG];rfl
  rw[au]at aA;refine af ?_;refine bm ((i+1)) ⟨by omega,λj ae=>?_⟩ (by omega) (hA:=cv);by_cases e:j=i
  ·subst e;exact λg=>aA g.symm
  exact bG j (by omega)
 have dE:i=l.length:=by rw[au]at h3;omega
 refine absurd ?_ (bG i1 (by omega));rw[aor,aov h1,h2];rfl
section
variable {b:Nat} {t:aV} {q:gy} {m:cD} (w:World) (h:px al w b t q m)
include h
theorem Em(bd:0<t.code.length):bl prog 165 [av b] w λ_ v _=>v=.bool true:=by
 have hb:=h.box;have hp:=h.ptr;obtain⟨s1,s2,cJ,dw,dk,gO,eW,ep,iA,iz⟩:=h.ok;refine ha func165 ntmps165 ?_;refine dh (Tj underlying194 (b3 rfl) (b3 rfl)) (ab:=af ?_);refine bT rfl (.t1 rfl) λI hw=>?_;have h0:bw ((0:Int)<q.eK.length)=true:=by rw[an];omega
 exact aoI Value.bool h0
theorem WN(s:ByteArray)(aj:s∈cc t):bl prog 169 [av b,.string s] w λ_ v _=>v=.int .i64 (dr (cc t) s):=by have hb:=h.box;obtain⟨s1,s2,cJ,dw,dk,gO,eW,ep,iA,iz⟩:=h.ok;refine ha func169 ntmps169 ?_;refine aq (bp (λI hw=>T8 _ s _ I (hw.now h.aO) aj) ?_);rintro v bx bc rfl cu;refine af ?_;exact bT rfl (.t1 rfl) λI hw=>rfl
end
theorem NR{gp:Nat}{aE bv:Value}{a:Int}{l:List ca}(w:World)(hb:gQ al w gp [aE,.int .i64 a,bv])(aL:aZ al w bB 2 bv l):bl prog 250 [.pointer (some ⟨gp,2,none⟩)] w λ_ v _=>v=.bool l.isEmpty:=by
 have hr:=aL.aK;refine ha func250 ntmps250 ?_;refine bT rfl (.t1 rfl) λI hw=>?_;refine aoI Value.bool ?_;cases l with
 | nil=>rw[List.isEmpty_nil,an];rfl
 | cons x l=>rw[List.isEmpty_cons,au,aoN];omega
section
variable {b:Nat} {t:aV} {q:gy} {m:cD} (w:World) (h:px al w b t q m)
include h
theorem WU(k:Nat)(hk:k<t.code.length)(dR:(m.aw.getD k default).at'<(cr t k).length):bl prog 249 [av b,.int .i64 k] w λ_ v _=>v=.bool (sU t m k):=by
 have hb:=h.box;have hp:=h.ptr;have ai:=h.code;have lO:=h.row k hk;have wi:=h.gF k hk;unfold ark at wi;obtain⟨s1,s2,cJ,dw,dk,gO,eW,ep,iA,iz⟩:=h.ok;have FH:=iA k hk;refine ha func249 ntmps249 ?_;refine cz [0,1,2,3,4,5,6,7,8,9,10,11,12,13,14,15] mixed ?_;refine bQ ?_;refine bO _ (h:=fb ?_);intro cY;refine aF (aN ?_) iR;refine eP (λ_=>True) (h:=bK 0 (ab:=?_));refine aF (aN ?_) dz;refine af ?_;generalize hi:(cr t k).getD (m.aw.getD k default).at' default=i at *;refine w0 (λz:Int=>z=p4 i/\(decide (i.op=5)||decide (i.op=13))=true) (λz=>[(7,true,.int .i64 z),(5,true,.pointer (some ⟨q.eK.getD k default,0,none⟩))]) (λ_=>Mem [(w,al)] []) ?_ ?_
 ·refine bC (λh1=>?_) λh1=>?_
  ·rw[an]at h1;refine af ?_;exact b6 1 ⟨by unfold p4;rw[aou h1],by rw[h1];rfl⟩ (hA:=iR)
  rw[au]at h1;refine dp (λh2=>?_) λh2=>?_
  ·rw[an]at h2;refine af ?_;exact b6 i.dA ⟨by unfold p4;rw[aot h1],by rw[h2];rfl⟩ (hA:=iR)
  rw[au]at h2;refine pG λI hw=>?_;unfold sU;rw[hi];dsimp only;rw[aoE h1,aoE h2];simp;rfl
 rintro z ⟨rfl,a1⟩;refine af ?_;refine aq (bp (λI hw=>NR I (hw.vE wi aP) (hw.now (h.buf k hk) aP)) ?_);rintro v bx bc rfl cu;refine af ?_;refine e1 (h:=ev (bb:=λ_ I hw=>Mv _ _ _ I)) (ab:=af ?_);refine bT rfl (.t1 rfl) λI hw=>?_;refine aoI Value.bool ?_;unfold sU;rw[hi];dsimp only;rw[a1,aqx,List.isEmpty_map]
theorem NT(bd:0<t.code.length)(nF:t.code.length<=16):bl prog 166 [av b] w λn v I=>aZ (Fr n) I e7 2 v (c8 t m):=by
 have hb:=h.box;have hp:=h.ptr;have ai:=h.code;obtain⟨s1,s2,cJ,dw,dk,gO,eW,ep,iA,iz⟩:=h.ok;refine ha func166 ntmps166 ?_;refine aq (bp (λI hw=>Em I (h.now hw) bd) ?_);rintro v bx bc rfl cu;refine af ?_;refine cM rfl (λh=>by cases h) λ_=>?_;refine af ?_;refine ea 97 2 e7 ?_;refine bX (λz:Nat×Value=>z.1<=t.code.length/\aD z.2) (λz=>[(14,true,.int .i64 z.1),(13,true,.int .i64 q.eK.length),(12,true,q.ax),(3,true,z.2),(0,true,av b)]) (λz=>Mem [(w,al)] [.own z.2 97 2 e7 (pn t m z.1)]) (λz=>t.code.length-z.1) (0,aa) ⟨aoD _,cU⟩ ?_ ⟨rfl,rfl,rfl,rfl,rfl,trivial⟩ ek
 rintro⟨k,v⟩ ⟨hk,ax⟩;dsimp only at hk ax⊢;have jg:=AZ t m k;refine dp (λh2=>?_) λh2=>?_
 ·have bq:k<t.code.length:=by rw[an]at h2;omega
  have JJ:=h.row k bq;have FH:=iA k bq;have ep:=JJ.le;have wi:=h.gF k bq;unfold ark at wi;have er:=Dk t m k;unfold uZ at er;refine af ?_;refine cz [0,1,2,3,4,5,6,7,8,9,10,11,12,13,14,15,16,17,18,19] mixed ?_;refine bQ ?_;refine rE ?_ (h:=ev (bb:=λaz I hw=>WU I (h.now hw) k bq (by rw[an]at az;omega)));refine aN ?_;refine af ?_;have n4:(bw (((m.aw.getD k default).at':Int)<(cr t k).length)&&!sU t m k)=k9 t m k:=by
   unfold k9;have e:bw (((m.aw.getD k default).at':Int)<(cr t k).length)=decide ((m.aw.getD k default).at'<(cr t k).length):=by rw[cd];simp
   rw[e]
  refine ih (λz:Value=>aD z) (λz=>[(5,true,.pointer (some ⟨q.eK.getD k default,0,none⟩)),(4,true,.int .i64 k),(14,true,.int .i64 k),(13,true,.int .i64 q.eK.length),(12,true,q.ax),(3,true,z),(0,true,av b)]) (λz=>Mem [(w,al)] [.own z 97 2 e7 (pn t m k++if k9 t m k=true then [⟨1,(k:Int)⟩]else [])]) ?_ ?_
  ·refine bC (λh3=>?_) λh3=>?_
   ·rw[n4]at h3;rw[aou h3];refine af ?_;refine aq (eI (enc:=e7) (dec:=xh) (ab:=λsT AK=>af ?_));refine aq (e6 1 (hm:=aP) (hk:=rfl) (bH:=by simp;omega) (ab:=λv35 tI=>af ?_));exact b6 v35 tI (hA:=iR)
   rw[n4]at h3;rw[aot (by rw[h3];exact apK),aoH];refine af ?_;exact b6 v ax
  rintro v1 jy;refine af ?_;refine aq (bp (λI hw=>NR I (hw.vE wi aP) (hw.now (h.buf k bq) aP)) ?_);rintro v46 bx bc rfl cu;have aas:(pn t m k++if k9 t m k=true then [(⟨1,(k:Int)⟩:lI)]else []).length<=2* k+1:=by rw[aoy];split<;>simp<;>omega
  rw[List.isEmpty_map];rw[<-aoP]at er;refine dp (λh3=>?_) λh3=>?_
  ·rw[aoq]at h3;rw[aot (c:=(m.cW.getD k default).isEmpty=true) (by rw[h3];exact apK)]at er;refine af ?_;refine aq (eI (enc:=e7) (dec:=xh) (ab:=λsT AK=>af ?_));refine aq (e6 1 (hm:=aP) (hk:=rfl) (bH:=by simp only[aoJ,aoN,ao1];omega) (ab:=λv35 tI=>af ?_));exact bm (k+1,v35) ⟨by omega,tI⟩ (show t.code.length-(k+1)<t.code.length-k by omega) (hA:=λ_ h=>by dsimp only;rw[er];exact h.tail.cX)
  rw[aos]at h3;rw[aou (c:=(m.cW.getD k default).isEmpty=true) h3,aoH]at er;refine af ?_;exact bm (k+1,v1) ⟨by omega,jy⟩ (show t.code.length-(k+1)<t.code.length-k by omega) (hA:=λ_ h=>by dsimp only;rw[er];exact h.cX)
 have bq:k=t.code.length:=by rw[au]at h2;omega
 subst bq;refine pG λI hw=>?_;exact hw.im aP aP
end
end Go.Proofs.bA
