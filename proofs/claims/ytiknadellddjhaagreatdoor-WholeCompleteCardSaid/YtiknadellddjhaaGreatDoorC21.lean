/- Lemmas for the law WholeComplete. -/
import Derived.Test.YtiknadellddjhaaGreatDoorC20
set_option linter.all false
open Go Go.b9 Go.bM Go.gG Go.fo
namespace Go.Proofs.bA
structure hJ where
 ag:List eh
 at':Nat
 deriving Inhabited
inductive k4 where
 | no
 | rd (loc:ByteArray) (bo:Int)
 | wr (loc:ByteArray) (val:Int)
 | o7 (f:Int)
def gL:eh:=⟨bg,0⟩
def jH(l:hJ)(n:Int):eh:=l.ag.getD n.toNat default
def fM(aC:Int)(ag:List eh)(d:Int)(v:eh):List eh:=if aC=2/\d=0 then ag else ag.set d.toNat v
def k0(op:Int)(a b:eh):Option eh:=if a.loc=bg/\b.loc=bg then some ⟨bg,pk op a.n b.n⟩else if b=gL then some a else if a=gL then some b else none
def jm(i:Instr)(l:hJ):hJ×k4:=
 if i.op=1 then(⟨l.ag,l.at'+1⟩,.wr i.loc i.c3)else if i.op=2 then(⟨l.ag,l.at'+1⟩,.wr i.loc (jH l i.a).n)
 else if i.op=3 then(⟨l.ag,l.at'+1⟩,.rd i.loc i.d)else if i.op=4 then(⟨l.ag.set i.d.toNat ⟨bg,i.c3⟩,l.at'+1⟩,.no)else(⟨l.ag,l.at'+1⟩,.o7 1)
def Df(code:List Instr)(k:Nat):Nat:=(mM code k).toNat
def lX(code:List Instr)(l:hJ):Option (hJ×k4):=
 let i:=code.getD l.at' default
 let a:=jH l i.a
 let b:=jH l i.b
 if i.op=6 then if a.loc=bg then none else some (⟨l.ag,l.at'+1⟩,.rd a.loc i.d)
 else if i.op=7 then if a.loc=bg\/b.loc≠bg then none else some (⟨l.ag,l.at'+1⟩,.wr a.loc b.n)
 else if i.op=8 then(k0 8 a ⟨bg,i.c3⟩).map λv=>(⟨fM 2 l.ag i.d v,l.at'+1⟩,.no)
 else if i.op=9 then(if i.a=i.b then some gL else k0 9 a b).map λv=>(⟨fM 2 l.ag i.d v,l.at'+1⟩,.no)
 else if i.op=10 then(k0 10 a b).map λv=>(⟨fM 2 l.ag i.d v,l.at'+1⟩,.no)
 else if i.op=11 then some (⟨l.ag,if a=b then l.at'+1 else Df code l.at'⟩,.no)
 else if i.op=13 then some (⟨l.ag,l.at'+1⟩,.o7 i.dA)
 else some (⟨l.ag,l.at'+1⟩,.no)
def cr(t:aV)(k:Nat):List Instr:=t.code.getD k default
def stepT(t:aV)(k:Nat)(l:hJ):hJ×k4:=
 if t.aC=1 then jm ((cr t k).getD l.at' default) l
 else(lX (cr t k) l).getD (⟨fM t.aC l.ag ((cr t k).getD l.at' default).d gL,l.at'+1⟩,.no)
structure cD where
 aw:List hJ
 mem:List Int
 last:List Int
 cW:List (List qA)
 done:List Bool
 bE:List Int
 co:List (List Int)
def tl(k:Nat)(p:Nat)(x:eV):Bool:=decide (x.aH=(k:Int))&&decide (x.place=(p:Int))
def n1(cq:aW)(k p:Nat):Nat:=cq.J.findIdx (tl k p)
def nB(m:cD)(w:qA):cD:={m with mem:=m.mem.set w.loc.toNat w.val,last:=m.last.set w.loc.toNat w.aI,co:=m.co.set w.loc.toNat (m.co.getD w.loc.toNat default++[w.aI])}
def pw(l:List qA)(loc:Int):Option qA:=l.reverse.find? λw=>decide (w.loc=loc)
def nm(m:cD)(k loc:Nat):Int×Int:=match pw (m.cW.getD k default) loc with
 | some w=>(w.val,w.aI)
 | none=>(m.mem.getD loc default,m.last.getD loc default)
def eU(t:aV)(cq:aW)(buf:Bool)(m:cD)(k:Nat):cD:=
 let l:=m.aw.getD k default
 let e:=n1 cq k l.at'
 match(stepT t k l).2 with
 | .rd s r=>{m with aw:=m.aw.set k ⟨fM t.aC (stepT t k l).1.ag r ⟨bg,(nm m k (dr cq.aO s)).1⟩,(stepT t k l).1.at'⟩,bE:=m.bE.set e (nm m k (dr cq.aO s)).2,done:=m.done.set e true}
 | .wr s v=>if buf then{m with aw:=m.aw.set k (stepT t k l).1,done:=m.done.set e true,cW:=m.cW.set k (m.cW.getD k default++[⟨(dr cq.aO s:Nat),v,(e:Nat)⟩])} else{nB m ⟨(dr cq.aO s:Nat),v,(e:Nat)⟩with aw:=m.aw.set k (stepT t k l).1,done:=m.done.set e true}
 | _=>{m with aw:=m.aw.set k (stepT t k l).1}
def kk(m:cD)(k:Nat):cD:=match m.cW.getD k default with
 | []=>m
 | w::r=>nB {m with cW:=m.cW.set k r} w
def p4(i:Instr):Int:=if i.op=5 then 1 else i.dA
def sU(t:aV)(m:cD)(k:Nat):Bool:=
 let i:=(cr t k).getD (m.aw.getD k default).at' default
 !(m.cW.getD k default).isEmpty&&(decide (i.op=5)||decide (i.op=13))&&qn (p4 i) 2 1
def k9(t:aV)(m:cD)(k:Nat):Bool:=decide ((m.aw.getD k default).at'<(cr t k).length)&&!sU t m k
def uZ(t:aV)(m:cD)(k:Nat):List lI:=(if k9 t m k then [⟨1,(k:Int)⟩]else [])++(if(m.cW.getD k default).isEmpty then []else [⟨2,(k:Int)⟩])
def pn(t:aV)(m:cD)(n:Nat):List lI:=(List.range n).flatMap (uZ t m)
def c8(t:aV)(m:cD):List lI:=pn t m t.code.length
def hK(t:aV)(cq:aW)(buf:Bool)(m:cD)(x:lI):cD:=if x.kind=1 then eU t cq buf m x.aH.toNat else kk m x.aH.toNat
def y5(t:aV)(k:Nat):List eh:=t.init.foldl (λl x=>if x.aH=(k:Int)then l.set x.bo.toNat x.value else l) (List.replicate (cn t.aC) gL)
def iY(t:aV)(cq:aW):cD where
 aw:=(List.range t.code.length).map λk=>⟨y5 t k,0⟩
 mem:=cq.init
 last:=List.replicate cq.aO.length (-1)
 cW:=List.replicate t.code.length []
 done:=List.replicate cq.J.length false
 bE:=List.replicate cq.J.length (-1)
 co:=List.replicate cq.aO.length []
def wL(script:List Int)(i n:Nat):Nat:=((if i<script.length then script.getD i default else 0).emod (n:Int)).toNat
def runM(t:aV)(cq:aW)(buf:Bool)(script:List Int):Nat->cD
 | 0=>iY t cq
 | i+1=>let m:=runM t cq buf script i
  if(c8 t m).length=0 then m else hK t cq buf m ((c8 t m).getD (wL script i (c8 t m).length) default)
def uv(t:aV)(cq:aW)(buf:Bool)(script:List Int):cD:=runM t cq buf script 8192
def wT(cq:aW)(m:cD):List Int:=cq.cf.map λx=>if x.aH= -1 then m.mem.getD (dr cq.aO x.loc) default else((m.aw.getD x.aH.toNat default).ag.getD x.bo.toNat default).n
def k7(t:aV)(k:Nat):Acc:=match jb t (br t) k with | .ok a=>a | .bad _=>⟨[],[],[],[],[],[]⟩
def fst(t:aV)(k:Nat):Nat:=(k7 t k).J.length
def ju(t:aV)(k:Nat):fg:=ez t k (fst t k)
def hD(t:aV)(k:Nat):cg:=match rR t k (fst t k)with | .go s _=>s | _=>fm t k
def lE(gb:Nat->Int):jZ->eh->Prop
 | .num n,v=>v=⟨bg,n⟩
 | .ks s,v=>v=⟨s,0⟩
 | .told i,v=>v=⟨bg,gb i⟩/\eF (gb i)=true
 | .hid,v=>lY v=true
structure nS(gb:Nat->Int)(s:cg)(l:hJ):Prop where
 len:l.ag.length=s.ag.length
 bo:∀i,i<s.ag.length->lE gb (s.ag.getD i default).has (l.ag.getD i default)
theorem MP{n:Int}(h:eF n=true):lY ⟨bg,n⟩=true:=by unfold lY;rw[aou rfl];exact h
theorem ajw{s:ByteArray}(h:eE s=true):lY ⟨s,0⟩=true:=by unfold lY;rw[aot (sB h),h];rfl
theorem KT{cx:fg}{J:List eV}{gb:Nat->Int}{h:jZ}{v:eh}(hm:lE gb h v)(hk:l2 cx J h):lY v=true:=by
 cases h with
 | num n=>unfold lE at hm;subst hm;exact MP hk
 | ks s=>unfold lE at hm;subst hm;exact ajw hk.1
 | told i=>obtain⟨h1,h2⟩:=hm;subst h1;exact MP h2
 | hid=>exact hm
theorem adM{cx:fg}{J:List eV}{gb zI:Nat->Int}{h:jZ}{v:eh}(hk:l2 cx J h)(he:∀i,i<J.length->zI i=gb i)(hm:lE gb h v):lE zI h v:=by
 cases h with
 | told i=>have e:=he i hk.1;show v=⟨bg,zI i⟩/\eF (zI i)=true;rw[e];exact hm
 | _=>exact hm
theorem nS.HY{cx:fg}{s:cg}{k:Nat}{l:hJ}{gb zI:Nat->Int}(S:gH cx s k)(h:nS gb s l)(he:∀i,i<s.J.length->zI i=gb i):nS zI s l:=⟨h.len,λi hi=>adM (S.ag i hi).1 he (h.bo i hi)⟩
theorem nS.put{gb:Nat->Int}{s:cg}{l:hJ}(h:nS gb s l){aC d:Int}{x:eO}{v:eh}(hx:lE gb x.has v){a:Nat}{s':cg}(aj:s'.ag=gP aC s.ag d x):nS gb s' ⟨fM aC l.ag d v,a⟩:=by
 refine⟨?_,λi hi=>?_⟩
 ·rw[aj,Bf];unfold fM;dsimp only;split
  ·exact h.len
  rw[aoU];exact h.len
 rw[aj]at hi⊢;rw[Bf]at hi;unfold gP fM;dsimp only;split
 ·exact h.bo i hi
 rw[fU,fU,h.len];split
 ·exact hx
 exact h.bo i hi
theorem nS.same{gb:Nat->Int}{s s':cg}{l:hJ}(h:nS gb s l)(aj:s'.ag=s.ag)(a:Nat):nS gb s' ⟨l.ag,a⟩:=⟨by rw[aj];exact h.len,λi hi=>by rw[aj]at hi⊢;exact h.bo i hi⟩
theorem R9(op:Int)(h:op=8\/op=9\/op=10){n:Int}(bd:eF n=true):pk op n 0=n/\pk op 0 n=n:=by
 have key:(BitVec.ofInt 32 n).toInt=n:=by unfold eF at bd;rw[aoo,aop,aop]at bd;rw[aq8];exact Int.bmod_eq_of_le (by omega) (by omega)
 unfold pk;rcases h with rfl | rfl | rfl<;>simp[key]
theorem KO{cx:fg}{J:List eV}{gb:Nat->Int}{op:Int}(bn:op=8\/op=9\/op=10){a b:jZ}{x y:eh}(ay:lE gb a x)(hb:lE gb b y)(acj:l2 cx J a)(sx:l2 cx J b): lE gb (pO op a b) ((k0 op x y).getD gL):=by
 have Vj:=KT ay acj;have Vl:=KT hb sx;have hid:lY ((k0 op x y).getD gL)=true:=by
  unfold k0;split
  ·exact MP (Sj _ _ _)
  split
  ·exact Vj
  split
  ·exact Vl
  decide
 have Vq:∀v:eh,lY v=true->v.loc=bg->eF v.n=true:=λv h e=>by unfold lY at h;rw[aou e]at h;exact h
 unfold pO;split
 ·unfold lE at ay hb⊢;subst ay;subst hb;unfold k0;rw[aou ⟨rfl,rfl⟩];rfl
 ·rename_i n kO _;split
  ·rename_i e;subst e;unfold lE at ay;subst ay;have:(k0 op ⟨bg,0⟩ y).getD gL=y:=by
    unfold k0;split
    ·rename_i q;have aY:eF y.n=true:=Vq y Vl q.2;show(⟨bg,pk op 0 y.n⟩:eh)=y;rw[(R9 op bn aY).2];obtain⟨M5,aon⟩:=y;simp only at q;rw[q.2]
    split
    ·rename_i q;rw[q];rfl
    rw[aou (show(⟨bg,0⟩:eh)=gL from rfl)];rfl
   rw[this];exact hb
  exact hid
 ·rename_i dJ n _;split
  ·rename_i e;subst e;unfold lE at hb;subst hb;have:(k0 op x ⟨bg,0⟩).getD gL=x:=by
    unfold k0;split
    ·rename_i q;have hx:eF x.n=true:=Vq x Vj q.1;show(⟨bg,pk op x.n 0⟩:eh)=x;rw[(R9 op bn hx).1];obtain⟨M4,aki⟩:=x;simp only at q;rw[q.1]
    rw[aou (show(⟨bg,0⟩:eh)=gL from rfl)];rfl
   rw[this];exact ay
  exact hid
 exact hid
theorem Tx{cx:fg}{dd s:cg}:∀(n k:Nat),Rd cx dd s k->(∀j,k<=j->j<k+n->j<cx.code.length/\(cx.code.getD j default).op=12)->Rd cx dd s (k+n)
 | 0,_,h,_=>h
 | n+1,k,h,ae=>by
  obtain⟨h1,h2⟩:=ae k (aoL _) (by omega);have az:fR cx s k=.go s (k+1):=by unfold fR;dsimp only;rw[h2];simp
  have:=Tx n (k+1) (.step h h1 az) λj cB bz=>ae j (by omega) (by omega);rw[show k+1+n=k+(n+1) by omega]at this;exact this
def OY(t:aV)(k p:Nat)(dir:Int)(loc:ByteArray)(val bo:Int):eV:=⟨(k:Int),(p:Int),dir,((dr (cc t) loc:Nat):Int),val,bo⟩
def pz(t:aV)(k:Nat)(gb:Nat->Int)(s:cg)(l:hJ):Prop:=
 match(stepT t k l).2 with
 | .rd loc r=>loc∈cc t/\(stepT t k l).1.at'=l.at'+1/\∃s',Rd (ju t k) (fm t k) s' (l.at'+1)/\s'.J=s.J++[OY t k l.at' 1 loc 0 r]/\s'.bars=s.bars/\ ∀n,eF n=true->nS (λi=>if i=s.J.length then n else gb i) s' ⟨fM t.aC (stepT t k l).1.ag r ⟨bg,n⟩,l.at'+1⟩
 | .wr loc v=>loc∈cc t/\(stepT t k l).1.at'=l.at'+1/\eF v=true/\∃s',Rd (ju t k) (fm t k) s' (l.at'+1)/\s'.J=s.J++[OY t k l.at' 2 loc v 0]/\s'.bars=s.bars/\nS gb s' (stepT t k l).1
 | .o7 f=>(stepT t k l).1.at'=l.at'+1/\f=p4 ((cr t k).getD l.at' default)/\(((cr t k).getD l.at' default).op=5\/((cr t k).getD l.at' default).op=13)/\ ∃s',Rd (ju t k) (fm t k) s' (l.at'+1)/\s'.J=s.J/\s'.bars=s.bars++[⟨(k:Int),(l.at':Int),f⟩]/\nS gb s' (stepT t k l).1
 | .no=>l.at'<(stepT t k l).1.at'/\(stepT t k l).1.at'<=(cr t k).length/\∃s',Rd (ju t k) (fm t k) s' (stepT t k l).1.at'/\s'.J=s.J/\s'.bars=s.bars/\nS gb s' (stepT t k l).1
theorem ars{α β:Type}(o:Option α)(f:α->β)(d:α):(o.map f).getD (f d)=f (o.getD d):=by cases o<;>rfl
theorem acC{cx:fg}(C:l1 cx)(ay:cx.aC=2){k:Nat}(hk:k<cx.code.length)(bn:(cx.code.getD k default).op=11):Df cx.code k=nJ cx.code k:=by obtain⟨h1,h2,h3,aA,_⟩:=FZ (AS C hk bn);have:=C.cT ay _ h2;unfold kX at this;rw[aou h3,aA,ap7]at this;unfold Df mM;rw[aou bn,this];rfl
section
variable {t:aV} (G:iS t)
include G
theorem BA{k:Nat}(hk:k<t.code.length){c5:Nat}(kE:rR t k (fst t k)=.go (hD t k) c5){gb:Nat->Int}{s:cg}{l:hJ}(cj:Rd (ju t k) (fm t k) s l.at')(bL:nS gb s l)(dR:l.at'<(cr t k).length):pz t k gb s l:=by
 have C:l1 (ju t k):=G.cx hk (fst t k);have h0:gH (ju t k) (fm t k) 0:=G.dd hk (fst t k);have S:=cj.ok C h0;obtain⟨s',c4,az⟩:=Tw C h0 kE cj dR;have mC:=Rd.step cj dR az;have bV:ri (ju t k).aC ((ju t k).code.getD l.at' default):=yj C S dR;have yD:(ju t k).code=cr t k:=rfl;have PQ:(ju t k).aC=t.aC:=rfl;have lN:(ju t k).aO=cc t:=rfl;rw[PQ]at bV;have kD:∀n:Int,0<=n->n<cn t.aC->lE gb (bS s n).has (jH l n)/\l2 (ju t k) s.J (bS s n).has/\fx s.J (bS s n).on:=λn h1 h2=>by
  have:=S.lW;rw[PQ]at this;have q:n.toNat<s.ag.length:=by omega
  exact⟨bL.bo _ q,S.ag _ q⟩
 have hm:(cr t k).getD l.at' default∈cr t k:=eN dR;rw[yD]at bV;revert az;have wr:∀{loc on x n},kJ (ju t k) s l.at' loc on x=.go s' c4->(let o:=((cr t k).getD l.at' default).op;o=1\/o=2\/o=3\/o=6\/o=7)->loc∈cc t->fx s.J on->l2 (ju t k) s.J x.has->fx s.J x.on->lE gb x.has ⟨bg,n⟩->
  stepT t k l=(⟨l.ag,l.at'+1⟩,.wr loc n)->pz t k gb s l:=λ{loc on x n} cB bz fc iB kp oi DA e=>by
  obtain⟨bu,_,_,m,gg,lp⟩:=Hj C S dR cB fc bz iB kp oi;rw[gg]at DA kp;unfold lE at DA;injection DA with _ DA;subst DA;subst bu;unfold pz;rw[e];refine⟨fc,rfl,kp,s',mC,by rw[lp];rfl,by rw[lp];rfl,bL.same (by rw[lp];rfl) _⟩
 have rd:∀{loc on d},mm (ju t k) s l.at' loc on d=.go s' c4->(let o:=((cr t k).getD l.at' default).op;o=1\/o=2\/o=3\/o=6\/o=7)->loc∈cc t->fx s.J on->0<=d/\d<cn t.aC->
  stepT t k l=(⟨l.ag,l.at'+1⟩,.rd loc d)->pz t k gb s l:=λ{loc on d} cB bz fc iB kp e=>by
  obtain⟨bu,_,_,lp⟩:=TA C S dR cB fc bz iB kp;subst bu;unfold pz;rw[e];refine⟨fc,rfl,s',mC,by rw[lp];rfl,by rw[lp];rfl,λn bd=>?_⟩;have yy:nS (λi=>if i=s.J.length then n else gb i) s l:=bL.HY S λi hi=>aot (by omega);refine yy.put (x:=⟨.told s.J.length,1#64<<<s.J.length⟩) ?_ (by rw[lp];rfl);show _/\_;dsimp only;rw[aou rfl];exact⟨rfl,bd⟩
 have no:∀{u:hJ} {s2:cg},stepT t k l=(u,.no)->l.at'<u.at'->u.at'<=(cr t k).length->Rd (ju t k) (fm t k) s2 u.at'->s2.J=s.J->s2.bars=s.bars->nS gb s2 u->pz t k gb s l:=λ{u s2} e cB bz fc iB oi kp=>by unfold pz;rw[e];exact⟨cB,bz,s2,fc,iB,oi,kp⟩
 have o7:∀{f:Int} {s2:cg},stepT t k l=(⟨l.ag,l.at'+1⟩,.o7 f)->f=p4 ((cr t k).getD l.at' default)->(((cr t k).getD l.at' default).op=5\/((cr t k).getD l.at' default).op=13)->Rd (ju t k) (fm t k) s2 (l.at'+1)->s2.J=s.J->s2.bars=s.bars++[⟨(k:Int),(l.at':Int),f⟩]->s2.ag=s.ag->pz t k gb s l:=λ{f s2} e cB bz fc iB oi kp=>by unfold pz;rw[e];exact⟨rfl,cB,bz,s2,fc,iB,oi,bL.same kp _⟩
 unfold fR;dsimp only;rw[yD];generalize hi:(cr t k).getD l.at' default=i at bV hm wr rd o7;rcases G.aC with ay | ay
 ·
  have mG:=bV.A8 ay;have jx:stepT t k l=jm i l:=by unfold stepT;rw[aou ay,hi]
  have fs:∀c,c∈t.code->∀i,i∈c->ng t.aC i=true:=G.ins;rw[aot (show ¬i.op=13 by omega)];by_cases iN:i.op=1
  ·rw[aou iN];intro az;exact wr az (.inl iN) (C.loc i hm (.inl iN)) (fx.zero _) bV.c3 (fx.zero _) rfl (by rw[jx];unfold jm;rw[aou iN])
  rw[aot iN];by_cases fZ:i.op=2
  ·rw[aou fZ];intro az;obtain⟨g1,g2,g3⟩:=kD i.a bV.a.1 bV.a.2;have sm:=C.loc i hm (.inr (.inl fZ));have bd:∃n,(bS s i.a).has=.num n:=by obtain⟨_,_,_,n,e,_⟩:=Hj C S dR az sm (by rw[yD,hi];exact .inr (.inl fZ)) (fx.zero _) g2 g3;exact⟨n,e⟩
   obtain⟨n,e⟩:=bd;have ax:jH l i.a=⟨bg,n⟩:=by rw[e]at g1;exact g1
   refine wr (n:=n) az (.inr (.inl fZ)) sm (fx.zero _) g2 g3 (by rw[<-ax];exact g1) ?_;rw[jx];unfold jm;rw[aot iN,aou fZ,ax]
  rw[aot fZ];by_cases jD:i.op=3
  ·rw[aou jD];intro az;exact rd az (.inr (.inr (.inl jD))) (C.loc i hm (.inr (.inr jD))) (fx.zero _) bV.d (by rw[jx];unfold jm;rw[aot iN,aot fZ,aou jD])
  rw[aot jD];by_cases lS:i.op=4
  ·rw[aou lS];intro az;injection az with bu b2;subst b2;refine no (u:=⟨l.ag.set i.d.toNat ⟨bg,i.c3⟩,l.at'+1⟩) (s2:=s') (by rw[jx];unfold jm;rw[aot iN,aot fZ,aot jD,aou lS]) (apN _) dR mC (by rw[<-bu]) (by rw[<-bu]) ?_;have:=bL.put (aC:=t.aC) (d:=i.d) (x:=⟨.num i.c3,0#64⟩) (v:=⟨bg,i.c3⟩) rfl (a:=l.at'+1) (s':=s') (by rw[<-bu];rfl);unfold fM at this;rw[aot (by omega)]at this;exact this
  rw[aot lS,aou (show i.op=5 by omega)];intro az;injection az with bu b2;subst b2;exact o7 (f:=1) (s2:=s') (by rw[jx];unfold jm;rw[aot iN,aot fZ,aot jD,aot lS]) (by unfold p4;rw[aou (show i.op=5 by omega)]) (.inl (by omega)) mC (by rw[<-bu]) (by rw[<-bu];rfl) (by rw[<-bu])
 ·
  have mG:=bV.K1 ay;have jx:stepT t k l=(lX (cr t k) l).getD (⟨fM t.aC l.ag i.d gL,l.at'+1⟩,.no):=by unfold stepT;rw[aot (by omega),hi]
  unfold lX at jx;dsimp only at jx;rw[hi]at jx;rw[aot (show ¬i.op=1 by omega),aot (show ¬i.op=2 by omega),aot (show ¬i.op=3 by omega),aot (show ¬i.op=4 by omega),aot (show ¬i.op=5 by omega)];obtain⟨o8,rv,Ix⟩:=kD i.a bV.a.1 bV.a.2;obtain⟨p6,yu,PC⟩:=kD i.b bV.b.1 bV.b.2;by_cases pq:i.op=6
  ·rw[aou pq]at jx⊢;intro az;split at az
   ·rename_i loc e;rw[e]at o8 rv;have ax:jH l i.a=⟨loc,0⟩:=o8;rw[ax,aot (sB rv.1)]at jx;exact rd az (.inr (.inr (.inr (.inl pq)))) rv.2 Ix bV.d jx
   cases az
  rw[aot pq]at jx⊢;by_cases nj:i.op=7
  ·rw[aou nj]at jx⊢;intro az;split at az
   ·rename_i loc e;rw[e]at o8 rv;have ax:jH l i.a=⟨loc,0⟩:=o8;obtain⟨_,_,_,n,b2,_⟩:=Hj C S dR az rv.2 (by rw[yD,hi];exact .inr (.inr (.inr (.inr nj)))) Ix yu PC;have hw:jH l i.b=⟨bg,n⟩:=by rw[b2]at p6;exact p6
    rw[ax,hw,aot λq=>q.elim (sB rv.1) λq=>q rfl]at jx;exact wr (n:=n) az (.inr (.inr (.inr (.inr nj)))) rv.2 Ix yu PC (by rw[<-hw];exact p6) jx
   cases az
  rw[aot nj]at jx⊢;by_cases ql:i.op=8\/i.op=9\/i.op=10
  ·rw[aou ql];intro az;injection az with bu b2;subst b2;have key:∃v,lE gb (jF s i).has v/\stepT t k l=(⟨fM 2 l.ag i.d v,l.at'+1⟩,.no):=by
    have hf:∀o:Option eh,(o.map λv=>((⟨fM 2 l.ag i.d v,l.at'+1⟩:hJ),k4.no)).getD (⟨fM t.aC l.ag i.d gL,l.at'+1⟩,.no)=(⟨fM 2 l.ag i.d (o.getD gL),l.at'+1⟩,.no):=λo=>by rw[ay];exact ars o (λv=>((⟨fM 2 l.ag i.d v,l.at'+1⟩:hJ),k4.no)) gL
    rcases ql with o | o | o
    ·rw[aou o,hf]at jx;refine⟨_,?_,jx⟩;unfold jF;dsimp only;rw[aou o,aot (by omega),o];exact KO (.inl rfl) o8 (b:=.num i.c3) rfl rv bV.c3
    ·rw[aot (by omega),aou o,hf]at jx;refine⟨_,?_,jx⟩;unfold jF;dsimp only;rw[aot (show ¬i.op=8 by omega)];by_cases q:i.a=i.b
     ·rw[aou ⟨o,q⟩,aou q];rfl
     rw[aot λh=>q h.2,aot q,o];exact KO (.inr (.inl rfl)) o8 p6 rv yu
    rw[aot (by omega),aot (by omega),aou o,hf]at jx;refine⟨_,?_,jx⟩;unfold jF;dsimp only;rw[aot (show ¬i.op=8 by omega),aot (by omega),o];exact KO (.inr (.inr rfl)) o8 p6 rv yu
   obtain⟨v,ax,e⟩:=key;have:=bL.put (aC:=t.aC) (d:=i.d) ax (a:=l.at'+1) (s':=s') (by rw[<-bu];rfl);rw[ay]at this;exact no e (apN _) dR mC (by rw[<-bu]) (by rw[<-bu]) this
  rw[aot ql];rw[aot (by omega),aot (by omega),aot (by omega)]at jx;by_cases lh:i.op=11
  ·rw[aou lh]at jx⊢;intro az;have ix:(((ju t k).code.getD l.at' default)).op=11:=by rw[yD,hi];exact lh
   have CD:Df (cr t k) l.at'=nJ (cr t k) l.at':=acC C ay dR ix;have uI:=FZ (AS C dR ix);rw[CD]at jx;rw[yD]at uI;have xH:stepT t k l=(⟨l.ag,if jH l i.a=jH l i.b then l.at'+1 else nJ (cr t k) l.at'⟩,.no):=jx;unfold qD at az;dsimp only at az;rw[yD,hi]at az;have fin:∀(s2:cg) (p:Nat),stepT t k l=(⟨l.ag,p⟩,.no)->s2.J=s.J/\s2.bars=s.bars->s2.ag=s.ag->Rd (ju t k) (fm t k) s2 p->l.at'<p->p<=(cr t k).length->pz t k gb s l:=λs2 p cB bz fc iB kp oi=>no cB kp oi iB bz.1 bz.2 (bL.same fc _);by_cases mG:((bS s i.a).has.oM||(bS s i.b).has.oM)=true
   ·rw[aou mG]at az;split at az
    ·rename_i aL;injection az with bu b2;subst b2;by_cases ax:jH l i.a=jH l i.b
     ·rw[aou ax]at xH;exact fin s' _ xH (by rw[<-bu];exact⟨rfl,rfl⟩) (by rw[<-bu]) mC (apN _) dR
     rw[aot ax]at xH;refine fin s' _ xH (by rw[<-bu];exact⟨rfl,rfl⟩) (by rw[<-bu]) ?_ (by omega) (by omega);have:=Tx (nJ (cr t k) l.at'-(l.at'+1)) _ mC λj cB bz=>by
      unfold uR at aL;rw[apt]at aL;have ae:j<(cr t k).length:=by omega
      refine⟨ae,?_⟩;have Z9:(cr t k).getD j default∈((cr t k).take (nJ (cr t k) l.at')).drop (l.at'+1):=by refine aoM (i:=j-(l.at'+1)) ?_;rw[apW,apV,aou (by omega),show l.at'+1+(j-(l.at'+1))=j by omega];exact getD_some ae
      exact aqn (aL _ Z9)
     rwa[show l.at'+1+(nJ (cr t k) l.at'-(l.at'+1))=nJ (cr t k) l.at' by omega]at this
    cases az
   rw[aot mG]at az;rw[aox,not_or]at mG;have su:sR (bS s i.a).has (bS s i.b).has=!decide (jH l i.a=jH l i.b):=by
    revert o8 rv p6 yu mG;generalize(bS s i.a).has=A;generalize(bS s i.b).has=B;intro o8 rv p6 yu mG;cases A with
    | num x=>
     cases B with
     | num y=>unfold lE at o8 p6;rw[o8,p6];unfold sR;simp
     | ks y=>unfold lE at o8 p6;rw[o8,p6];unfold sR;have:=sB yu.1;simp[Ne.symm this]
     | _=>exact absurd rfl mG.2
    | ks x=>
     cases B with
     | num y=>unfold lE at o8 p6;rw[o8,p6];unfold sR;have:=sB rv.1;simp[this]
     | ks y=>unfold lE at o8 p6;rw[o8,p6];unfold sR;simp
     | _=>exact absurd rfl mG.2
    | _=>exact absurd rfl mG.1
   rw[su]at az;by_cases ax:jH l i.a=jH l i.b
   ·rw[aow ax]at az;rw[aou ax]at xH;simp only[Bool.not_true,aqL,aqw]at az;injection az with bu b2;subst b2;exact fin s' _ xH (by rw[<-bu];exact⟨rfl,rfl⟩) (by rw[<-bu]) mC (apN _) dR
   rw[aoE ax]at az;rw[aot ax]at xH;simp only[Bool.not_false,if_true]at az;injection az with bu b2;subst b2;exact fin s' _ xH (by rw[<-bu];exact⟨rfl,rfl⟩) (by rw[<-bu]) mC (by omega) (by omega)
  rw[aot lh]at jx⊢;by_cases mN:i.op=13
  ·rw[aou mN]at jx⊢;intro az;injection az with bu b2;subst b2;exact o7 (f:=i.dA) (s2:=s') jx (by unfold p4;rw[aot (show ¬i.op=5 by omega)]) (.inr mN) mC (by rw[<-bu]) (by rw[<-bu];rfl) (by rw[<-bu])
  rw[aot mN]at jx⊢;intro az;injection az with bu b2;subst b2;exact no (u:=⟨l.ag,l.at'+1⟩) (s2:=s') jx (apN _) dR mC (by rw[<-bu]) (by rw[<-bu]) (bL.same (by rw[<-bu]) _)
end
theorem aiq{cx:fg}{s s':cg}{k c4:Nat}(az:fR cx s k=.go s' c4):∃m,s'.bars=s.bars++m/\∀b,b∈m->b.place=(k:Int):=by
 have nil:∀{x:cg} {q:Nat},oZ.go x q=.go s' c4->x.bars=s.bars->∃m,s'.bars=s.bars++m/\∀b,b∈m->b.place=(k:Int):=λe q=>by injection e with bu b2;subst bu;exact⟨[],by rw[q,aoH],λ_ h=>(by cases h)⟩
 have one:∀{f:Int} {q:Nat},oZ.go {s with bars:=s.bars++[⟨cx.aH,(k:Int),f⟩]} q=.go s' c4->∃m,s'.bars=s.bars++m/\∀b,b∈m->b.place=(k:Int):=λe=>by injection e with bu b2;subst bu;exact⟨_,rfl,λb h=>by rw[aoB]at h;subst h;rfl⟩
 have wr:∀{loc on x},kJ cx s k loc on x=.go s' c4->∃m,s'.bars=s.bars++m/\∀b,b∈m->b.place=(k:Int):=λe=>by
  unfold kJ at e;split at e
  ·split at e
   ·cases e
   injection e with bu b2;subst bu;exact⟨[],(aoH _).symm,λ_ h=>(by cases h)⟩
  cases e
 have rd:∀{loc on d},mm cx s k loc on d=.go s' c4->∃m,s'.bars=s.bars++m/\∀b,b∈m->b.place=(k:Int):=λe=>by
  unfold mm at e;split at e
  ·cases e
  injection e with bu b2;subst bu;exact⟨[],(aoH _).symm,λ_ h=>(by cases h)⟩
 unfold fR at az;dsimp only at az;split at az;exact wr az;split at az;exact wr az;split at az;exact rd az;split at az;exact nil az rfl;split at az;exact one az;split at az
 ·split at az
  ·exact rd az
  cases az
 split at az
 ·split at az
  ·exact wr az
  cases az
 split at az;exact nil az rfl;split at az
 ·unfold qD at az;dsimp only at az;split at az
  ·split at az
   ·exact nil az rfl
   cases az
  split at az<;>exact nil az rfl
 split at az
 ·exact one az
 exact nil az rfl
theorem LY{cx:fg}(C:l1 cx){dd:cg}(h0:gH cx dd 0){ot:cg}{c5:Nat}:∀(n:Nat) (s:cg) (k:Nat),Rd cx dd s k->iQ cx n s k=.go ot c5->∃m,ot.bars=s.bars++m/\∀b,b∈m->(k:Int)<=b.place
 | 0,s,k,_,h=>by unfold iQ at h;injection h with bu b2;subst bu;exact⟨[],(aoH _).symm,λ_ h=>(by cases h)⟩
 | n+1,s,k,cj,h=>by
  unfold iQ at h;split at h
  ·rename_i hk;split at h
   ·rename_i s' c4 az;obtain⟨m,hm,hp⟩:=aiq az;have dq:=(wU C (cj.ok C h0) hk az).1;obtain⟨m',kA,uK⟩:=LY C h0 n s' c4 (.step cj hk az) h;refine⟨m++m',by rw[kA,hm,aoP],λb hb=>?_⟩;rcases aoG.1 hb with q | q
    ·rw[hp b q];exact Int.le_refl _
    have:=uK b q;omega
   rename_i dS;exact absurd h (dS _ _)
  injection h with bu b2;subst bu;exact⟨[],(aoH _).symm,λ_ h=>(by cases h)⟩
theorem YJ{α:Type}[Inhabited α]{p:α->Bool}{l:List α}{e:Nat}(he:e<l.length)(h1:p (l.getD e default)=true)(h2:∀j,j<e->p (l.getD j default)=false):l.findIdx p=e:=by
 have az:∀j (ae:j<l.length),l.getD j default=l[j]:=λj ae=>by rw[aor,aov ae];rfl
 rw[List.findIdx_eq he];refine⟨by rw[<-az e he];exact h1,λj ae=>?_⟩;rw[<-az j (by omega)];exact h2 j ae
section
variable {t:aV} (h:dI t=0)
include h
theorem kS:iS t:=E1 (G6 h).1
theorem BZ:∀{k:Nat},k<=t.code.length->jb t (br t) k=.ok (k7 t k):=by
 obtain⟨a,ay⟩:=(G6 h).2;have key:∀d k,k+d=t.code.length->∃b,jb t (br t) k=.ok b:=by
  intro d
  induction d with
  | zero=>intro k e;exact⟨a,by rw[show k=t.code.length by omega];exact ay⟩
  | succ d bP=>intro k e;obtain⟨b,hb⟩:=bP (k+1) (by omega);obtain⟨dJ,_,_,q,_⟩:=MC hb;exact⟨dJ,q⟩
 intro k hk;obtain⟨b,hb⟩:=key (t.code.length-k) k (by omega);unfold k7;rw[hb]
theorem ns{k:Nat}(hk:k<t.code.length):(∃c5,rR t k (fst t k)=.go (hD t k) c5)/\(k7 t (k+1)).J=(k7 t k).J++(hD t k).J/\(k7 t (k+1)).bars=(k7 t k).bars++(hD t k).bars/\ uw (br t) k (fst t k) (hD t k).ag=true/\(k7 t (k+1)).ends=r9 (br t) (k7 t k).ends k (fst t k) (hD t k).ag:=by
 obtain⟨a,s,c5,h1,h2,h3,aA⟩:=MC (BZ h (show k+1<=t.code.length by omega));rw[BZ h (by omega)]at h1;injection h1 with h1;subst h1;have aj:hD t k=s:=by unfold hD;rw[show rR t k (fst t k)=.go s c5 from h2]
 rw[aj];exact⟨⟨c5,h2⟩,by rw[aA],by rw[aA],h3,by rw[aA];rfl⟩
theorem vf:ar t=⟨cc t,od t,(k7 t t.code.length).J,(k7 t t.code.length).bars,(k7 t t.code.length).addr,(k7 t t.code.length).data,(k7 t t.code.length).bh,br t,yn t (br t) (k7 t t.code.length).ends⟩:=Hb (G6 h).1 (BZ h (aoL _))
theorem YS{k:Nat}(hk:k<t.code.length):fst t (k+1)=fst t k+(hD t k).J.length:=by unfold fst;rw[(ns h hk).2.1,aoy]
theorem YT:fst t 0=0:=by have:=BZ h (aoD t.code.length);unfold fst;unfold jb at this;injection this with this;rw[<-this];rfl
theorem YR:fst t t.code.length=(ar t).J.length:=by rw[vf h];rfl
theorem Nx{k:Nat}:∀(d:Nat),k+d<=t.code.length->∃m,(k7 t (k+d)).J=(k7 t k).J++m
 | 0,_=>⟨[],(aoH _).symm⟩
 | d+1,hd=>by obtain⟨m,hm⟩:=Nx (k:=k) d (by omega);exact⟨m++(hD t (k+d)).J,by rw[show k+(d+1)=k+d+1 by omega,(ns h (by omega)).2.1,hm,aoP]⟩
theorem Nv{k:Nat}{b:nx}:∀(d:Nat),k+d<=t.code.length->b∈(k7 t (k+d)).bars->b∈(k7 t k).bars\/∃j,k<=j/\j<k+d/\b∈(hD t j).bars
 | 0,_,hb=>.inl hb
 | d+1,hd,hb=>by
  rw[show k+(d+1)=k+d+1 by omega,(ns h (by omega)).2.2.1]at hb;rcases aoG.1 hb with q | q
  ·rcases Nv d (by omega) q with q | ⟨j,cB,bz,fc⟩
   ·exact .inl q
   exact .inr ⟨j,cB,by omega,fc⟩
  exact .inr ⟨k+d,by omega,by omega,q⟩
theorem u9{k i:Nat}(hk:k<t.code.length)(hi:i<(hD t k).J.length):fst t k+i<(ar t).J.length/\bF (ar t) (fst t k+i)=(hD t k).J.getD i default:=by
 obtain⟨m,hm⟩:=Nx h (k:=k+1) (t.code.length-(k+1)) (by omega);rw[show k+1+(t.code.length-(k+1))=t.code.length by omega,(ns h hk).2.1]at hm;have e:(ar t).J=(k7 t k).J++(hD t k).J++m:=by rw[vf h];exact hm
 have aL:fst t k=(k7 t k).J.length:=rfl;refine⟨by rw[e,aoy,aoy];omega,?_⟩;unfold bF;rw[e,aL,kR (by rw[aoy];omega),uD (by omega),aqz]
theorem BH{e:Nat}(he:e<(ar t).J.length):∃k i,k<t.code.length/\i<(hD t k).J.length/\e=fst t k+i:=by
 have key:∀n,n<=t.code.length->e<fst t n->∃k i,k<n/\i<(hD t k).J.length/\e=fst t k+i:=by
  intro n
  induction n with
  | zero=>intro _ q;rw[YT h]at q;omega
  | succ n bP=>
   intro bd q;rw[YS h (by omega)]at q;by_cases bz:e<fst t n
   ·obtain⟨k,i,h1,h2,h3⟩:=bP (by omega) bz;exact⟨k,i,by omega,h2,h3⟩
   exact⟨n,e-fst t n,by omega,by omega,by omega⟩
 exact key _ (aoL _) (by rw[YR h];exact he)
theorem qt{k:Nat}(hk:k<t.code.length):l1 (ju t k)/\gH (ju t k) (fm t k) 0/\∃c5,Rd (ju t k) (fm t k) (hD t k) c5/\gH (ju t k) (hD t k) c5/\(cr t k).length<=c5:=by have G:=kS h;obtain⟨c5,aM⟩:=(ns h hk).1;obtain⟨h1,h2,h3⟩:=G.aw hk aM;exact⟨G.cx hk _,G.dd hk _,c5,h1,h3,h2⟩
theorem wR{k i:Nat}(hk:k<t.code.length)(hi:i<(hD t k).J.length):(bF (ar t) (fst t k+i)).aH=(k:Int):=by rw[(u9 h hk hi).2];obtain⟨_,_,_,_,S,_⟩:=qt h hk;exact(S.J _ (eN hi)).aH
theorem FO{k e:Nat}(hk:k<t.code.length)(he:e<(ar t).J.length)(aJ:(bF (ar t) e).aH=(k:Int)):∃i,i<(hD t k).J.length/\e=fst t k+i:=by
 obtain⟨c4,i,h1,h2,rfl⟩:=BH h he;rw[wR h h1 h2]at aJ;obtain rfl:c4=k:=by omega
 exact⟨i,h2,rfl⟩
theorem Lu{k:Nat}(hk:k<t.code.length){s:cg}{p:Nat}(cj:Rd (ju t k) (fm t k) s p):∃m,(hD t k).J=s.J++m:=by obtain⟨c5,aM⟩:=(ns h hk).1;obtain⟨C,h0,_⟩:=qt h hk;obtain⟨n,h1,_⟩:=Bt C h0 aM cj;exact TV n s p h1
theorem agp{k:Nat}(hk:k<t.code.length){s:cg}{p:Nat}(cj:Rd (ju t k) (fm t k) s p){b:nx}(hb:b∈(ar t).bars)(aJ:b.aH=(k:Int))(hp:b.place<p):b∈s.bars:=by
 obtain⟨c5,aM⟩:=(ns h hk).1;obtain⟨C,h0,_⟩:=qt h hk;obtain⟨n,h1,_⟩:=Bt C h0 aM cj;obtain⟨m,hm,ba⟩:=LY C h0 n s p cj h1;have h2:b∈(hD t k).bars:=by
  have jT:b∈(k7 t (0+t.code.length)).bars:=by rw[aqX];rw[vf h]at hb;exact hb
  rcases Nv h _ (by omega) jT with q | ⟨j,_,bz,fc⟩
  ·exfalso;have:=BZ h (aoD t.code.length);unfold jb at this;injection this with this;rw[<-this]at q;cases q
  obtain⟨_,_,_,_,S,_⟩:=qt h (show j<t.code.length by omega);have:=(S.bars b fc).aH;rw[aJ]at this;have e:k=j:=by have:(k:Int)=(j:Int):=this;omega
  rw[e];exact fc
 rw[hm]at h2;rcases aoG.1 h2 with q | q
 ·exact q
 have:=ba b q;omega
theorem EE{k:Nat}(hk:k<t.code.length){s' s:cg}{p nk:Nat}{x:eV}(cj:Rd (ju t k) (fm t k) s' nk)(he:s'.J=s.J++[x])(hx:x.aH=(k:Int)/\x.place=(p:Int)): n1 (ar t) k p=fst t k+s.J.length/\s.J.length<(hD t k).J.length/\bF (ar t) (fst t k+s.J.length)=x:=by
 obtain⟨m,hm⟩:=Lu h hk cj;rw[he]at hm;have aL:s.J.length<(hD t k).J.length:=by rw[hm];simp
 obtain⟨h1,h2⟩:=u9 h hk aL;have h3:(hD t k).J.getD s.J.length default=x:=by rw[hm,kR (by simp),o9]
 rw[h3]at h2;have j8:=kr h;refine⟨?_,aL,h2⟩;unfold n1;refine YJ h1 ?_ λj ae=>?_
 ·unfold tl;rw[show(ar t).J.getD _ default=x from h2,hx.1,hx.2,aow rfl,aow rfl];rfl
 have:=EH j8 ae h1;rw[h2,hx.1,hx.2]at this;unfold iI at this;unfold tl;rw[aox,aoo,aop,aop,aop]at this;rw[aoC,aoA,aoA];unfold bF at this;omega
end
def vF(m:cD):cw:=⟨m.bE,m.co⟩
def l0(cq:aW)(e:Nat):qA:=⟨(bF cq e).loc,(bF cq e).value,(e:Int)⟩
def rV(cq:aW)(l:Nat)(x:Int):Int:=if x<0 then cq.init.getD l default else(bF cq x.toNat).value
theorem Ib(l:List Int)(x:Int):l6 (l++[x])=x:=by unfold l6;rw[aot (by simp),aoy,aps,Nat.add_sub_cancel,o9]
theorem Yi{l m:List Int}(h:¬m=[]):l6 (l++m)=l6 m:=by have hm:¬m.length=0:=λq=>h (aoY q);unfold l6;rw[aot (by rw[aoy];omega),aot hm,aoy,uD (by omega),show l.length+m.length-1-l.length=m.length-1 by omega]
theorem Ez(t:aW)(o xU:List Nat)(k:Int):gq t (o++xU) k=gq t o k++gq t xU k:=by unfold gq ints;rw[<-apm,<-apl]
theorem Ov(t:aW)(e:Nat)(k:Int):gq t [e] k=if nQ t k e=true then [(e:Int)]else []:=by unfold gq ints;rw[List.filter_cons];cases nQ t k e<;>rfl
theorem XK{t:aW}{o:List Nat}{k:Int}:gq t o k=[]↔∀e,e∈o->(bF t e).dir=2->¬(bF t e).loc=k:=by
 constructor
 ·intro h e he hd aL;have:(e:Int)∈gq t o k:=AX.2 ⟨e,he,rfl,hd,aL⟩;rw[h]at this;cases this
 intro h;refine List.eq_nil_iff_forall_not_mem.2 λx hx=>?_;obtain⟨i,hi,_,hd,aL⟩:=AX.1 hx;exact h i hi hd aL
theorem Mg{α:Type}{l p q:List α}{x a:α}(h:l++[x]=p++a::q):(p=l/\a=x/\q=[])\/∃q',q=q'++[x]/\l=p++a::q':=by
 rcases List.eq_nil_or_concat q with rfl | ⟨q',y,rfl⟩
 ·obtain⟨h1,h2⟩:=List.append_inj' h rfl;injection h2 with h2;exact .inl ⟨h1.symm,h2.symm,rfl⟩
 rw[List.concat_eq_append]at h⊢;rw[show p++a::(q'++[y])=(p++a::q')++[y] by simp]at h;obtain⟨h1,h2⟩:=List.append_inj' h rfl;injection h2 with h2;exact .inr ⟨q',by rw[h2],h1⟩
theorem akn{cq:aW}{l:List Nat}{k:Nat}(hd:∀e,e∈l->(bF cq e).dir=2): (pw (l.map (l0 cq)) k=none/\gq cq l k=[])\/∃e:Nat,e∈l/\pw (l.map (l0 cq)) k=some (l0 cq e)/\¬gq cq l k=[]/\l6 (gq cq l k)=(e:Int):=by
 have key:∀r:List Nat,(∀e,e∈r->(bF cq e).dir=2)->(pw (r.reverse.map (l0 cq)) k=none/\gq cq r.reverse k=[])\/∃e:Nat,e∈r/\pw (r.reverse.map (l0 cq)) k=some (l0 cq e)/\¬gq cq r.reverse k=[]/\l6 (gq cq r.reverse k)=(e:Int):=by
  intro r
  induction r with
  | nil=>intro _;exact .inl ⟨rfl,rfl⟩
  | cons e r bP=>
   intro aM;have h1:gq cq (e::r).reverse k=gq cq r.reverse k++if nQ cq k e=true then [(e:Int)]else []:=by rw[List.reverse_cons,Ez,Ov]
   have h2:pw ((e::r).reverse.map (l0 cq)) k=if(bF cq e).loc=(k:Int)then some (l0 cq e)else pw (r.reverse.map (l0 cq)) k:=by
    unfold pw;rw[<-List.map_reverse,<-List.map_reverse,List.reverse_reverse,List.reverse_reverse,apg,List.find?_cons];by_cases q:(bF cq e).loc=(k:Int)
    ·rw[aou q,show decide ((l0 cq e).loc=(k:Int))=true from aow q]
    rw[aot q,show decide ((l0 cq e).loc=(k:Int))=false from aoE q]
   have hw:nQ cq k e=decide ((bF cq e).loc=(k:Int)):=by unfold nQ;rw[show decide ((cq.J.getD e default).dir=2)=true from aow (aM e aP),apE]
   rw[h1,h2,hw];by_cases q:(bF cq e).loc=(k:Int)
   ·rw[aou q,aow q,aou rfl];exact .inr ⟨e,.head _,rfl,by simp,Ib _ _⟩
   rw[aot q,aoE q,aot (by simp),aoH];rcases bP λx hx=>aM x (.tail _ hx)with h | ⟨x,hx,h⟩
   ·exact .inl h
   exact .inr ⟨x,.tail _ hx,h⟩
 have:=key l.reverse λe he=>hd e (List.mem_reverse.1 he);rw[List.reverse_reverse]at this;rcases this with h | ⟨e,he,h⟩
 ·exact .inl h
 exact .inr ⟨e,List.mem_reverse.1 he,h⟩
def V5(cq:aW)(m:cD)(p:List Nat)(r:Nat):Prop:=∃df:List Nat,df.Pairwise (· <·)/\(∀w,w∈df↔w<cq.J.length/\(bF cq w).dir=2/\eT cq w r=true/\w∉p)/\m.bE.getD r default=l6 (gq cq (p++df) (bF cq r).loc)
structure ui(t:aV)(m:cD)(b:List Nat)(k:Nat)(s:cg):Prop where
 rd:Rd (ju t k) (fm t k) s (m.aw.getD k default).at'
 tm:nS (λi=>nn (ar t) (vF m) (fst t k+i)) s (m.aw.getD k default)
 done:∀i,i<(hD t k).J.length->m.done.getD (fst t k+i) default=decide (i<s.J.length)
 bars:∀x,x∈s.bars->∀w,w∈b->(bF (ar t) w).place<x.place->qn x.dA 2 1=false
structure kL(t:aV)(m:cD)(log:List Nat)(b:Nat->List Nat):Prop where
 lH:m.aw.length=t.code.length
 mV:m.cW.length=t.code.length
 o5:m.done.length=(ar t).J.length
 rfl':m.bE.length=(ar t).J.length
 o3:m.co.length=(ar t).aO.length
 nL:m.mem.length=(ar t).aO.length
 qh:m.last.length=(ar t).aO.length
 aw:∀k,k<t.code.length->∃s,ui t m (b k) k s
 buf:∀k,k<t.code.length->m.cW.getD k default=(b k).map (l0 (ar t))
 jO:∀k,k<t.code.length->∀w,w∈b k↔w<(ar t).J.length/\(bF (ar t) w).aH=(k:Int)/\(bF (ar t) w).dir=2/\m.done.getD w default=true/\w∉log
 pC:∀k,k<t.code.length->(b k).Pairwise (· <·)
 oP:log.Nodup
 mi:∀e,e∈log->e<(ar t).J.length/\m.done.getD e default=true
 ph:∀e,e<(ar t).J.length->m.done.getD e default=true->(bF (ar t) e).dir=1->e∈log
 pre:∀p q a,log=p++a::q->∀e,e<(ar t).J.length->nN (ar t) e a=true->e∈p
 co:∀l,l<(ar t).aO.length->m.co.getD l default=gq (ar t) log l
 last:∀l,l<(ar t).aO.length->m.last.getD l default=l6 (gq (ar t) log l)
 mem:∀l,l<(ar t).aO.length->m.mem.getD l default=rV (ar t) l (l6 (gq (ar t) log l))
 rd:∀p q r,log=p++r::q->(bF (ar t) r).dir=1->V5 (ar t) m p r
 sO:∀e,e<(ar t).J.length->(bF (ar t) e).dir=2\/e∉log->m.bE.getD e default= -1
structure zR(t:aV)(m m':cD)(k e:Nat):Prop where
 kP:e<(ar t).J.length
 bI:(bF (ar t) e).aH=(k:Int)
 Bc:∀a,a<(ar t).J.length->(bF (ar t) a).aH=(k:Int)->m.done.getD a default=decide (a<e)
 dD:m'.done=m.done.set e true
 up:∃x,m'.aw=m.aw.set k x/\x.at'=(m.aw.getD k default).at'+1
def vg(b:Nat->List Nat)(k:Nat)(l:List Nat):Nat->List Nat:=λj=>if j=k then l else b j
theorem vh(b:Nat->List Nat)(k:Nat)(l:List Nat):vg b k l k=l:=aou rfl
theorem vi(b:Nat->List Nat){k j:Nat}(l:List Nat)(h:¬j=k):vg b k l j=b j:=aot h
theorem agu{cq:aW}{c:cw}{e:Nat}(h:(bF cq e).dir=2):nn cq c e=(bF cq e).value:=aou h
theorem agt{cq:aW}{c:cw}{e l:Nat}(h:(bF cq e).dir=1)(aL:(bF cq e).loc=(l:Int)):nn cq c e=rV cq l (c.bE.getD e default):=by unfold nn rV;rw[aot (show ¬(cq.J.getD e default).dir=2 from λq=>by have:(bF cq e).dir=2:=q;omega),show(cq.J.getD e default).loc=(l:Int)from aL,aoF]
theorem TB{cq:aW}{c ye:cw}{e:Nat}(h:ye.bE.getD e default=c.bE.getD e default):nn cq ye e=nn cq c e:=by unfold nn;rw[h]
theorem ajy{cq:aW}(h:e0 cq=true){l:Nat}(aL:l<cq.aO.length){x:Int}(hx:x<cq.J.length):eF (rV cq l x)=true:=by
 unfold rV;split
 ·simp only[e0,aoo,kZ,fT,aop]at h;have h1:=h.1.1.1.1.1.1.2 l aL;simp only[uT,aoo]at h1;exact h1.2
 have oc:x.toNat<cq.J.length:=by omega
 simp only[e0,aoo,jP,fT,aop]at h;have h1:=h.1.1.1.1.1.2.2 x.toNat oc;simp only[lL,aoo]at h1;have h2:=h1.1;simp only[qH,aoo]at h2;exact h2.1.1.1.2
end Go.Proofs.bA
