/- Lemmas for the law WholeSound. -/
import Derived.Test.YtiknadellddjhaaGreatDoorS17
set_option linter.all false
open Go Go.cc Go.bU Go.gH Go.eV
namespace Go.Proofs.bK
structure ht where
 ah:List dY
 at':Nat
 deriving Inhabited
inductive kN where
 | no
 | rd (loc:ByteArray) (bq:Int)
 | wr (loc:ByteArray) (val:Int)
 | oQ (f:Int)
def gF:dY:=⟨a8,0⟩
def ju(l:ht)(n:Int):dY:=l.ah.getD n.toNat default
def fD(az:Int)(ah:List dY)(d:Int)(v:dY):List dY:=if az=2/\d=0 then ah else ah.set d.toNat v
def kJ(op:Int)(a b:dY):Option dY:=if a.loc=a8/\b.loc=a8 then some ⟨a8,o7 op a.n b.n⟩else if b=gF then some a else if a=gF then some b else none
def je(i:Instr)(l:ht):ht×kN:=
 if i.op=1 then(⟨l.ah,l.at'+1⟩,.wr i.loc i.cY)else if i.op=2 then(⟨l.ah,l.at'+1⟩,.wr i.loc (ju l i.a).n)
 else if i.op=3 then(⟨l.ah,l.at'+1⟩,.rd i.loc i.d)else if i.op=4 then(⟨l.ah.set i.d.toNat ⟨a8,i.cY⟩,l.at'+1⟩,.no)else(⟨l.ah,l.at'+1⟩,.oQ 1)
def CA(code:List Instr)(k:Nat):Nat:=(mg code k).toNat
def lC(code:List Instr)(l:ht):Option (ht×kN):=
 let i:=code.getD l.at' default
 let a:=ju l i.a
 let b:=ju l i.b
 if i.op=6 then if a.loc=a8 then none else some (⟨l.ah,l.at'+1⟩,.rd a.loc i.d)
 else if i.op=7 then if a.loc=a8\/b.loc≠a8 then none else some (⟨l.ah,l.at'+1⟩,.wr a.loc b.n)
 else if i.op=8 then(kJ 8 a ⟨a8,i.cY⟩).map λv=>(⟨fD 2 l.ah i.d v,l.at'+1⟩,.no)
 else if i.op=9 then(if i.a=i.b then some gF else kJ 9 a b).map λv=>(⟨fD 2 l.ah i.d v,l.at'+1⟩,.no)
 else if i.op=10 then(kJ 10 a b).map λv=>(⟨fD 2 l.ah i.d v,l.at'+1⟩,.no)
 else if i.op=11 then some (⟨l.ah,if a=b then l.at'+1 else CA code l.at'⟩,.no)
 else if i.op=13 then some (⟨l.ah,l.at'+1⟩,.oQ i.dE)
 else some (⟨l.ah,l.at'+1⟩,.no)
def cj(t:aM)(k:Nat):List Instr:=t.code.getD k default
def stepT(t:aM)(k:Nat)(l:ht):ht×kN:=
 if t.az=1 then je ((cj t k).getD l.at' default) l
 else(lC (cj t k) l).getD (⟨fD t.az l.ah ((cj t k).getD l.at' default).d gF,l.at'+1⟩,.no)
structure cu where
 av:List ht
 mem:List Int
 last:List Int
 cT:List (List qn)
 done:List Bool
 br:List Int
 co:List (List Int)
def s5(k:Nat)(p:Nat)(x:eL):Bool:=decide (x.aI=(k:Int))&&decide (x.place=(p:Int))
def nI(cg:a1)(k p:Nat):Nat:=cg.J.findIdx (s5 k p)
def nb(m:cu)(w:qn):cu:={m with mem:=m.mem.set w.loc.toNat w.val,last:=m.last.set w.loc.toNat w.aN,co:=m.co.set w.loc.toNat (m.co.getD w.loc.toNat default++[w.aN])}
def pf(l:List qn)(loc:Int):Option qn:=l.reverse.find? λw=>decide (w.loc=loc)
def mP(m:cu)(k loc:Nat):Int×Int:=match pf (m.cT.getD k default) loc with
 | some w=>(w.val,w.aN)
 | none=>(m.mem.getD loc default,m.last.getD loc default)
def eK(t:aM)(cg:a1)(buf:Bool)(m:cu)(k:Nat):cu:=
 let l:=m.av.getD k default
 let e:=nI cg k l.at'
 match(stepT t k l).2 with
 | .rd s r=>{m with av:=m.av.set k ⟨fD t.az (stepT t k l).1.ah r ⟨a8,(mP m k (dp cg.bb s)).1⟩,(stepT t k l).1.at'⟩,br:=m.br.set e (mP m k (dp cg.bb s)).2,done:=m.done.set e true}
 | .wr s v=>if buf then{m with av:=m.av.set k (stepT t k l).1,done:=m.done.set e true,cT:=m.cT.set k (m.cT.getD k default++[⟨(dp cg.bb s:Nat),v,(e:Nat)⟩])} else{nb m ⟨(dp cg.bb s:Nat),v,(e:Nat)⟩with av:=m.av.set k (stepT t k l).1,done:=m.done.set e true}
 | _=>{m with av:=m.av.set k (stepT t k l).1}
def j0(m:cu)(k:Nat):cu:=match m.cT.getD k default with
 | []=>m
 | w::r=>nb {m with cT:=m.cT.set k r} w
def pZ(i:Instr):Int:=if i.op=5 then 1 else i.dE
def sy(t:aM)(m:cu)(k:Nat):Bool:=
 let i:=(cj t k).getD (m.av.getD k default).at' default
 !(m.cT.getD k default).isEmpty&&(decide (i.op=5)||decide (i.op=13))&&qg (pZ i) 2 1
def kR(t:aM)(m:cu)(k:Nat):Bool:=decide ((m.av.getD k default).at'<(cj t k).length)&&!sy t m k
def ux(t:aM)(m:cu)(k:Nat):List lf:=(if kR t m k then [⟨1,(k:Int)⟩]else [])++(if(m.cT.getD k default).isEmpty then []else [⟨2,(k:Int)⟩])
def o8(t:aM)(m:cu)(n:Nat):List lf:=(List.range n).flatMap (ux t m)
def cf(t:aM)(m:cu):List lf:=o8 t m t.code.length
def gW(t:aM)(cg:a1)(buf:Bool)(m:cu)(x:lf):cu:=if x.kind=1 then eK t cg buf m x.aI.toNat else j0 m x.aI.toNat
def yt(t:aM)(k:Nat):List dY:=t.init.foldl (λl x=>if x.aI=(k:Int)then l.set x.bq.toNat x.value else l) (List.replicate (b3 t.az) gF)
def iO(t:aM)(cg:a1):cu where
 av:=(List.range t.code.length).map λk=>⟨yt t k,0⟩
 mem:=cg.init
 last:=List.replicate cg.bb.length (-1)
 cT:=List.replicate t.code.length []
 done:=List.replicate cg.J.length false
 br:=List.replicate cg.J.length (-1)
 co:=List.replicate cg.bb.length []
def nV(script:List Int)(i n:Nat):Nat:=((if i<script.length then script.getD i default else 0).emod (n:Int)).toNat
def runM(t:aM)(cg:a1)(buf:Bool)(script:List Int):Nat->cu
 | 0=>iO t cg
 | i+1=>let m:=runM t cg buf script i
  if(cf t m).length=0 then m else gW t cg buf m ((cf t m).getD (nV script i (cf t m).length) default)
def nH(t:aM)(cg:a1)(buf:Bool)(script:List Int):cu:=runM t cg buf script 8192
def ss(cg:a1)(m:cu):List Int:=cg.cw.map λx=>if x.aI= -1 then m.mem.getD (dp cg.bb x.loc) default else((m.av.getD x.aI.toNat default).ah.getD x.bq.toNat default).n
def kQ(t:aM)(k:Nat):Acc:=match iT t (bk t) k with | .ok a=>a | .bad _=>⟨[],[],[],[],[],[]⟩
def fst(t:aM)(k:Nat):Nat:=(kQ t k).J.length
def jj(t:aM)(k:Nat):fa:=ek t k (fst t k)
def ho(t:aM)(k:Nat):b6:=match rz t k (fst t k)with | .go s _=>s | _=>fg t k
def k8(fV:Nat->Int):jK->dY->Prop
 | .num n,v=>v=⟨a8,n⟩
 | .kb s,v=>v=⟨s,0⟩
 | .told i,v=>v=⟨a8,fV i⟩/\eJ (fV i)=true
 | .hid,v=>lE v=true
structure nz(fV:Nat->Int)(s:b6)(l:ht):Prop where
 len:l.ah.length=s.ah.length
 bq:∀i,i<s.ah.length->k8 fV (s.ah.getD i default).has (l.ah.getD i default)
theorem LW{n:Int}(h:eJ n=true):lE ⟨a8,n⟩=true:=by unfold lE;rw[amo rfl];exact h
theorem ahM{s:ByteArray}(h:eC s=true):lE ⟨s,0⟩=true:=by unfold lE;rw[amn (sf h),h];rfl
theorem Ka{cx:fa}{J:List eL}{fV:Nat->Int}{h:jK}{v:dY}(hm:k8 fV h v)(hk:lH cx J h):lE v=true:=by
 cases h with
 | num n=>unfold k8 at hm;subst hm;exact LW hk
 | kb s=>unfold k8 at hm;subst hm;exact ahM hk.1
 | told i=>obtain⟨h1,h2⟩:=hm;subst h1;exact LW h2
 | hid=>exact hm
theorem acu{cx:fa}{J:List eL}{fV y1:Nat->Int}{h:jK}{v:dY}(hk:lH cx J h)(he:∀i,i<J.length->y1 i=fV i)(hm:k8 fV h v):k8 y1 h v:=by
 cases h with
 | told i=>have e:=he i hk.1;show v=⟨a8,y1 i⟩/\eJ (y1 i)=true;rw[e];exact hm
 | _=>exact hm
theorem nz.Ht{cx:fa}{s:b6}{k:Nat}{l:ht}{fV y1:Nat->Int}(S:gy cx s k)(h:nz fV s l)(he:∀i,i<s.J.length->y1 i=fV i):nz y1 s l:=⟨h.len,λi hi=>acu (S.ah i hi).1 he (h.bq i hi)⟩
theorem nz.put{fV:Nat->Int}{s:b6}{l:ht}(h:nz fV s l){az d:Int}{x:eD}{v:dY}(hx:k8 fV x.has v){a:Nat}{s':b6}(ag:s'.ah=gJ az s.ah d x):nz fV s' ⟨fD az l.ah d v,a⟩:=by
 refine⟨?_,λi hi=>?_⟩
 ·rw[ag,Ax];unfold fD;dsimp only;split
  ·exact h.len
  rw[amQ];exact h.len
 rw[ag]at hi⊢;rw[Ax]at hi;unfold gJ fD;dsimp only;split
 ·exact h.bq i hi
 rw[fL,fL,h.len];split
 ·exact hx
 exact h.bq i hi
theorem nz.same{fV:Nat->Int}{s s':b6}{l:ht}(h:nz fV s l)(ag:s'.ah=s.ah)(a:Nat):nz fV s' ⟨l.ah,a⟩:=⟨by rw[ag];exact h.len,λi hi=>by rw[ag]at hi⊢;exact h.bq i hi⟩
theorem Rc(op:Int)(h:op=8\/op=9\/op=10){n:Int}(bh:eJ n=true):o7 op n 0=n/\o7 op 0 n=n:=by
 have key:(BitVec.ofInt 32 n).toInt=n:=by unfold eJ at bh;rw[ami,amj,amj]at bh;rw[aoN];exact Int.bmod_eq_of_le (by omega) (by omega)
 unfold o7;rcases h with rfl | rfl | rfl<;>simp[key]
theorem J5{cx:fa}{J:List eL}{fV:Nat->Int}{op:Int}(bm:op=8\/op=9\/op=10){a b:jK}{x y:dY}(au:k8 fV a x)(hb:k8 fV b y)(aa5:lH cx J a)(sd:lH cx J b): k8 fV (pF op a b) ((kJ op x y).getD gF):=by
 have Ul:=Ka au aa5;have Un:=Ka hb sd;have hid:lE ((kJ op x y).getD gF)=true:=by
  unfold kJ;split
  ·exact LW (Rm _ _ _)
  split
  ·exact Ul
  split
  ·exact Un
  decide
 have Us:∀v:dY,lE v=true->v.loc=a8->eJ v.n=true:=λv h e=>by unfold lE at h;rw[amo e]at h;exact h
 unfold pF;split
 ·unfold k8 at au hb⊢;subst au;subst hb;unfold kJ;rw[amo ⟨rfl,rfl⟩];rfl
 ·rename_i n ky _;split
  ·rename_i e;subst e;unfold k8 at au;subst au;have:(kJ op ⟨a8,0⟩ y).getD gF=y:=by
    unfold kJ;split
    ·rename_i q;have aR:eJ y.n=true:=Us y Un q.2;show(⟨a8,o7 op 0 y.n⟩:dY)=y;rw[(Rc op bm aR).2];obtain⟨Mc,amh⟩:=y;simp only at q;rw[q.2]
    split
    ·rename_i q;rw[q];rfl
    rw[amo (show(⟨a8,0⟩:dY)=gF from rfl)];rfl
   rw[this];exact hb
  exact hid
 ·rename_i dI n _;split
  ·rename_i e;subst e;unfold k8 at hb;subst hb;have:(kJ op x ⟨a8,0⟩).getD gF=x:=by
    unfold kJ;split
    ·rename_i q;have hx:eJ x.n=true:=Us x Ul q.1;show(⟨a8,o7 op x.n 0⟩:dY)=x;rw[(Rc op bm hx).1];obtain⟨Mb,aiz⟩:=x;simp only at q;rw[q.1]
    rw[amo (show(⟨a8,0⟩:dY)=gF from rfl)];rfl
   rw[this];exact au
  exact hid
 exact hid
theorem Sx{cx:fa}{db s:b6}:∀(n k:Nat),Rd cx db s k->(∀j,k<=j->j<k+n->j<cx.code.length/\(cx.code.getD j default).op=12)->Rd cx db s (k+n)
 | 0,_,h,_=>h
 | n+1,k,h,ad=>by
  obtain⟨h1,h2⟩:=ad k (amK _) (by omega);have ay:fJ cx s k=.go s (k+1):=by unfold fJ;dsimp only;rw[h2];simp
  have:=Sx n (k+1) (.step h h1 ay) λj cq bn=>ad j (by omega) (by omega);rw[show k+1+n=k+(n+1) by omega]at this;exact this
def N2(t:aM)(k p:Nat)(dir:Int)(loc:ByteArray)(val bq:Int):eL:=⟨(k:Int),(p:Int),dir,((dp (b2 t) loc:Nat):Int),val,bq⟩
def pk(t:aM)(k:Nat)(fV:Nat->Int)(s:b6)(l:ht):Prop:=
 match(stepT t k l).2 with
 | .rd loc r=>loc∈b2 t/\(stepT t k l).1.at'=l.at'+1/\∃s',Rd (jj t k) (fg t k) s' (l.at'+1)/\s'.J=s.J++[N2 t k l.at' 1 loc 0 r]/\s'.bars=s.bars/\ ∀n,eJ n=true->nz (λi=>if i=s.J.length then n else fV i) s' ⟨fD t.az (stepT t k l).1.ah r ⟨a8,n⟩,l.at'+1⟩
 | .wr loc v=>loc∈b2 t/\(stepT t k l).1.at'=l.at'+1/\eJ v=true/\∃s',Rd (jj t k) (fg t k) s' (l.at'+1)/\s'.J=s.J++[N2 t k l.at' 2 loc v 0]/\s'.bars=s.bars/\nz fV s' (stepT t k l).1
 | .oQ f=>(stepT t k l).1.at'=l.at'+1/\f=pZ ((cj t k).getD l.at' default)/\(((cj t k).getD l.at' default).op=5\/((cj t k).getD l.at' default).op=13)/\ ∃s',Rd (jj t k) (fg t k) s' (l.at'+1)/\s'.J=s.J/\s'.bars=s.bars++[⟨(k:Int),(l.at':Int),f⟩]/\nz fV s' (stepT t k l).1
 | .no=>l.at'<(stepT t k l).1.at'/\(stepT t k l).1.at'<=(cj t k).length/\∃s',Rd (jj t k) (fg t k) s' (stepT t k l).1.at'/\s'.J=s.J/\s'.bars=s.bars/\nz fV s' (stepT t k l).1
theorem ao6{α β:Type}(o:Option α)(f:α->β)(d:α):(o.map f).getD (f d)=f (o.getD d):=by cases o<;>rfl
theorem abm{cx:fa}(C:lG cx)(au:cx.az=2){k:Nat}(hk:k<cx.code.length)(bm:(cx.code.getD k default).op=11):CA cx.code k=np cx.code k:=by obtain⟨h1,h2,h3,aC,_⟩:=Fo (Ac C hk bm);have:=C.cN au _ h2;unfold kH at this;rw[amo h3,aC,an1]at this;unfold CA mg;rw[amo bm,this];rfl
section
variable {t:aM} (G:ir t)
include G
theorem AU{k:Nat}(hk:k<t.code.length){c3:Nat}(kl:rz t k (fst t k)=.go (ho t k) c3){fV:Nat->Int}{s:b6}{l:ht}(b8:Rd (jj t k) (fg t k) s l.at')(bp:nz fV s l)(dO:l.at'<(cj t k).length):pk t k fV s l:=by
 have C:lG (jj t k):=G.cx hk (fst t k);have h0:gy (jj t k) (fg t k) 0:=G.db hk (fst t k);have S:=b8.ok C h0;obtain⟨s',cF,ay⟩:=Sw C h0 kl b8 dO;have l8:=Rd.step b8 dO ay;have bN:qU (jj t k).az ((jj t k).code.getD l.at' default):=xK C S dO;have x3:(jj t k).code=cj t k:=rfl;have OV:(jj t k).az=t.az:=rfl;have ni:(jj t k).bb=b2 t:=rfl;rw[OV]at bN;have kk:∀n:Int,0<=n->n<b3 t.az->k8 fV (bJ s n).has (ju l n)/\lH (jj t k) s.J (bJ s n).has/\fo s.J (bJ s n).on:=λn h1 h2=>by
  have:=S.lA;rw[OV]at this;have q:n.toNat<s.ah.length:=by omega
  exact⟨bp.bq _ q,S.ah _ q⟩
 have hm:(cj t k).getD l.at' default∈cj t k:=er dO;rw[x3]at bN;revert ay;have wr:∀{loc on x n},kr (jj t k) s l.at' loc on x=.go s' cF->(let o:=((cj t k).getD l.at' default).op;o=1\/o=2\/o=3\/o=6\/o=7)->loc∈b2 t->fo s.J on->lH (jj t k) s.J x.has->fo s.J x.on->k8 fV x.has ⟨a8,n⟩->
  stepT t k l=(⟨l.ah,l.at'+1⟩,.wr loc n)->pk t k fV s l:=λ{loc on x n} cq bn e8 ih j9 nW CU e=>by
  obtain⟨bC,_,_,m,hY,k0⟩:=GN C S dO cq e8 bn ih j9 nW;rw[hY]at CU j9;unfold k8 at CU;injection CU with _ CU;subst CU;subst bC;unfold pk;rw[e];refine⟨e8,rfl,j9,s',l8,by rw[k0];rfl,by rw[k0];rfl,bp.same (by rw[k0];rfl) _⟩
 have rd:∀{loc on d},lT (jj t k) s l.at' loc on d=.go s' cF->(let o:=((cj t k).getD l.at' default).op;o=1\/o=2\/o=3\/o=6\/o=7)->loc∈b2 t->fo s.J on->0<=d/\d<b3 t.az->
  stepT t k l=(⟨l.ah,l.at'+1⟩,.rd loc d)->pk t k fV s l:=λ{loc on d} cq bn e8 ih j9 e=>by
  obtain⟨bC,_,_,k0⟩:=SC C S dO cq e8 bn ih j9;subst bC;unfold pk;rw[e];refine⟨e8,rfl,s',l8,by rw[k0];rfl,by rw[k0];rfl,λn bh=>?_⟩;have xY:nz (λi=>if i=s.J.length then n else fV i) s l:=bp.Ht S λi hi=>amn (by omega);refine xY.put (x:=⟨.told s.J.length,1#64<<<s.J.length⟩) ?_ (by rw[k0];rfl);show _/\_;dsimp only;rw[amo rfl];exact⟨rfl,bh⟩
 have no:∀{u:ht} {s2:b6},stepT t k l=(u,.no)->l.at'<u.at'->u.at'<=(cj t k).length->Rd (jj t k) (fg t k) s2 u.at'->s2.J=s.J->s2.bars=s.bars->nz fV s2 u->pk t k fV s l:=λ{u s2} e cq bn e8 ih nW j9=>by unfold pk;rw[e];exact⟨cq,bn,s2,e8,ih,nW,j9⟩
 have oQ:∀{f:Int} {s2:b6},stepT t k l=(⟨l.ah,l.at'+1⟩,.oQ f)->f=pZ ((cj t k).getD l.at' default)->(((cj t k).getD l.at' default).op=5\/((cj t k).getD l.at' default).op=13)->Rd (jj t k) (fg t k) s2 (l.at'+1)->s2.J=s.J->s2.bars=s.bars++[⟨(k:Int),(l.at':Int),f⟩]->s2.ah=s.ah->pk t k fV s l:=λ{f s2} e cq bn e8 ih nW j9=>by unfold pk;rw[e];exact⟨rfl,cq,bn,s2,e8,ih,nW,bp.same j9 _⟩
 unfold fJ;dsimp only;rw[x3];generalize hi:(cj t k).getD l.at' default=i at bN hm wr rd oQ;rcases G.az with au | au
 ·
  have mb:=bN.Ap au;have jm:stepT t k l=je i l:=by unfold stepT;rw[amo au,hi]
  have fi:∀c,c∈t.code->∀i,i∈c->mJ t.az i=true:=G.ins;rw[amn (show ¬i.op=13 by omega)];by_cases iB:i.op=1
  ·rw[amo iB];intro ay;exact wr ay (.inl iB) (C.loc i hm (.inl iB)) (fo.zero _) bN.cY (fo.zero _) rfl (by rw[jm];unfold je;rw[amo iB])
  rw[amn iB];by_cases fT:i.op=2
  ·rw[amo fT];intro ay;obtain⟨g1,g2,g3⟩:=kk i.a bN.a.1 bN.a.2;have r4:=C.loc i hm (.inr (.inl fT));have bh:∃n,(bJ s i.a).has=.num n:=by obtain⟨_,_,_,n,e,_⟩:=GN C S dO ay r4 (by rw[x3,hi];exact .inr (.inl fT)) (fo.zero _) g2 g3;exact⟨n,e⟩
   obtain⟨n,e⟩:=bh;have aw:ju l i.a=⟨a8,n⟩:=by rw[e]at g1;exact g1
   refine wr (n:=n) ay (.inr (.inl fT)) r4 (fo.zero _) g2 g3 (by rw[<-aw];exact g1) ?_;rw[jm];unfold je;rw[amn iB,amo fT,aw]
  rw[amn fT];by_cases jr:i.op=3
  ·rw[amo jr];intro ay;exact rd ay (.inr (.inr (.inl jr))) (C.loc i hm (.inr (.inr jr))) (fo.zero _) bN.d (by rw[jm];unfold je;rw[amn iB,amn fT,amo jr])
  rw[amn jr];by_cases lu:i.op=4
  ·rw[amo lu];intro ay;injection ay with bC cd;subst cd;refine no (u:=⟨l.ah.set i.d.toNat ⟨a8,i.cY⟩,l.at'+1⟩) (s2:=s') (by rw[jm];unfold je;rw[amn iB,amn fT,amn jr,amo lu]) (anF _) dO l8 (by rw[<-bC]) (by rw[<-bC]) ?_;have:=bp.put (az:=t.az) (d:=i.d) (x:=⟨.num i.cY,0#64⟩) (v:=⟨a8,i.cY⟩) rfl (a:=l.at'+1) (s':=s') (by rw[<-bC];rfl);unfold fD at this;rw[amn (by omega)]at this;exact this
  rw[amn lu,amo (show i.op=5 by omega)];intro ay;injection ay with bC cd;subst cd;exact oQ (f:=1) (s2:=s') (by rw[jm];unfold je;rw[amn iB,amn fT,amn jr,amn lu]) (by unfold pZ;rw[amo (show i.op=5 by omega)]) (.inl (by omega)) l8 (by rw[<-bC]) (by rw[<-bC];rfl) (by rw[<-bC])
 ·
  have mb:=bN.Ki au;have jm:stepT t k l=(lC (cj t k) l).getD (⟨fD t.az l.ah i.d gF,l.at'+1⟩,.no):=by unfold stepT;rw[amn (by omega),hi]
  unfold lC at jm;dsimp only at jm;rw[hi]at jm;rw[amn (show ¬i.op=1 by omega),amn (show ¬i.op=2 by omega),amn (show ¬i.op=3 by omega),amn (show ¬i.op=4 by omega),amn (show ¬i.op=5 by omega)];obtain⟨oR,q6,HX⟩:=kk i.a bN.a.1 bN.a.2;obtain⟨p1,xV,OF⟩:=kk i.b bN.b.1 bN.b.2;by_cases o9:i.op=6
  ·rw[amo o9]at jm⊢;intro ay;split at ay
   ·rename_i loc e;rw[e]at oR q6;have aw:ju l i.a=⟨loc,0⟩:=oR;rw[aw,amn (sf q6.1)]at jm;exact rd ay (.inr (.inr (.inr (.inl o9)))) q6.2 HX bN.d jm
   cases ay
  rw[amn o9]at jm⊢;by_cases mN:i.op=7
  ·rw[amo mN]at jm⊢;intro ay;split at ay
   ·rename_i loc e;rw[e]at oR q6;have aw:ju l i.a=⟨loc,0⟩:=oR;obtain⟨_,_,_,n,cd,_⟩:=GN C S dO ay q6.2 (by rw[x3,hi];exact .inr (.inr (.inr (.inr mN)))) HX xV OF;have hw:ju l i.b=⟨a8,n⟩:=by rw[cd]at p1;exact p1
    rw[aw,hw,amn λq=>q.elim (sf q6.1) λq=>q rfl]at jm;exact wr (n:=n) ay (.inr (.inr (.inr (.inr mN)))) q6.2 HX xV OF (by rw[<-hw];exact p1) jm
   cases ay
  rw[amn mN]at jm⊢;by_cases qd:i.op=8\/i.op=9\/i.op=10
  ·rw[amo qd];intro ay;injection ay with bC cd;subst cd;have key:∃v,k8 fV (jt s i).has v/\stepT t k l=(⟨fD 2 l.ah i.d v,l.at'+1⟩,.no):=by
    have hf:∀o:Option dY,(o.map λv=>((⟨fD 2 l.ah i.d v,l.at'+1⟩:ht),kN.no)).getD (⟨fD t.az l.ah i.d gF,l.at'+1⟩,.no)=(⟨fD 2 l.ah i.d (o.getD gF),l.at'+1⟩,.no):=λo=>by rw[au];exact ao6 o (λv=>((⟨fD 2 l.ah i.d v,l.at'+1⟩:ht),kN.no)) gF
    rcases qd with o | o | o
    ·rw[amo o,hf]at jm;refine⟨_,?_,jm⟩;unfold jt;dsimp only;rw[amo o,amn (by omega),o];exact J5 (.inl rfl) oR (b:=.num i.cY) rfl q6 bN.cY
    ·rw[amn (by omega),amo o,hf]at jm;refine⟨_,?_,jm⟩;unfold jt;dsimp only;rw[amn (show ¬i.op=8 by omega)];by_cases q:i.a=i.b
     ·rw[amo ⟨o,q⟩,amo q];rfl
     rw[amn λh=>q h.2,amn q,o];exact J5 (.inr (.inl rfl)) oR p1 q6 xV
    rw[amn (by omega),amn (by omega),amo o,hf]at jm;refine⟨_,?_,jm⟩;unfold jt;dsimp only;rw[amn (show ¬i.op=8 by omega),amn (by omega),o];exact J5 (.inr (.inr rfl)) oR p1 q6 xV
   obtain⟨v,aw,e⟩:=key;have:=bp.put (az:=t.az) (d:=i.d) aw (a:=l.at'+1) (s':=s') (by rw[<-bC];rfl);rw[au]at this;exact no e (anF _) dO l8 (by rw[<-bC]) (by rw[<-bC]) this
  rw[amn qd];rw[amn (by omega),amn (by omega),amn (by omega)]at jm;by_cases kW:i.op=11
  ·rw[amo kW]at jm⊢;intro ay;have lL:(((jj t k).code.getD l.at' default)).op=11:=by rw[x3,hi];exact kW
   have BZ:CA (cj t k) l.at'=np (cj t k) l.at':=abm C au dO lL;have uf:=Fo (Ac C dO lL);rw[BZ]at jm;rw[x3]at uf;have w4:stepT t k l=(⟨l.ah,if ju l i.a=ju l i.b then l.at'+1 else np (cj t k) l.at'⟩,.no):=jm;unfold qp at ay;dsimp only at ay;rw[x3,hi]at ay;have fin:∀(s2:b6) (p:Nat),stepT t k l=(⟨l.ah,p⟩,.no)->s2.J=s.J/\s2.bars=s.bars->s2.ah=s.ah->Rd (jj t k) (fg t k) s2 p->l.at'<p->p<=(cj t k).length->pk t k fV s l:=λs2 p cq bn e8 ih j9 nW=>no cq j9 nW ih bn.1 bn.2 (bp.same e8 _);by_cases mb:((bJ s i.a).has.ot||(bJ s i.b).has.ot)=true
   ·rw[amo mb]at ay;split at ay
    ·rename_i aB;injection ay with bC cd;subst cd;by_cases aw:ju l i.a=ju l i.b
     ·rw[amo aw]at w4;exact fin s' _ w4 (by rw[<-bC];exact⟨rfl,rfl⟩) (by rw[<-bC]) l8 (anF _) dO
     rw[amn aw]at w4;refine fin s' _ w4 (by rw[<-bC];exact⟨rfl,rfl⟩) (by rw[<-bC]) ?_ (by omega) (by omega);have:=Sx (np (cj t k) l.at'-(l.at'+1)) _ l8 λj cq bn=>by
      unfold uq at aB;rw[ank]at aB;have ad:j<(cj t k).length:=by omega
      refine⟨ad,?_⟩;have YV:(cj t k).getD j default∈((cj t k).take (np (cj t k) l.at')).drop (l.at'+1):=by refine amF (i:=j-(l.at'+1)) ?_;rw[anP,anO,amo (by omega),show l.at'+1+(j-(l.at'+1))=j by omega];exact getD_some ad
      exact aog (aB _ YV)
     rwa[show l.at'+1+(np (cj t k) l.at'-(l.at'+1))=np (cj t k) l.at' by omega]at this
    cases ay
   rw[amn mb]at ay;rw[amr,not_or]at mb;have sa:sv (bJ s i.a).has (bJ s i.b).has=!decide (ju l i.a=ju l i.b):=by
    revert oR q6 p1 xV mb;generalize(bJ s i.a).has=A;generalize(bJ s i.b).has=B;intro oR q6 p1 xV mb;cases A with
    | num x=>
     cases B with
     | num y=>unfold k8 at oR p1;rw[oR,p1];unfold sv;simp
     | kb y=>unfold k8 at oR p1;rw[oR,p1];unfold sv;have:=sf xV.1;simp[Ne.symm this]
     | _=>exact absurd rfl mb.2
    | kb x=>
     cases B with
     | num y=>unfold k8 at oR p1;rw[oR,p1];unfold sv;have:=sf q6.1;simp[this]
     | kb y=>unfold k8 at oR p1;rw[oR,p1];unfold sv;simp
     | _=>exact absurd rfl mb.2
    | _=>exact absurd rfl mb.1
   rw[sa]at ay;by_cases aw:ju l i.a=ju l i.b
   ·rw[amq aw]at ay;rw[amo aw]at w4;simp only[aoT,aov,aor]at ay;injection ay with bC cd;subst cd;exact fin s' _ w4 (by rw[<-bC];exact⟨rfl,rfl⟩) (by rw[<-bC]) l8 (anF _) dO
   rw[amy aw]at ay;rw[amn aw]at w4;simp only[Bool.not_false,if_true]at ay;injection ay with bC cd;subst cd;exact fin s' _ w4 (by rw[<-bC];exact⟨rfl,rfl⟩) (by rw[<-bC]) l8 (by omega) (by omega)
  rw[amn kW]at jm⊢;by_cases mi:i.op=13
  ·rw[amo mi]at jm⊢;intro ay;injection ay with bC cd;subst cd;exact oQ (f:=i.dE) (s2:=s') jm (by unfold pZ;rw[amn (show ¬i.op=5 by omega)]) (.inr mi) l8 (by rw[<-bC]) (by rw[<-bC];rfl) (by rw[<-bC])
  rw[amn mi]at jm⊢;intro ay;injection ay with bC cd;subst cd;exact no (u:=⟨l.ah,l.at'+1⟩) (s2:=s') jm (anF _) dO l8 (by rw[<-bC]) (by rw[<-bC]) (bp.same (by rw[<-bC]) _)
end
end Go.Proofs.bK
