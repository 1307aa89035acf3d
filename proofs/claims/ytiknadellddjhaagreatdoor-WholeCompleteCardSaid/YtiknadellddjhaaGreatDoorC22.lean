/- Lemmas for the law WholeComplete. -/
import Derived.Test.YtiknadellddjhaaGreatDoorC21
set_option linter.all false
open Go Go.b9 Go.bM Go.gG Go.fo
namespace Go.Proofs.bA
theorem aiW{t:aV}(G:iS t)(k:Nat)(gb:Nat->Int):nS gb (fm t k) ⟨y5 t k,0⟩:=by
 have key:∀(l:List mu) (r:List eO) (v:List eh),(∀x,x∈l->x∈t.init)->v.length=r.length->(∀i,i<r.length->lE gb (r.getD i default).has (v.getD i default))-> (l.foldl (λl x=>if x.aH=(k:Int)then l.set x.bo.toNat x.value else l) v).length=(l.foldl (λl x=>if x.aH=(k:Int)then l.set x.bo.toNat (oL x)else l) r).length/\ ∀i,i<(l.foldl (λl x=>if x.aH=(k:Int)then l.set x.bo.toNat (oL x)else l) r).length->lE gb ((l.foldl (λl x=>if x.aH=(k:Int)then l.set x.bo.toNat (oL x)else l) r).getD i default).has ((l.foldl (λl x=>if x.aH=(k:Int)then l.set x.bo.toNat x.value else l) v).getD i default):=by
  intro l
  induction l with
  | nil=>intro r v _ h1 h2;exact⟨h1,h2⟩
  | cons x l bP=>
   intro r v aL h1 h2;rw[apR,apR];split
   ·rename_i e;refine bP _ _ (λy aY=>aL y (.tail _ aY)) (by rw[aoU,aoU];exact h1) λi hi=>?_;rw[aoU]at hi;rw[fU,fU,h1];split
    ·obtain⟨_,_,_,_,_,cE⟩:=G.xL (aL x aP) (by omega);unfold oL;rcases ax:x.value with⟨Vo,anT⟩;rw[ax]at cE;rcases cE with⟨cB,_⟩ | ⟨cB,bz,_⟩
     ·simp only at cB⊢;rw[aou cB,cB];rfl
     simp only at cB bz⊢;rw[aot cB,bz];rfl
    exact h2 i hi
   exact bP _ _ (λy aY=>aL y (.tail _ aY)) h1 h2
 refine(λq=>⟨q.1,q.2⟩) (key t.init (List.replicate (cn t.aC) ⟨.num 0,0#64⟩) (List.replicate (cn t.aC) gL) (λ_ q=>q) (by simp) λi hi=>?_);rw[aoX]at hi;rw[aor,aor,apj,apj,aou hi,aou hi];rfl
theorem Cl{α:Type}[Inhabited α]{n i:Nat}{x:α}(hi:i<n):(List.replicate n x).getD i default=x:=by rw[aor,apj,aou hi];rfl
theorem Yj{cq:aW}{o:List Nat}{k:Int}(h:∀e,e∈o->e<cq.J.length):l6 (gq cq o k)<cq.J.length:=by
 by_cases q:(gq cq o k).length=0
 ·unfold l6;rw[aou q];omega
 obtain⟨i,hi,e,_⟩:=AX.1 (Ia q);have:=h i hi;omega
section
variable {t:aV} (h:dI t=0)
include h
theorem lR:(ar t).aO=cc t:=by rw[vf h]
theorem aeI{k i e:Nat}(hk:k<t.code.length)(hi:i<(hD t k).J.length)(he:e<(ar t).J.length):eT (ar t) e (fst t k+i)=true↔∃j,j<i/\e=fst t k+j:=by
 have aj:=wR h hk hi;rw[rL (kr h) he (u9 h hk hi).1,aoo,aop];unfold fo.jn;rw[aop,aj];constructor
 ·rintro⟨h1,h2⟩;obtain⟨j,ae,rfl⟩:=FO h hk he h2;exact⟨j,by omega,rfl⟩
 rintro⟨j,ae,rfl⟩;exact⟨by omega,wR h hk (by omega)⟩
theorem adC:kL t (iY t (ar t)) [] λ_=>[]:=by
 have G:=kS h;have nH:∀k,k<t.code.length->(iY t (ar t)).aw.getD k default=⟨y5 t k,0⟩:=λk hk=>tp hk;have lg:∀e,e<(ar t).J.length->(iY t (ar t)).done.getD e default=false:=λe he=>Cl he;refine{lH:=by simp[iY],mV:=by simp[iY],o5:=by simp[iY],rfl':=by simp[iY],o3:=by simp[iY],nL:=AP (kr h),qh:=by simp[iY],aw:=λk hk=>⟨fm t k,?_⟩,buf:=λk hk=>Cl hk,jO:=?_,pC:=λ_ _=>List.Pairwise.nil,oP:=List.nodup_nil,mi:=λ_ q=>(by cases q),ph:=?_,pre:=?_,co:=λl aL=>Cl aL,last:=λl aL=>Cl aL,mem:=λl _=>rfl,rd:=?_,sO:=λe he _=>Cl he}
 ·refine⟨?_,?_,?_,λ_ q=>(by cases q)⟩
  ·rw[nH k hk];exact .zero
  ·rw[nH k hk];exact aiW G k _
  intro i hi;rw[lg _ (u9 h hk hi).1];rfl
 ·intro k hk w;constructor
  ·intro q;cases q
  rintro⟨cB,_,_,bz,_⟩;rw[lg w cB]at bz;cases bz
 ·intro e he q;rw[lg e he]at q;cases q
 ·intro p q a e;exact absurd e (by simp)
 intro p q a e;exact absurd e (by simp)
end
theorem ui.keep{t:aV}(h:dI t=0){m m':cD}{b kO:List Nat}{j:Nat}{s:cg}(ae:j<t.code.length)(T:ui t m b j s)(h1:m'.aw.getD j default=m.aw.getD j default)(h2:∀i,i<(hD t j).J.length->m'.bE.getD (fst t j+i) default=m.bE.getD (fst t j+i) default)(h3:∀i,i<(hD t j).J.length->m'.done.getD (fst t j+i) default=m.done.getD (fst t j+i) default)(aA:∀w,w∈kO->w∈b):ui t m' kO j s:=by
 obtain⟨C,h0,_⟩:=qt h ae;obtain⟨adI,hm⟩:=Lu h ae T.rd;have hle:s.J.length<=(hD t j).J.length:=by rw[hm,aoy];omega
 refine⟨by rw[h1];exact T.rd,?_,λi hi=>by rw[h3 i hi];exact T.done i hi,λx hx w hw=>T.bars x hx w (aA w hw)⟩;rw[h1];exact T.tm.HY (T.rd.ok C h0) λi hi=>TB (h2 i (by omega))
theorem DQ{t:aV}(h:dI t=0){m:cD}{b:List Nat}{k:Nat}{s:cg}(hk:k<t.code.length)(T:ui t m b k s){a:Nat}(ay:a<(ar t).J.length)(aJ:(bF (ar t) a).aH=(k:Int)):m.done.getD a default=decide (a<fst t k+s.J.length):=by
 obtain⟨i,hi,rfl⟩:=FO h hk ay aJ;rw[T.done i hi];by_cases q:i<s.J.length
 ·rw[aow q,aow (by omega)]
 rw[aoE q,aoE (by omega)]
theorem kL.read{t:aV}{m:cD}{log:List Nat}{b:Nat->List Nat}(M:kL t m log b){k:Nat}(hk:k<t.code.length){l:Nat}(aL:l<(ar t).aO.length): nm m k l=(rV (ar t) l (l6 (gq (ar t) (log++b k) l)),l6 (gq (ar t) (log++b k) l)):=by
 unfold nm;rw[M.buf k hk,Ez];rcases akn (l:=b k) (k:=l) (λe he=>((M.jO k hk e).1 he).2.2.1)with⟨uc,D5⟩ | ⟨x,hx,uc,D5,D6⟩
 ·rw[uc,D5,aoH];dsimp only;rw[M.mem l aL,M.last l aL]
 rw[uc,Yi D5,D6];unfold rV;rw[aot (by omega),aoF];rfl
theorem Ld{cq:aW}{p:Nat->Nat->Bool}{log:List Nat}{x:Nat}(h:∀nk q a,log=nk++a::q->∀e,e<cq.J.length->p e a=true->e∈nk)(hx:∀e,e<cq.J.length->p e x=true->e∈log):∀nk q a,log++[x]=nk++a::q->∀e,e<cq.J.length->p e a=true->e∈nk:=by
 intro nk q a e;rcases Mg e with⟨rfl,rfl,_⟩ | ⟨q',_,e'⟩
 ·exact hx
 exact h nk q' a e'
theorem HX{cq:aW}{log:List Nat}{x:Nat}(hx:(bF cq x).dir=1)(k:Int):gq cq (log++[x]) k=gq cq log k:=by rw[Ez,(XK (o:=[x])).2 (λe he hd=>by rw[aoB]at he;subst he;omega),aoH]
theorem aiu{t:aV}(h:dI t=0)(buf:Bool){m:cD}{log:List Nat}{b:Nat->List Nat}(M:kL t m log b){k:Nat}(hk:k<t.code.length){s:cg}(T:ui t m (b k) k s)(dR:(m.aw.getD k default).at'<(cr t k).length){loc:ByteArray}{r:Int}(cS:(stepT t k (m.aw.getD k default)).2=.rd loc r): zR t m (eU t (ar t) buf m k) k (fst t k+s.J.length)/\(bF (ar t) (fst t k+s.J.length)).dir=1/\kL t (eU t (ar t) buf m k) (log++[fst t k+s.J.length]) b:=by
 have j8:=kr h;obtain⟨c5,kE⟩:=(ns h hk).1;obtain⟨C,h0,_⟩:=qt h hk;have cG:=BA (kS h) hk kE T.rd T.tm dR;unfold pz at cG;rw[cS]at cG;obtain⟨lN,Ar,s',mC,he,jT,yy⟩:=cG;obtain⟨cB,bz,fc⟩:=EE h hk mC he ⟨rfl,rfl⟩;have eR:=(u9 h hk bz).1;have lg:=λa ay aJ=>DQ h hk T (a:=a) ay aJ;have xB:s'.J.length=s.J.length+1:=by rw[he,aoy];rfl
 have aaE:=λa ay=>aeI h hk bz (e:=a) ay;generalize aL:fst t k+s.J.length=e at *;have dB:(bF (ar t) e).aH=(k:Int):=by rw[fc];rfl
 have pH:(bF (ar t) e).dir=1:=by rw[fc];rfl
 have Jn:(bF (ar t) e).loc=((dr (cc t) loc:Nat):Int):=by rw[fc];rfl
 have dq:dr (cc t) loc<(ar t).aO.length:=by rw[lR h];exact qi lN
 have oI:m.done.getD e default=false:=by rw[lg e eR dB,aoE (aqN _)]
 have ly:e∉log:=λq=>by have:=(M.mi e q).2;rw[oI]at this;cases this
 have QB:=M.read hk dq;generalize cF:l6 (gq (ar t) (log++b k) (dr (cc t) loc:Nat))=E at QB;have Zc:E<(ar t).J.length:=by
  rw[<-cF];refine Yj λx hx=>?_;rcases aoG.1 hx with q | q
  ·exact(M.mi x q).1
  exact((M.jO k hk x).1 q).1
 have kA:eU t (ar t) buf m k={m with aw:=m.aw.set k ⟨fM t.aC (stepT t k (m.aw.getD k default)).1.ag r ⟨bg,rV (ar t) (dr (cc t) loc) E⟩,(m.aw.getD k default).at'+1⟩,bE:=m.bE.set e E,done:=m.done.set e true}:=by unfold eU;dsimp only;rw[cS];dsimp only;rw[cB,lR h,QB,Ar]
 rw[kA];refine⟨⟨eR,dB,lg,rfl,⟨_,rfl,rfl⟩⟩,pH,?_⟩;have qd:∀a,a≠e->(m.bE.set e E).getD a default=m.bE.getD a default:=λa ay=>by rw[fU,aot λq=>ay q.1.symm]
 have QC:(m.bE.set e E).getD e default=E:=by rw[fU,aou ⟨rfl,by rw[M.rfl'];exact eR⟩]
 have sh:∀a,a≠e->(m.done.set e true).getD a default=m.done.getD a default:=λa ay=>by rw[fU,aot λq=>ay q.1.symm]
 have yF:(m.done.set e true).getD e default=true:=by rw[fU,aou ⟨rfl,by rw[M.o5];exact eR⟩]
 have xz:∀a,m.done.getD a default=true->(m.done.set e true).getD a default=true:=λa ay=>by
  by_cases q:a=e
  ·rw[q];exact yF
  rw[sh a q];exact ay
 have qP:∀a,a<(ar t).J.length->eT (ar t) a e=true->m.done.getD a default=true/\(bF (ar t) a).aH=(k:Int):=λa ay hp=>by
  have CU:(bF (ar t) a).aH=(k:Int):=by unfold eT fo.jn at hp;rw[aoo,aop]at hp;rw[hp.1];exact dB
  obtain⟨j,ae,Qa⟩:=(aaE a ay).1 hp;refine⟨?_,CU⟩;rw[lg a ay CU];exact aow (by omega)
 refine{lH:=by rw[aoU];exact M.lH,mV:=M.mV,o5:=by rw[aoU];exact M.o5,rfl':=by rw[aoU];exact M.rfl',o3:=M.o3,nL:=M.nL,qh:=M.qh,aw:=λj ae=>?_,buf:=M.buf,jO:=λj ae w=>?_,pC:=M.pC,oP:=?_,mi:=λa ay=>?_,ph:=λa ay hd lM=>?_,pre:=Ld M.pre λa ay hp=>?_,co:=λq ba=>by rw[HX pH];exact M.co q ba,last:=λq ba=>by rw[HX pH];exact M.last q ba,mem:=λq ba=>by rw[HX pH];exact M.mem q ba,rd:=λp q a Ig lM=>?_,sO:=λa ay lM=>?_}
 ·by_cases fV:j=k
  ·subst fV;have az:(m.aw.set j ⟨fM t.aC (stepT t j (m.aw.getD j default)).1.ag r ⟨bg,rV (ar t) (dr (cc t) loc) E⟩,(m.aw.getD j default).at'+1⟩).getD j default=⟨fM t.aC (stepT t j (m.aw.getD j default)).1.ag r ⟨bg,rV (ar t) (dr (cc t) loc) E⟩,(m.aw.getD j default).at'+1⟩:=by rw[fU,aou ⟨rfl,by rw[M.lH];exact ae⟩]
   refine⟨s',?_,?_,λi hi=>?_,λx hx w hw=>T.bars x (jT▸hx) w hw⟩
   ·dsimp only;rw[az];exact mC
   ·dsimp only;rw[az];refine(yy _ (ajy j8 dq Zc)).HY (mC.ok C h0) λi hi=>?_;dsimp only;by_cases q:i=s.J.length
    ·rw[aou q,q,aL,agt pH Jn];show rV _ _ ((m.bE.set e E).getD e default)=_;rw[QC]
    rw[aot q];exact TB (qd _ (by omega))
   dsimp only;rw[xB];by_cases q:i=s.J.length
   ·rw[q,aL,yF,aow (apN _)]
   rw[sh _ (by omega),T.done i hi];by_cases bz:i<s.J.length
   ·rw[aow bz,aow (by omega)]
   rw[aoE bz,aoE (by omega)]
  obtain⟨xZ,r3⟩:=M.aw j ae;have dS:∀i,i<(hD t j).J.length->fst t j+i≠e:=λi hi q=>by have:=wR h ae hi;rw[q,dB]at this;omega
  exact⟨xZ,r3.keep h ae (by dsimp only;rw[fU,aot λq=>fV q.1.symm]) (λi hi=>qd _ (dS i hi)) (λi hi=>sh _ (dS i hi)) λ_ q=>q⟩
 ·rw[M.jO j ae w];dsimp only;constructor
  ·rintro⟨ds,a2,a3,a4,a5⟩;exact⟨ds,a2,a3,xz w a4,λq=>(aoG.1 q).elim a5 λq=>by rw[aoB]at q;subst q;omega⟩
  rintro⟨ds,a2,a3,a4,a5⟩;have J1:w≠e:=λq=>by subst q;omega
  rw[sh w J1]at a4;exact⟨ds,a2,a3,a4,λq=>a5 (aoG.2 (.inl q))⟩
 ·rw[ard];exact⟨M.oP,List.pairwise_singleton _ _,λa ay c ai=>by rw[aoB]at ai;subst ai;exact λq=>ly (q▸ay)⟩
 ·rcases aoG.1 ay with q | q
  ·exact⟨(M.mi a q).1,xz a (M.mi a q).2⟩
  rw[aoB]at q;subst q;exact⟨eR,yF⟩
 ·rw[aoG];by_cases q:a=e
  ·exact .inr (by rw[q];exact aoB.2 rfl)
  exact .inl (M.ph a ay (by rw[<-sh a q];exact hd) lM)
 ·
  unfold nN at hp;rw[aoo,aox,aoq]at hp;obtain⟨yS,tD⟩:=hp;obtain⟨lM,CU⟩:=qP a ay yS;rcases pt j8 ay with hd | hd
  ·exact M.ph a ay lM hd
  have hf:=tD.resolve_left (by unfold pg;rw[hd,pH];decide);unfold vR at hf;rw[aoo]at hf;obtain⟨x,hx,hb⟩:=apH.1 hf.2;unfold zW at hb;simp only[aoo,aop]at hb;obtain⟨⟨⟨gn,dC⟩,dK⟩,cO⟩:=hb;have hxs:x∈s.bars:=agp h hk T.rd hx (by rw[gn];exact CU) (by rw[fc]at dK;exact dK);refine ao0 λeD=>?_;have:=T.bars x hxs a ((M.jO k hk a).2 ⟨ay,CU,hd,lM,eD⟩) dC;rw[hd,pH,this]at cO;cases cO
 ·rcases Mg Ig with⟨rfl,rfl,_⟩ | ⟨q',_,e'⟩
  ·refine⟨b k,M.pC k hk,λw=>?_,?_⟩
   ·rw[M.jO k hk w];constructor
    ·rintro⟨ds,a2,a3,a4,a5⟩;refine⟨ds,a3,?_,a5⟩;rw[rL j8 ds eR,aoo,aop];unfold fo.jn;rw[aop,a2,dB];rw[lg w ds a2,aop]at a4;exact⟨a4,rfl⟩
    rintro⟨ds,a3,a4,a5⟩;obtain⟨c1,c2⟩:=qP w ds a4;exact⟨ds,c2,a3,c1,a5⟩
   dsimp only;rw[QC,Jn,cF]
  obtain⟨df,c1,c2,HO⟩:=M.rd p q' a e' lM;refine⟨df,c1,c2,?_⟩;dsimp only;rw[qd a λq=>ly (by rw[<-q,e'];simp),HO]
 dsimp only;by_cases q:a=e
 ·subst q;exact absurd lM λq=>q.elim (λq=>by omega) λq=>q (aoG.2 (.inr (aoB.2 rfl)))
 rw[qd a q];exact M.sO a ay (lM.imp id λbz fc=>bz (aoG.2 (.inl fc)))
theorem aiv{t:aV}(h:dI t=0){m:cD}{log:List Nat}{b:Nat->List Nat}(M:kL t m log b){k:Nat}(hk:k<t.code.length){s:cg}(T:ui t m (b k) k s)(dR:(m.aw.getD k default).at'<(cr t k).length){loc:ByteArray}{v:Int}(cS:(stepT t k (m.aw.getD k default)).2=.wr loc v): zR t m (eU t (ar t) true m k) k (fst t k+s.J.length)/\(bF (ar t) (fst t k+s.J.length)).dir=2/\kL t (eU t (ar t) true m k) log (vg b k (b k++[fst t k+s.J.length]))/\ ∀l,l=(bF (ar t) (fst t k+s.J.length)).loc.toNat->m.cW.getD k default=[]->eU t (ar t) false m k={kk (eU t (ar t) true m k) k with cW:=m.cW}:=by
 have j8:=kr h;obtain⟨c5,kE⟩:=(ns h hk).1;obtain⟨C,h0,_⟩:=qt h hk;have cG:=BA (kS h) hk kE T.rd T.tm dR;unfold pz at cG;rw[cS]at cG;obtain⟨lN,Ar,ax,s',mC,he,jT,yy⟩:=cG;obtain⟨cB,bz,fc⟩:=EE h hk mC he ⟨rfl,rfl⟩;have eR:=(u9 h hk bz).1;have lg:=λa ay aJ=>DQ h hk T (a:=a) ay aJ;have xB:s'.J.length=s.J.length+1:=by rw[he,aoy];rfl
 generalize aL:fst t k+s.J.length=e at *;have dB:(bF (ar t) e).aH=(k:Int):=by rw[fc];rfl
 have pH:(bF (ar t) e).dir=2:=by rw[fc];rfl
 have mc:(bF (ar t) e).place=((m.aw.getD k default).at':Int):=by rw[fc];rfl
 have Jn:(bF (ar t) e).loc=((dr (cc t) loc:Nat):Int):=by rw[fc];rfl
 have hw:l0 (ar t) e=⟨((dr (cc t) loc:Nat):Int),v,(e:Int)⟩:=by unfold l0;rw[fc];rfl
 have oI:m.done.getD e default=false:=by rw[lg e eR dB,aoE (aqN _)]
 have ly:e∉log:=λq=>by have:=(M.mi e q).2;rw[oI]at this;cases this
 have kA:eU t (ar t) true m k={m with aw:=m.aw.set k (stepT t k (m.aw.getD k default)).1,done:=m.done.set e true,cW:=m.cW.set k (m.cW.getD k default++[l0 (ar t) e])}:=by unfold eU;dsimp only;rw[cS];dsimp only;rw[cB,lR h,aou rfl,hw]
 have sh:∀a,a≠e->(m.done.set e true).getD a default=m.done.getD a default:=λa ay=>by rw[fU,aot λq=>ay q.1.symm]
 have yF:(m.done.set e true).getD e default=true:=by rw[fU,aou ⟨rfl,by rw[M.o5];exact eR⟩]
 have xz:∀a,m.done.getD a default=true->(m.done.set e true).getD a default=true:=λa ay=>by
  by_cases q:a=e
  ·rw[q];exact yF
  rw[sh a q];exact ay
 have cG:=T.rd.ok C h0;refine⟨?_,pH,?_,?_⟩
 ·rw[kA];exact⟨eR,dB,lg,rfl,⟨_,rfl,Ar⟩⟩
 ·rw[kA];refine{lH:=by rw[aoU];exact M.lH,mV:=by rw[aoU];exact M.mV,o5:=by rw[aoU];exact M.o5,rfl':=M.rfl',o3:=M.o3,nL:=M.nL,qh:=M.qh,aw:=λj ae=>?_,buf:=λj ae=>?_,jO:=λj ae w=>?_,pC:=λj ae=>?_,oP:=M.oP,mi:=λa ay=>⟨(M.mi a ay).1,xz a (M.mi a ay).2⟩,ph:=λa ay hd lM=>?_,pre:=M.pre,co:=M.co,last:=M.last,mem:=M.mem,rd:=M.rd,sO:=M.sO}
  ·by_cases fV:j=k
   ·subst fV;have az:(m.aw.set j (stepT t j (m.aw.getD j default)).1).getD j default=(stepT t j (m.aw.getD j default)).1:=by rw[fU,aou ⟨rfl,by rw[M.lH];exact ae⟩]
    refine⟨s',?_,?_,λi hi=>?_,λx hx w hw=>?_⟩
    ·dsimp only;rw[az,Ar];exact mC
    ·dsimp only;rw[az];exact yy
    ·dsimp only;rw[xB];by_cases q:i=s.J.length
     ·rw[q,aL,yF,aow (apN _)]
     rw[sh _ (by omega),T.done i hi];by_cases bz:i<s.J.length
     ·rw[aow bz,aow (by omega)]
     rw[aoE bz,aoE (by omega)]
    rw[vh]at hw;rw[jT]at hx;rcases aoG.1 hw with q | q
    ·exact T.bars x hx w q
    rw[aoB]at q;subst q;intro dq;have:=(cG.bars x hx).place.2;omega
   obtain⟨xZ,r3⟩:=M.aw j ae;have dS:∀i,i<(hD t j).J.length->fst t j+i≠e:=λi hi q=>by have:=wR h ae hi;rw[q,dB]at this;omega
   exact⟨xZ,r3.keep h ae (by dsimp only;rw[fU,aot λq=>fV q.1.symm]) (λi hi=>rfl) (λi hi=>sh _ (dS i hi)) λw q=>by rwa[vi _ _ fV]at q⟩
  ·dsimp only;by_cases fV:j=k
   ·subst fV;rw[vh,fU,aou ⟨rfl,by rw[M.mV];exact ae⟩,M.buf j ae,apm];rfl
   rw[vi _ _ fV,fU,aot λq=>fV q.1.symm,M.buf j ae]
  ·dsimp only;by_cases fV:j=k
   ·subst fV;rw[vh,aoG,M.jO j ae w,aoB];constructor
    ·rintro(⟨ds,a2,a3,a4,a5⟩ | rfl)
     ·exact⟨ds,a2,a3,xz w a4,a5⟩
     exact⟨eR,dB,pH,yF,ly⟩
    rintro⟨ds,a2,a3,a4,a5⟩;by_cases q:w=e
    ·exact .inr q
    rw[sh w q]at a4;exact .inl ⟨ds,a2,a3,a4,a5⟩
   rw[vi _ _ fV,M.jO j ae w];have J1:(bF (ar t) w).aH=(j:Int)->w≠e:=λcB bz=>by rw[bz,dB]at cB;omega
   constructor
   ·rintro⟨ds,a2,a3,a4,a5⟩;exact⟨ds,a2,a3,xz w a4,a5⟩
   rintro⟨ds,a2,a3,a4,a5⟩;rw[sh w (J1 a2)]at a4;exact⟨ds,a2,a3,a4,a5⟩
  ·by_cases fV:j=k
   ·subst fV;rw[vh,apz];refine⟨M.pC j ae,List.pairwise_singleton _ _,λa ay c ai=>?_⟩;rw[aoB]at ai;subst ai;obtain⟨ds,a2,_,a4,_⟩:=(M.jO j ae a).1 ay;rw[lg a ds a2,aop]at a4;exact a4
   rw[vi _ _ fV];exact M.pC j ae
  have yA:a≠e:=λq=>by subst q;omega
  exact M.ph a ay (by rw[<-sh a yA];exact hd) lM
 intro l _ tv;rw[kA,tv];unfold eU kk;dsimp only;rw[cS];dsimp only;rw[cB,lR h,aot (by simp),fU,aou ⟨rfl,by rw[M.mV];exact hk⟩,hw];rfl
theorem UH{t:aV}(h:dI t=0)(buf:Bool){m:cD}{log:List Nat}{b:Nat->List Nat}(M:kL t m log b){k:Nat}(hk:k<t.code.length){s:cg}(T:ui t m (b k) k s)(ai:k9 t m k=true)(cS:(stepT t k (m.aw.getD k default)).2=.no\/∃f,(stepT t k (m.aw.getD k default)).2=.o7 f): (eU t (ar t) buf m k).done=m.done/\(∃x,(eU t (ar t) buf m k).aw=m.aw.set k x/\(m.aw.getD k default).at'<x.at'/\x.at'<=(cr t k).length)/\kL t (eU t (ar t) buf m k) log b:=by
 obtain⟨c5,kE⟩:=(ns h hk).1;unfold k9 at ai;rw[aoo,aop,aoq]at ai;obtain⟨dR,y2⟩:=ai;have cG:=BA (kS h) hk kE T.rd T.tm dR;have kA:eU t (ar t) buf m k={m with aw:=m.aw.set k (stepT t k (m.aw.getD k default)).1}:=by unfold eU;dsimp only;rcases cS with e | ⟨f,e⟩<;>rw[e]
 have key:(m.aw.getD k default).at'<(stepT t k (m.aw.getD k default)).1.at'/\(stepT t k (m.aw.getD k default)).1.at'<=(cr t k).length/\∃s',Rd (ju t k) (fm t k) s' (stepT t k (m.aw.getD k default)).1.at'/\s'.J=s.J/\(∀x,x∈s'.bars->∀w,w∈b k->(bF (ar t) w).place<x.place->qn x.dA 2 1=false)/\nS (λi=>nn (ar t) (vF m) (fst t k+i)) s' (stepT t k (m.aw.getD k default)).1:=by
  unfold pz at cG;rcases cS with e | ⟨f,e⟩
  ·rw[e]at cG;obtain⟨g1,g2,s',g3,g4,g5,g6⟩:=cG;exact⟨g1,g2,s',g3,g4,λx hx=>T.bars x (g5▸hx),g6⟩
  rw[e]at cG;obtain⟨g1,g2,YX,s',g3,g4,g5,g6⟩:=cG;refine⟨by omega,by omega,s',by rw[g1];exact g3,g4,λx hx w hw dq=>?_,g6⟩;rw[g5]at hx;rcases aoG.1 hx with q | q
  ·exact T.bars x q w hw dq
  rw[aoB]at q;subst q;unfold sU at y2;dsimp only at y2;rw[M.buf k hk,show((b k).map (l0 (ar t))).isEmpty=false from by
   cases hb:b k with
   | nil=>rw[hb]at hw;cases hw
   | cons x l=>rfl]at y2
  rw[show(decide (((cr t k).getD (m.aw.getD k default).at' default).op=5)||decide (((cr t k).getD (m.aw.getD k default).at' default).op=13))=true from by rw[aox,aop,aop];exact YX,<-g2]at y2
  exact y2
 rw[kA];obtain⟨g1,g2,s',g3,g4,g5,g6⟩:=key;refine⟨rfl,⟨_,rfl,g1,g2⟩,?_⟩;refine{lH:=by rw[aoU];exact M.lH,mV:=M.mV,o5:=M.o5,rfl':=M.rfl',o3:=M.o3,nL:=M.nL,qh:=M.qh,aw:=λj ae=>?_,buf:=M.buf,jO:=M.jO,pC:=M.pC,oP:=M.oP,mi:=M.mi,ph:=M.ph,pre:=M.pre,co:=M.co,last:=M.last,mem:=M.mem,rd:=M.rd,sO:=M.sO};by_cases fV:j=k
 ·subst fV;have az:(m.aw.set j (stepT t j (m.aw.getD j default)).1).getD j default=(stepT t j (m.aw.getD j default)).1:=by rw[fU,aou ⟨rfl,by rw[M.lH];exact ae⟩]
  refine⟨s',?_,?_,λi hi=>by rw[g4];exact T.done i hi,g5⟩
  ·dsimp only;rw[az];exact g3
  dsimp only;rw[az];exact g6
 obtain⟨xZ,r3⟩:=M.aw j ae;exact⟨xZ,r3.keep h ae (by dsimp only;rw[fU,aot λq=>fV q.1.symm]) (λi hi=>rfl) (λi hi=>rfl) λ_ q=>q⟩
theorem Pt{t:aV}(h:dI t=0){m:cD}{log:List Nat}{b:Nat->List Nat}(M:kL t m log b){k:Nat}(hk:k<t.code.length){e:Nat}{r:List Nat}(hb:b k=e::r): e<(ar t).J.length/\(bF (ar t) e).aH=(k:Int)/\(bF (ar t) e).dir=2/\m.done.getD e default=true/\e∉log/\(kk m k).done=m.done/\(kk m k).aw=m.aw/\(kk m k).cW=m.cW.set k (r.map (l0 (ar t)))/\kL t (kk m k) (log++[e]) (vg b k r):=by
 have j8:=kr h;obtain⟨eR,dB,pH,IY,ly⟩:=(M.jO k hk e).1 (by rw[hb];exact .head _);obtain⟨p,hp,mc⟩:=uU j8 eR;have hs:=M.pC k hk;rw[hb,apa]at hs;have kA:kk m k={m with cW:=m.cW.set k (r.map (l0 (ar t))),mem:=m.mem.set p (bF (ar t) e).value,last:=m.last.set p (e:Int),co:=m.co.set p (m.co.getD p default++[(e:Int)])}:=by unfold kk;rw[M.buf k hk,hb];show nB _ (l0 (ar t) e)=_;unfold nB l0;dsimp only;rw[hp,aoF]
 have uH:∀q:Nat,gq (ar t) (log++[e]) q=if q=p then gq (ar t) log q++[(e:Int)]else gq (ar t) log q:=λq=>by
  rw[Ez,Ov];have:nQ (ar t) q e=decide (q=p):=by
   unfold nQ;rw[show decide (((ar t).J.getD e default).dir=2)=true from aow pH,apE,show((ar t).J.getD e default).loc=(p:Int)from hp];by_cases bz:q=p
   ·rw[bz,aow rfl,aow rfl]
   rw[aoE bz,aoE (by omega)]
  rw[this];by_cases bz:q=p
  ·rw[aou bz,aow bz,aou rfl]
  rw[aot bz,aoE bz,aot (by simp),aoH]
 refine⟨eR,dB,pH,IY,ly,by rw[kA],by rw[kA],by rw[kA],?_⟩;rw[kA];refine{lH:=M.lH,mV:=by rw[aoU];exact M.mV,o5:=M.o5,rfl':=M.rfl',o3:=by rw[aoU];exact M.o3,nL:=by rw[aoU];exact M.nL,qh:=by rw[aoU];exact M.qh,aw:=λj ae=>?_,buf:=λj ae=>?_,jO:=λj ae w=>?_,pC:=λj ae=>?_,oP:=?_,mi:=λa ay=>?_,ph:=λa ay hd lM=>aoG.2 (.inl (M.ph a ay hd lM)),pre:=Ld M.pre λa ay hp=>?_,co:=λq ba=>?_,last:=λq ba=>?_,mem:=λq ba=>?_,rd:=λnk q a Ig lM=>?_,sO:=λa ay lM=>M.sO a ay (lM.imp id λbz fc=>bz (aoG.2 (.inl fc)))}
 ·obtain⟨xZ,r3⟩:=M.aw j ae;refine⟨xZ,r3.keep h ae rfl (λi hi=>rfl) (λi hi=>rfl) λw q=>?_⟩;by_cases fV:j=k
  ·subst fV;rw[vh]at q;rw[hb];exact .tail _ q
  rwa[vi _ _ fV]at q
 ·dsimp only;by_cases fV:j=k
  ·subst fV;rw[vh,fU,aou ⟨rfl,by rw[M.mV];exact ae⟩]
  rw[vi _ _ fV,fU,aot λq=>fV q.1.symm,M.buf j ae]
 ·dsimp only;by_cases fV:j=k
  ·subst fV;rw[vh,aoG,aoB];constructor
   ·intro q;obtain⟨ds,a2,a3,a4,a5⟩:=(M.jO j ae w).1 (by rw[hb];exact .tail _ q);have:=hs.1 w q;exact⟨ds,a2,a3,a4,λq=>q.elim a5 λq=>by omega⟩
   rintro⟨ds,a2,a3,a4,a5⟩;have:=(M.jO j ae w).2 ⟨ds,a2,a3,a4,λq=>a5 (.inl q)⟩;rw[hb]at this;rcases aoO.1 this with q | q
   ·exact absurd (.inr q) a5
   exact q
  rw[vi _ _ fV,M.jO j ae w,aoG,aoB];constructor
  ·rintro⟨ds,a2,a3,a4,a5⟩;exact⟨ds,a2,a3,a4,λq=>q.elim a5 λq=>by rw[q,dB]at a2;omega⟩
  rintro⟨ds,a2,a3,a4,a5⟩;exact⟨ds,a2,a3,a4,λq=>a5 (.inl q)⟩
 ·by_cases fV:j=k
  ·subst fV;rw[vh];exact hs.2
  rw[vi _ _ fV];exact M.pC j ae
 ·rw[ard];exact⟨M.oP,List.pairwise_singleton _ _,λa ay c ai=>by rw[aoB]at ai;subst ai;exact λq=>ly (q▸ay)⟩
 ·rcases aoG.1 ay with q | q
  ·exact M.mi a q
  rw[aoB]at q;subst q;exact⟨eR,IY⟩
 ·
  unfold nN at hp;rw[aoo]at hp;have yS:=hp.1;rw[rL j8 ay eR,aoo,aop]at yS;unfold fo.jn at yS;rw[aop,dB]at yS;obtain⟨ans,Nt⟩:=M.aw k hk;have lM:m.done.getD a default=true:=by rw[DQ h hk Nt eR dB,aop]at IY;rw[DQ h hk Nt ay yS.2];exact aow (by omega)
  rcases pt j8 ay with hd | hd
  ·exact M.ph a ay lM hd
  refine ao0 λeD=>?_;have:=(M.jO k hk a).2 ⟨ay,yS.2,hd,lM,eD⟩;rw[hb]at this;rcases aoO.1 this with q | q
  ·omega
  have:=hs.1 a q;omega
 ·dsimp only;rw[fU,M.o3,uH];by_cases bz:q=p
  ·subst bz;rw[aou ⟨rfl,ba⟩,aou rfl,M.co q ba]
  rw[aot λg=>bz g.1.symm,aot bz,M.co q ba]
 ·dsimp only;rw[fU,M.qh,uH];by_cases bz:q=p
  ·subst bz;rw[aou ⟨rfl,ba⟩,aou rfl,Ib]
  rw[aot λg=>bz g.1.symm,aot bz,M.last q ba]
 ·dsimp only;rw[fU,M.nL,uH];by_cases bz:q=p
  ·subst bz;rw[aou ⟨rfl,ba⟩,aou rfl,Ib];unfold rV;rw[aot (by omega),aoF]
  rw[aot λg=>bz g.1.symm,aot bz,M.mem q ba]
 rcases Mg Ig with⟨_,rfl,_⟩ | ⟨q',_,e'⟩
 ·omega
 exact M.rd nk q' a e' lM
end Go.Proofs.bA
