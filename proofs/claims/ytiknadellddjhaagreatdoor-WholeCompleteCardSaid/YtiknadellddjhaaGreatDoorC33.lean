/- Lemmas for the law WholeComplete. -/
import Derived.Test.YtiknadellddjhaaGreatDoorC25
import Derived.Test.YtiknadellddjhaaGreatDoorC27
set_option linter.all false
open Go.Proofs.Tryz
set_option maxHeartbeats 1600000
open Go Go.b9 Go.bM Go.gG Go.fo
attribute [local irreducible] Go.wpList Go.Code.wp Go.bodyPost Go.Exit.then Go.Exit.inBlock Go.Calls
namespace Go.Proofs.bA
inductive vt(t:aV)(cq:aW)(buf:Bool):List Int->cD->Prop where
 | nil:vt t cq buf [] (iY t cq)
 | snoc {out:List Int} {m:cD} {x:lI}:vt t cq buf out m->x∈c8 t m->vt t cq buf (out++[((c8 t m).idxOf x:Int)]) (hK t cq buf m x)
theorem Rt{t:aV}{cq:aW}{buf:Bool}{out:List Int}{m:cD}(L:vt t cq buf out m):∀ext,runM t cq buf (out++ext) out.length=m:=by
 induction L with
 | nil=>intro ext;rfl
 | @snoc out m x L hx bP=>
  intro ext;rw[aoy,aps,aoP];have e:runM t cq buf (out++([((c8 t m).idxOf x:Int)]++ext)) (out.length+1)=let m1:=runM t cq buf (out++([((c8 t m).idxOf x:Int)]++ext)) out.length
   if(c8 t m1).length=0 then m1 else hK t cq buf m1 ((c8 t m1).getD (wL (out++([((c8 t m).idxOf x:Int)]++ext)) out.length (c8 t m1).length) default):=rfl
  rw[e,bP];dsimp only;have dq:=apO hx;rw[aot (by omega)];have hp:wL (out++([((c8 t m).idxOf x:Int)]++ext)) out.length (c8 t m).length=(c8 t m).idxOf x:=by unfold wL;rw[aou (by simp),uD (aoL _),ap0];show(((c8 t m).idxOf x:Int) % ((c8 t m).length:Int)).toNat=_;rw[Int.emod_eq_of_lt (by omega) (by omega)];rfl
  rw[hp,aor,aov dq];simp
theorem O1{cx:fg}(C:l1 cx){dd:cg}(h0:gH cx dd 0){ot:cg}{c5:Nat}:∀(n:Nat) (s:cg) (k:Nat),Rd cx dd s k->iQ cx n s k=.go ot c5->∃m,ot.J=s.J++m/\∀x,x∈m->(k:Int)<=x.place
 | 0,s,k,_,h=>by unfold iQ at h;injection h with bu b2;subst bu;exact⟨[],(aoH _).symm,λ_ h=>(by cases h)⟩
 | n+1,s,k,cj,h=>by
  unfold iQ at h;split at h
  ·rename_i hk;split at h
   ·rename_i s' c4 az;obtain⟨m,hm,hp⟩:=UG az;have dq:=(wU C (cj.ok C h0) hk az).1;obtain⟨m',kA,uK⟩:=O1 C h0 n s' c4 (.step cj hk az) h;refine⟨m++m',by rw[kA,hm,aoP],λb hb=>?_⟩;rcases aoG.1 hb with q | q
    ·rw[hp b q];exact Int.le_refl _
    have:=uK b q;omega
   rename_i dS;exact absurd h (dS _ _)
  injection h with bu b2;subst bu;exact⟨[],(aoH _).symm,λ_ h=>(by cases h)⟩
section
variable {t:aV} (h:dI t=0)
include h
theorem Yq{k:Nat}(hk:k<t.code.length){s:cg}{p:Nat}(cj:Rd (ju t k) (fm t k) s p){i:Nat}(hi:i<(hD t k).J.length)(hle:s.J.length<=i):(p:Int)<=(bF (ar t) (fst t k+i)).place:=by obtain⟨c5,aM⟩:=(ns h hk).1;obtain⟨C,h0,_⟩:=qt h hk;obtain⟨n,h1,_⟩:=Bt C h0 aM cj;obtain⟨m,hm,hp⟩:=O1 C h0 n s p cj h1;rw[(u9 h hk hi).2];refine hp _ ?_;rw[hm,uD hle];rw[hm,aoy]at hi;exact eN (by omega)
theorem WA{k:Nat}(hk:k<t.code.length){s:cg}{p:Nat}(cj:Rd (ju t k) (fm t k) s p){x:nx}(hx:x∈s.bars):x∈(ar t).bars:=by
 obtain⟨c5,aM⟩:=(ns h hk).1;obtain⟨C,h0,_⟩:=qt h hk;obtain⟨n,h1,_⟩:=Bt C h0 aM cj;obtain⟨m,hm,_⟩:=LY C h0 n s p cj h1;have key:∀d,k+1+d<=t.code.length->x∈(k7 t (k+1+d)).bars:=by
  intro d
  induction d with
  | zero=>intro hd;rw[Nat.add_zero,(ns h hk).2.2.1,hm];exact aoG.2 (.inr (aoG.2 (.inl hx)))
  | succ d bP=>intro hd;rw[show k+1+(d+1)=k+1+d+1 by omega,(ns h (by omega)).2.2.1];exact aoG.2 (.inl (bP (by omega)))
 have:=key (t.code.length-(k+1)) (by omega);rw[show k+1+(t.code.length-(k+1))=t.code.length by omega]at this;rw[vf h];exact this
theorem ait{k:Nat}(hk:k<t.code.length){l:hJ}(aL:l.at'<(cr t k).length)(bn:((cr t k).getD l.at' default).op=5\/((cr t k).getD l.at' default).op=13):(stepT t k l).2=.o7 (p4 ((cr t k).getD l.at' default)):=by
 have G:=kS h;have bV:=FR G.aC (G.ins _ (eN hk) _ (eN aL));unfold stepT;change ri t.aC ((cr t k).getD l.at' default)at bV;generalize hi:(cr t k).getD l.at' default=i at *;rcases G.aC with ay | ay
 ·have:=bV.A8 ay;rw[aou ay];unfold jm p4;rw[aot (by omega),aot (by omega),aot (by omega),aot (by omega),aou (by omega)]
 have:=bV.K1 ay;rw[aot (by omega)];unfold lX p4;dsimp only;rw[hi,aot (by omega),aot (by omega),aot (by omega),aot (by omega),aot (by omega),aot (by omega),aou (by omega),aot (by omega)];rfl
end
structure x6(t:aV)(buf:Bool)(o:List Nat):Prop where
 ord:r0 (ar t).J.length o
 pp:∀a c,a<(ar t).J.length->c<(ar t).J.length->nN (ar t) a c=true->fF o a<fF o c
 po:buf=false->∀a c,a<(ar t).J.length->c<(ar t).J.length->eT (ar t) a c=true->fF o a<fF o c
def logAt(t:aV)(buf:Bool)(o:List Nat)(j e:Nat):List Nat:=if(bF (ar t) e).dir=1\/buf=false then o.take (j+1)else o.take j
section
variable {t:aV} (h:dI t=0) {buf:Bool} {o:List Nat} (kh:x6 t buf o) {m:cD} {b:Nat->List Nat}
include h kh
theorem x6.at{j e:Nat}(he:o[j]?=some e):e<(ar t).J.length/\fF o e=j/\o.take (j+1)=o.take j++[e]/\∀x,x∈o.take j↔x∈o/\fF o x<j:=⟨kh.ord.lt e (aoM he),pos_at kh.ord.nodup he,by rw[List.take_succ,he];rfl,λ_=>R7 kh.ord.nodup⟩
theorem ajs{j e k:Nat}(he:o[j]?=some e)(hk:k<t.code.length)(dB:(bF (ar t) e).aH=(k:Int))(R:kg t buf m (o.take j) b)(oI:m.done.getD e default=false): k9 t m k=true/\∃kO,kg t buf (eU t (ar t) buf m k) (if(eU t (ar t) buf m k).done.getD e default=true then logAt t buf o j e else o.take j) kO:=by
 have j8:=kr h;obtain⟨eR,CN,gj,hmem⟩:=kh.at h he;have M:=R.M;obtain⟨s,T⟩:=M.aw k hk;obtain⟨C,h0,_⟩:=qt h hk;obtain⟨c5,kE⟩:=(ns h hk).1;obtain⟨i,hi,rfl⟩:=FO h hk eR dB;have QJ:s.J.length<=i:=by have:=T.done i hi;rw[oI]at this;have:=of_decide_eq_false this.symm;omega
 have dR:(m.aw.getD k default).at'<(cr t k).length:=by refine Nat.not_le.1 λq=>?_;have:=Tv C h0 kE T.rd q;rw[this]at QJ;omega
 have Qp:∀a,a<(ar t).J.length->(bF (ar t) a).aH=(k:Int)->a<fst t k+i->eT (ar t) a (fst t k+i)=true:=λa ay aJ q=>by rw[rL j8 ay eR,aow q];unfold fo.jn;rw[aJ,dB,aow rfl];rfl
 have ai:k9 t m k=true:=by
  unfold k9;rw[aow dR,apE,aoq,aoW];intro hw;unfold sU at hw;dsimp only at hw;rw[aoo,aoo,aoq,M.buf k hk]at hw;obtain⟨⟨bc,bY⟩,fW⟩:=hw;rw[aox,aop,aop]at bY;obtain⟨w,r,hb⟩:∃w r,b k=w::r:=by
   cases q:b k with
   | nil=>rw[q]at bc;cases bc
   | cons e r=>exact⟨e,r,rfl⟩
  obtain⟨pv,zH,D2,M1,D3⟩:=(M.jO k hk w).1 (by rw[hb];exact .head _);have cG:=BA (kS h) hk kE T.rd T.tm dR;unfold pz at cG;rw[ait h hk dR bY]at cG;obtain⟨g1,_,_,s',g3,g4,g5,_⟩:=cG;have E8:=WA h hk g3 (x:=⟨(k:Int),((m.aw.getD k default).at':Int),p4 ((cr t k).getD (m.aw.getD k default).at' default)⟩) (by rw[g5];exact aoG.2 (.inr (aoB.2 rfl)));have alu:=Yq h hk g3 hi (by rw[g4];exact QJ);have abx:=M1;rw[DQ h hk T pv zH,aop]at abx;obtain⟨Q8,Z8,rfl⟩:=FO h hk pv zH;have C0:(bF (ar t) (fst t k+Q8)).place<(m.aw.getD k default).at':=by rw[(u9 h hk Z8).2];obtain⟨adI,kB⟩:=Lu h hk T.rd;rw[kB,kR (by omega)];exact((T.rd.ok C h0).J _ (eN (by omega))).place.2
  have qP:=Qp _ pv zH (by omega);have aaG:nN (ar t) (fst t k+Q8) (fst t k+i)=true:=by
   unfold nN;rw[qP,apE,aox];rcases pt j8 eR with q | q
   ·right;unfold vR;rw[qP,apE];unfold vQ;rw[apH];refine⟨_,E8,?_⟩;unfold zW;simp only[aoo,aop];refine⟨⟨⟨zH.symm,C0⟩,by omega⟩,?_⟩;rw[D2,q];exact fW
   left;unfold pg;rw[q];simp
  have:=kh.pp _ _ pv eR aaG;rw[CN]at this;exact D3 ((hmem _).2 ⟨kh.ord.all pv,this⟩)
 refine⟨ai,?_⟩;have vX:∀e',zR t m (eU t (ar t) buf m k) k e'->((bF (ar t) e').dir=1\/buf=false)->e'=fst t k+i:=λe' S q=>by
  have h1:=S.Bc _ eR dB;rw[oI]at h1;have h2:=of_decide_eq_false h1.symm;rcases arc e' (fst t k+i)with g | g | g
  ·exfalso;have qP:=Qp e' S.kP S.bI g;have dq:fF o e'<fF o (fst t k+i):=by
    rcases q with q | q
    ·refine kh.pp _ _ S.kP eR ?_;unfold nN pg;rw[qP,q];simp
    exact kh.po q _ _ S.kP eR qP
   rw[CN]at dq;have:=(M.mi e' ((hmem _).2 ⟨kh.ord.all S.kP,dq⟩)).2;rw[S.Bc _ S.kP S.bI,aoE (aqN _)]at this;cases this
  ·exact g
  exact absurd g h2
 have wg:∀e',e'<(ar t).J.length->(m.done.set e' true).getD (fst t k+i) default=if e'=fst t k+i then true else false:=λe' ft=>by
  rw[fU,M.o5];by_cases q:e'=fst t k+i
  ·rw[aou ⟨q,eR⟩,aou q]
  rw[aot λg=>q g.1,aot q,oI]
 rcases R.step h hk ai with⟨e',S,q,r2⟩ | ⟨e',S,cB,bz,r2⟩ | ⟨g1,_,r2⟩
 ·obtain rfl:=vX e' S q;refine⟨b,?_⟩;rw[S.dD,wg _ S.kP,aou rfl,aou rfl];unfold logAt;rw[aou q,gj];exact r2
 ·refine⟨vg b k (b k++[e']),?_⟩;rw[S.dD,wg _ S.kP];by_cases g:e'=fst t k+i
  ·rw[aou g,aou rfl];unfold logAt;rw[aot λq=>by rw[<-g]at q;rcases q with q | q<;>simp_all];exact r2
  rw[aot g,aot (by simp)];exact r2
 refine⟨b,?_⟩;rw[g1,oI,aot (by simp)];exact r2
theorem ajq{j e:Nat}(he:o[j]?=some e)(R:kg t buf m (o.take j) b)(hd:m.done.getD e default=true):logAt t buf o j e=o.take j:=by
 have M:=R.M;obtain⟨eR,CN,_,hmem⟩:=kh.at h he;have eD:e∉o.take j:=λq=>by have:=((hmem e).1 q).2;omega
 unfold logAt;rw[aot];rintro(q | q)
 ·exact eD (M.ph e eR hd q)
 obtain⟨k,i,hk,hi,rfl⟩:=BH h eR;rcases pt (kr h) eR with g | g
 ·exact eD (M.ph _ eR hd g)
 have:=(M.jO k hk _).2 ⟨eR,wR h hk hi,g,hd,eD⟩;rw[(R.lF q).1 k hk]at this;cases this
theorem YM{j e k:Nat}(he:o[j]?=some e)(hk:k<t.code.length)(dB:(bF (ar t) e).aH=(k:Int))(R:kg t true m (o.take j) b)(hd:m.done.getD e default=true)(hw:(bF (ar t) e).dir=2): ¬m.cW.getD k default=[]/\∃kO,kg t true (kk m k) (o.take (j+1)) kO:=by
 have j8:=kr h;have M:=R.M;obtain⟨eR,CN,gj,hmem⟩:=kh.at h he;have eD:e∉o.take j:=λq=>by have:=((hmem e).1 q).2;omega
 have tv:=(M.jO k hk e).2 ⟨eR,dB,hw,hd,eD⟩;obtain⟨x,r,hb⟩:∃x r,b k=x::r:=by
  cases q:b k with
  | nil=>rw[q]at tv;cases tv
  | cons e r=>exact⟨e,r,rfl⟩
 refine⟨λq=>?_,?_⟩
 ·rw[M.buf k hk,hb]at q;cases q
 obtain⟨pv,zH,D2,M1,D3⟩:=(M.jO k hk x).1 (by rw[hb];exact .head _);have AM:x=e:=by
  rw[hb]at tv;rcases aoO.1 tv with q | q
  ·exact q.symm
  exfalso;have hs:=M.pC k hk;rw[hb,apa]at hs;have dq:=hs.1 e q;refine D3 ((hmem x).2 ⟨kh.ord.all pv,?_⟩);rw[<-CN];refine kh.pp _ _ pv eR ?_;unfold nN pg;rw[hw,rL j8 pv eR,aow dq];unfold fo.jn;rw[zH,dB,aow rfl];simp
 subst AM;rw[gj];exact⟨_,(R.flush h hk hb).2.2.2.2.2.2.2⟩
theorem agz(R:kg t buf m o b){x:lI}(hx:x∈c8 t m):kg t buf (hK t (ar t) buf m x) o b/\sH t (hK t (ar t) buf m x) o<sH t m o:=by
 have M:=R.M;have xz:∀e,e<(ar t).J.length->m.done.getD e default=true:=λe he=>(M.mi e (kh.ord.all he)).2;obtain⟨k,hk,q | q⟩:=wB.1 hx
 ·obtain⟨rfl,ai⟩:=q;have dR:(m.aw.getD k default).at'<(cr t k).length:=by unfold k9 at ai;rw[aoo,aop]at ai;exact ai.1
  have mD:hK t (ar t) buf m ⟨1,(k:Int)⟩=eU t (ar t) buf m k:=by unfold hK;rw[aou rfl,aoF]
  rw[mD];have eD:∀e',¬zR t m (eU t (ar t) buf m k) k e':=λe' S=>by have:=xz e' S.kP;rw[S.Bc _ S.kP S.bI,aoE (aqN _)]at this;cases this
  rcases R.step h hk ai with⟨e,g1,_⟩ | ⟨e,g1,_⟩ | ⟨_,⟨x,g1,g2,_⟩,g3⟩
  ·exact absurd g1 (eD e)
  ·exact absurd g1 (eD e)
  refine⟨g3,?_⟩;have:=F2 hk M.lH g1 g2 dR;unfold sH;omega
 exfalso;obtain⟨rfl,hb⟩:=q;rw[M.buf k hk]at hb;obtain⟨e,r,iu⟩:∃e r,b k=e::r:=by
  cases q:b k with
  | nil=>rw[q]at hb;exact absurd rfl hb
  | cons e r=>exact⟨e,r,rfl⟩
 obtain⟨pv,_,_,_,D3⟩:=(M.jO k hk e).1 (by rw[iu];exact .head _);exact D3 (kh.ord.all pv)
end
theorem Sw{t:aV}(h:dI t=0){buf:Bool}{o:List Nat}(O:r0 (ar t).J.length o){c:cw}(hs:∀a d,a<(ar t).J.length->d<(ar t).J.length->(if buf=true then ou (ar t) c a d else qq (ar t) c a d)=true->fF o a<fF o d):x6 t buf o:=by
 refine⟨O,λa d ay hd q=>hs a d ay hd ?_,λhc a d ay hd q=>hs a d ay hd ?_⟩
 ·cases buf with
  | true=>rw[aou rfl];unfold ou;rw[q];simp
  | false=>rw[aot (by simp)];exact MF (by unfold ou;rw[q];simp)
 rw[hc,aot (by simp)];unfold qq;rw[q];simp
theorem NK{t:aV}(h:dI t=0){buf:Bool}{o:List Nat}(O:r0 (ar t).J.length o){c:cw}(a1:fj (ar t) c=0)(ai:nY (ar t) c=true)(hs:∀a d,a<(ar t).J.length->d<(ar t).J.length->(if buf=true then ou (ar t) c a d else qq (ar t) c a d)=true->fF o a<fF o d) {out:List Int} {m:cD} {b:Nat->List Nat} (L:vt t (ar t) buf out m) (R:kg t buf m o b) (hx:c8 t m=[]):uv t (ar t) buf out=m/\wT (ar t) m=uz (ar t) c:=by
 have j8:=kr h;have M:=R.M;obtain⟨_,ky⟩:=nU a1;have QM:∀a d,a<(ar t).J.length->d<(ar t).J.length->ou (ar t) c a d=true->fF o a<fF o d:=λa d ay hd q=>hs a d ay hd (by
  cases buf with
  | true=>rw[aou rfl];exact q
  | false=>rw[aot (by simp)];exact MF q)
 have aaM:∀a d,a<(ar t).J.length->d<(ar t).J.length->Bq (ar t) c a d=true->fF o a<fF o d:=λa d ay hd q=>QM a d ay hd (by
  unfold Bq at q;unfold ou;simp only[aox]at q⊢;rcases q with((q | q) | q) | q
  ·exact .inl (.inl (.inl (ahm j8 q)))
  ·exact .inl (.inl (.inr q))
  ·exact .inl (.inr q)
  exact .inr q)
 have Jl:=ahk a1 ai aaM;have pJ:=aep h R hx;have vV:vF m=c:=by
  have bu:m.bE=c.bE:=by
   refine Iz (by rw[M.rfl',((r6 _ c).1 ky).1]) λr aM=>?_;rw[M.rfl']at aM;rcases pt j8 aM with hd | hd
   ·have rd:∀d:cw,AV (ar t) d (fF o)=true->d.bE.getD r default=xQ (tW (ar t) (fF o) r) (fF o) (ar t).J.length:=λd aL=>by unfold AV at aL;rw[aoo,fT,fT]at aL;have:=aL.2 r aM;unfold GH at this;rw[hd,aow (rfl:(1:Int)=1),Bool.not_true,ap6,aop]at this;exact this
    rw[rd c Jl];exact rd (vF m) pJ
   rw[M.sO r aM (.inl hd)];rcases LP ky aM with q | ⟨q,_⟩
   ·exact q.symm
   omega
  have b2:m.co=c.co:=by refine Iz (by rw[M.o3,((r6 _ c).1 ky).2.1]) λk hk=>?_;rw[M.o3]at hk;rw[M.co k hk];exact XG a1 O (λa d ay hd q=>QM a d ay hd (by unfold ou;rw[q];simp)) hk
  unfold vF;rw[bu,b2]
 refine⟨?_,by rw[aeo h R hx,vV]⟩;have:=Rt L [];rw[aoH]at this;rw[<-LX h buf out (i:=out.length) (by rw[this];exact hx),this]
section
variable {t:aV} (h:dI t=0) {m:cD} {log:List Nat} {b:Nat->List Nat} (M:kL t m log b)
include h M
theorem kL.zu{k:Nat}(hk:k<t.code.length):rl (cn t.aC) (m.aw.getD k default).ag/\(t.aC=2->(m.aw.getD k default).ag.getD 0 default=gL):=by obtain⟨s,T⟩:=M.aw k hk;obtain⟨C,h0,_⟩:=qt h hk;have S:=T.rd.ok C h0;have aL:s.ag.length=cn t.aC:=S.lW;refine⟨⟨by rw[T.tm.len,aL],λi hi=>KT (T.tm.bo i (by omega)) (S.ag i (by omega)).1⟩,λay=>?_⟩;have:=T.tm.bo 0 (by rw[aL];unfold cn;split<;>omega);rw[S.zero ay]at this;exact this
theorem kL.Lm{k:Nat}(hk:k<t.code.length)(ay:t.aC=1)(dR:(m.aw.getD k default).at'<(cr t k).length)(bn:((cr t k).getD (m.aw.getD k default).at' default).op=2): ((m.aw.getD k default).ag.getD ((cr t k).getD (m.aw.getD k default).at' default).a.toNat default).loc=bg:=by
 obtain⟨s,T⟩:=M.aw k hk;obtain⟨C,h0,_⟩:=qt h hk;obtain⟨c5,kE⟩:=(ns h hk).1;have S:=T.rd.ok C h0;obtain⟨s',c4,az⟩:=Tw C h0 kE T.rd dR;have G:=kS h;have bV:=FR G.aC (G.ins _ (eN hk) _ (eN dR));have hi:(ju t k).code.getD (m.aw.getD k default).at' default=(cr t k).getD (m.aw.getD k default).at' default:=rfl;unfold fR at az;dsimp only at az;rw[hi,aot (by omega),aou bn]at az;change ri t.aC ((cr t k).getD (m.aw.getD k default).at' default)at bV;obtain⟨n,aM⟩:∃n,(bS s ((cr t k).getD (m.aw.getD k default).at' default).a).has=.num n:=by
  unfold kJ at az;split at az
  ·rename_i n e;exact⟨n,e⟩
  cases az
 have ba:((cr t k).getD (m.aw.getD k default).at' default).a.toNat<s.ag.length:=by rw[S.lW];have h1:=bV.a.1;have h2:=bV.a.2;show _<cn t.aC;omega
 have:=T.tm.bo _ ba;unfold bS at aM;rw[aM]at this;exact(aoI eh.loc this)
theorem kL.HV{k:Nat}(hk:k<t.code.length):(t.aC=1->∀i,i<(cr t k).length->kn ((cr t k).getD i default)=true)/\(t.aC=2->lQ (cr t k)=0)/\(cr t k).length<=256:=by
 have G:=kS h;have ai:=eN (l:=t.code) hk;have aL:=G.len _ ai;refine⟨λay i hi=>?_,λay=>?_,aL⟩
 ·have:=G.ins _ ai _ (eN hi);unfold ng at this;rwa[aou ay]at this
 have hi:∀i,i<(t.code.getD k default).length->kW ((t.code.getD k default).getD i default)=true:=λi hi=>by have:=G.ins _ ai _ (eN hi);unfold ng at this;rwa[aot (by omega)]at this
 unfold lQ;rw[aot (by show ¬256<(t.code.getD k default).length;omega),aou,aou]
 ·exact fT.2 λi hi=>G.cT ay _ ai i hi
 rw[apt];intro x hx;obtain⟨i,Je,rfl⟩:=pj hx;exact hi i Je
end
theorem Sc{t:aV}{m:cD}{k:Nat}(hb:m.cW.getD k default=[]):uZ t m k=if(m.aw.getD k default).at'<(cr t k).length then [⟨1,(k:Int)⟩]else []:=by
 unfold uZ k9 sU;dsimp only;rw[hb];show(if(decide ((m.aw.getD k default).at'<(cr t k).length)&&true)=true then [(⟨1,(k:Int)⟩:lI)]else [])++[]=_;rw[aoH];by_cases h:(m.aw.getD k default).at'<(cr t k).length
 ·rw[aou (by rw[aow h];rfl),aou h]
 rw[aot (by rw[aoE h];simp),aot h]
theorem Dk(t:aV)(m:cD)(n:Nat):pn t m (n+1)=pn t m n++uZ t m n:=by unfold pn;rw[ape,apc,aq7]
theorem AZ(t:aV)(m:cD):∀n,(pn t m n).length<=2* n
 | 0=>aoL _
 | n+1=>by
  have:=AZ t m n;rw[Dk,aoy];have:(uZ t m n).length<=2:=by unfold uZ;rw[aoy];split<;>split<;>simp
  omega
theorem SO{x n:Int}(bd:0<n):(if x.tmod n<0 then x.tmod n+n else x.tmod n)=x.emod n:=by
 have h1:=Int.tmod_eq_emod (a:=x) (b:=n);have h2:=Int.emod_nonneg x (show n≠0 by omega);have h3:=Int.emod_lt_of_pos x bd;show _=x % n;rw[h1];by_cases q:0<=x\/n ∣ x
 ·rw[aou q,aot (by omega)];omega
 rw[aot q,aou (by omega)];omega
theorem ail{t:aV}{m:cD}{k:Nat}(hb:m.cW.getD k default=[]): (eU t (ar t) false m k).aw=m.aw.set k (match(stepT t k (m.aw.getD k default)).2 with
  | .rd s r=>⟨fM t.aC (stepT t k (m.aw.getD k default)).1.ag r ⟨bg,m.mem.getD (dr (ar t).aO s) default⟩,(stepT t k (m.aw.getD k default)).1.at'⟩
  | _=>(stepT t k (m.aw.getD k default)).1)/\
 (eU t (ar t) false m k).mem=(match(stepT t k (m.aw.getD k default)).2 with
  | .wr s v=>m.mem.set (dr (ar t).aO s) v
  | _=>m.mem)/\(eU t (ar t) false m k).cW=m.cW:=by
 unfold eU;dsimp only;rcases h:(stepT t k (m.aw.getD k default)).2 with _ | ⟨s,r⟩ | ⟨s,v⟩ | f
 ·exact⟨rfl,rfl,rfl⟩
 ·refine⟨?_,rfl,rfl⟩;dsimp only;unfold nm;rw[hb];rfl
 ·exact⟨rfl,rfl,rfl⟩
 exact⟨rfl,rfl,rfl⟩
end Go.Proofs.bA
namespace Go.bM
theorem ke.OA{S:Nat->Prop}{w:World}{cI ad:Value}{c:cw}(h:ke S w cI ad c):aD ad:=by obtain⟨vs,h1,_⟩:=h.co;exact h1.aK
end Go.bM
namespace Go.Proofs.bA
theorem XX{ak ah aI bv aG aR ad aT bj:Value}{t:aW}(cI b8:Value)(c:cw)(w:World)(h:fB al w ak ah aI bv aG aR ad aT bj t)(ai:ke al w cI b8 c)(a1:fj t c=0): bl prog 36 [.agg #[ak,ah,aI,bv,aG,aR,ad,aT,bj],.agg #[cI,b8]] w λm v I=>aZ (Fr m) I a7 1 v (x1 t c):=by
 obtain⟨aJ,ky⟩:=Oc a1;obtain⟨hb,ma⟩:=kI aJ;have cF:=h.J;have fs:=h.init;have cj:=ai.bE;have Cp:=cF.le;have IB:=fs.le;have ak0:=cj.le;have s1:=cj.aK;have s2:=ai.OA;have ep:c.bE.length=t.J.length:=((r6 t c).1 ky).1;have gJ:=AP aJ;refine bZ func36 ntmps36 ?_;refine b7 λaQ=>?_;refine b7 λfy=>?_;refine aq (gC a7 b9.oE _ _ _ _ (ab:=λv11 QO=>U ?_));refine bX (λi:Nat=>i<=t.J.length) (λi=>[(15,true,.int .i64 i),(14,true,.int .i64 t.J.length),(13,true,aI),(5,true,v11),(3,true,av fy),(2,true,av aQ)]) (λi=>Mem [(w,al)] [.own v11 3 1 a7 (pF t.J.length (nn t c) i),.box fy [cI,b8] 53,.box aQ [ak,ah,aI,bv,aG,aR,ad,aT,bj] 41]) (λi=>t.J.length-i) 0 (aoD _) ?_ ⟨rfl,rfl,rfl,rfl,rfl,rfl,trivial⟩ (λ_ h=>by rw[Pl];exact h.last rfl)
 intro i hi;refine a8 (λh1=>?_) λh1=>?_
 ·have bU:i<t.J.length:=by rw[an]at h1;omega
  have yG:=Pk t.J.length (nn t c) i;have Fj:i<(pF t.J.length (nn t c) i).length:=by omega
  have lN:=Ha aJ bU;have qd:=agN ky bU;have tG:i<c.bE.length:=by omega
  refine U ?_;refine cH λeQ=>?_;refine bN 0 ?_;refine bC (λh2=>?_) λh2=>?_
  ·rw[an]at h2;refine U ?_;refine aq (fq 1 rfl _ (ab:=U ?_));refine bm (i+1) (by omega) (by omega) (hA:=λ_ h=>?_);rw[<-EO bU (x:=(t.J.getD i default).value) (by unfold nn;rw[aou h2])];exact(h.last rfl).tail
  rw[au]at h2;refine a8 (λh3=>?_) λh3=>?_
  ·rw[an]at h3;refine U ?_;refine aq (fq 1 rfl _ (ab:=U ?_));refine bm (i+1) (by omega) (by omega) (hA:=λ_ h=>?_);rw[<-EO bU (x:=t.init.getD (t.J.getD i default).loc.toNat default) (by unfold nn;rw[aot h2,aou h3])];exact(h.last rfl).tail
  rw[au]at h3;refine U ?_;refine cz [0,1,2,3,4,5,6,7,8,9,10,11,12,13] mixed ?_;refine aN ?_;refine gw (h:=fq 1 rfl _ (ab:=U ?_));refine bm (i+1) (by omega) (by omega) (hA:=λ_ h=>?_);rw[<-EO bU (x:=(t.J.getD (c.bE.getD i default).toNat default).value) (by unfold nn;rw[aot h2,aot h3])];exact(h.last rfl).tail
 obtain rfl:i=t.J.length:=by rw[au]at h1;omega
 refine bf λI hw=>?_;have:=hw.im aP aP;rw[Pj]at this;exact this
theorem W7{ak ah aI bv aG aR ad aT bj:Value}{t:aW}(cI b8:Value)(c:cw)(w:World)(h:fB al w ak ah aI bv aG aR ad aT bj t)(ai:ke al w cI b8 c)(a1:fj t c=0): bl prog 9 [.agg #[ak,ah,aI,bv,aG,aR,ad,aT,bj],.agg #[cI,b8]] w λm v I=>∃u,v=.tuple #[u,.int .i64 0]/\aZ (Fr m) I a7 1 u (uz t c):=by
 obtain⟨aJ,ky⟩:=Oc a1;obtain⟨hb,ma⟩:=kI aJ;obtain⟨j5,ali⟩:=Ic aJ;have s1:=ai.bE.aK;have s2:=ai.OA;have ir:=h.ends;have fs:=h.init;have akY:=ir.le;have IB:=fs.le;have gJ:=AP aJ;have eA:c.co.length=t.aO.length:=((r6 t c).1 ky).2.1;obtain⟨vs,iA,gO,abw⟩:=ai.co;have al8:=iA.le;refine bZ func9 ntmps9 ?_;refine b7 λaQ=>?_;refine b7 λfy=>?_;refine aq (bp (λI hw=>yf cI b8 c I (h.now hw) (ai.now hw)) ?_);rintro v bx bc rfl cu;rw[a1];refine a8 (λh1=>?_) λh1=>?_
 ·exfalso;simp[cd]at h1
 clear h1;refine U ?_;refine aq (bp (λI hw=>XX cI b8 c I (h.now hw) (ai.now hw) a1) ?_);rintro Vp ck bY ax eZ;have yY:aZ (Fr ck) bY a7 1 Vp (x1 t c):=ax;have ama:=yY.aK;have al9:=ajz t c;refine cA (Mem [(bY,Fr ck),(w,al)] [.box fy [cI,b8] 53,.box aQ [ak,ah,aI,bv,aG,aR,ad,aT,bj] 41]) (λ_ h=>h.uu) (U ?_);refine aq (gC a7 b9.oE _ _ _ _ (ab:=λv24 abj=>U ?_));refine bX (λi:Nat=>i<=t.ends.length) (λi=>[(28,true,.int .i64 i),(27,true,.int .i64 t.ends.length),(26,true,bj),(8,true,v24),(7,true,Vp),(3,true,av fy),(2,true,av aQ)]) (λi=>Mem [(bY,Fr ck),(w,al)] [.own v24 3 1 a7 (pF t.ends.length (qI t c) i),.box fy [cI,b8] 53,.box aQ [ak,ah,aI,bv,aG,aR,ad,aT,bj] 41]) (λi=>t.ends.length-i) 0 (aoD _) ?_ ⟨rfl,rfl,rfl,rfl,rfl,rfl,rfl,trivial⟩ (λ_ h=>by rw[Pl];exact h)
 intro i hi;refine a8 (λh2=>?_) λh2=>?_
 ·have bq:i<t.ends.length:=by rw[an]at h2;omega
  have yG:=Pk t.ends.length (qI t c) i;have Fj:i<(pF t.ends.length (qI t c) i).length:=by omega
  have AA:=Yl aJ bq;have wg:∀x,x=qI t c i->(pF t.ends.length (qI t c) i).set i x=pF t.ends.length (qI t c) (i+1):=λx hx=>EO bq hx;generalize pF t.ends.length (qI t c) i=BS at *;refine U ?_;refine cH λeQ=>?_;refine bN 0 ?_;refine bC (λh3=>?_) λh3=>?_
  ·rw[an]at h3;refine U ?_;refine aq (fq 1 rfl _ (ab:=U ?_));refine bm (i+1) (by omega) (by omega) (hA:=λ_ h=>?_);rw[<-wg (t.ends.getD i default).n (by unfold qI;rw[aou h3])];exact h.tail
  rw[au]at h3;refine a8 (λaA=>?_) λaA=>?_
  ·rw[an]at aA;have bd:0<=(t.ends.getD i default).n/\(t.ends.getD i default).n<t.J.length:=by omega
   have abv:=Vk (t:=t) (c:=c) (i:=(t.ends.getD i default).n.toNat) (by omega);have cu:(t.ends.getD i default).n<(x1 t c).length:=by omega
   refine U ?_;rw[abv];refine U ?_;refine aq (fq 1 rfl _ (ab:=U ?_));refine bm (i+1) (by omega) (by omega) (hA:=λ_ h=>?_);rw[<-wg (nn t c (t.ends.getD i default).n.toNat) (by unfold qI;rw[aot h3,aou aA])];exact h.tail
  rw[au]at aA;have mB:(t.ends.getD i default).kind=3/\0<=(t.ends.getD i default).n/\(t.ends.getD i default).n<t.aO.length:=by omega
  have alC:(t.ends.getD i default).n<t.init.length:=by omega
  have alD:(t.ends.getD i default).n<vs.length:=by omega
  have hx:=abw (t.ends.getD i default).n.toNat (by omega);have hxs:=hx.aK;have sr:=XO ky (k:=(t.ends.getD i default).n.toNat) (by omega);have jV:(c.co.getD (t.ends.getD i default).n.toNat default).length<=64:=by rw[sr.length_eq];exact ao5 (zF _ _ _) hb
  have P0:qI t c i=if(c.co.getD (t.ends.getD i default).n.toNat default).length=0 then t.init.getD (t.ends.getD i default).n.toNat default else nn t c ((c.co.getD (t.ends.getD i default).n.toNat default).getD ((c.co.getD (t.ends.getD i default).n.toNat default).length-1) default).toNat:=by unfold qI;rw[aot h3,aot aA]
  have hmem:∀y,y∈c.co.getD (t.ends.getD i default).n.toNat default->0<=y/\y<t.J.length:=λy aY=>by obtain⟨j,ae,e,_⟩:=VB.1 (sr.mem_iff.1 aY);omega
  have aaX:∀y,(BS.set i y).length=BS.length:=λy=>aoU;refine a8 (λa6=>?_) λa6=>?_
  ·refine U ?_;refine aq (fq 1 rfl _ (ab:=?_));have aln:i<(BS.set i (t.init.getD (t.ends.getD i default).n.toNat default)).length:=by rw[aaX];exact Fj
   refine U ?_;generalize aL:c.co.getD (t.ends.getD i default).n.toNat default=l at *;refine bC (λcE=>?_) λcE=>?_
   ·rw[an]at cE;obtain⟨m,hm⟩:∃m,l.length=m+1:=⟨l.length-1,by omega⟩;have aY:=hmem (l.getD m default) (by rw[aor,aov (show m<l.length by omega)];exact apC _);have bu:((l.length:Int)-1).toNat=m:=by omega
    have amd:l.getD m default<(x1 t c).length:=by omega
    have abC:=Vk (t:=t) (c:=c) (i:=(l.getD m default).toNat) (by omega);refine U ?_;rw[bu];refine U ?_;rw[abC];refine U ?_;refine aq (fq 1 rfl _ (ab:=U ?_));refine bm (i+1) (by omega) (by omega) (hA:=λ_ h=>?_);rw[<-wg (nn t c (l.getD m default).toNat) (by rw[P0,aot (by omega),hm];rfl)];have cm:=h.tail;simp only[List.set_cons_succ,List.set_cons_zero,List.set_set]at cm;exact cm
   rw[au]at cE;refine U ?_;refine bm (i+1) (by omega) (by omega) (hA:=λ_ h=>?_);rw[<-wg (t.init.getD (t.ends.getD i default).n.toNat default) (by rw[P0,aou (by omega)])];exact h.tail
  rw[au]at a6;omega
 obtain rfl:i=t.ends.length:=by rw[au]at h2;omega
 refine U ?_;refine bT rfl (.tmp rfl (.t1 rfl)) λI hw=>?_;have:=hw.im aP dg;rw[Pj]at this;exact⟨_,rfl,this⟩
end Go.Proofs.bA
