/- Lemmas for the law WholeComplete. -/
import Derived.Test.YtiknadellddjhaaGreatDoorC22
import Derived.Test.YtiknadellddjhaaGreatDoorC24
set_option linter.all false
open Go.Proofs.Tryz
set_option maxHeartbeats 6400000
open Go Go.b9 Go.bM Go.gG Go.fo
attribute [local irreducible] Go.wpList Go.Code.wp Go.bodyPost Go.Exit.then Go.Exit.inBlock Go.Calls
namespace Go.Proofs.bA
structure kg(t:aV)(buf:Bool)(m:cD)(log:List Nat)(b:Nat->List Nat):Prop where
 M:kL t m log b
 lF:buf=false->(∀k,k<t.code.length->b k=[])/\∀p q a,log=p++a::q->∀e,e<(ar t).J.length->eT (ar t) e a=true->e∈p
theorem wB{t:aV}{m:cD}{x:lI}:x∈c8 t m↔∃k,k<t.code.length/\((x=⟨1,(k:Int)⟩/\k9 t m k=true)\/(x=⟨2,(k:Int)⟩/\¬m.cW.getD k default=[])):=by
 unfold c8 pn;rw[api];constructor
 ·rintro⟨k,hk,hx⟩;rw[aoQ]at hk;unfold uZ at hx;refine⟨k,hk,?_⟩;rcases aoG.1 hx with q | q
  ·split at q
   ·rename_i ai;rw[aoB]at q;exact .inl ⟨q,ai⟩
   cases q
  split at q
  ·cases q
  rename_i ai;rw[aoB]at q;exact .inr ⟨q,λe=>ai (by rw[e];rfl)⟩
 rintro⟨k,hk,hx⟩;refine⟨k,aoQ.2 hk,?_⟩;unfold uZ;rw[aoG];rcases hx with⟨rfl,ai⟩ | ⟨rfl,ai⟩
 ·left;rw[aou ai];exact aoB.2 rfl
 right;rw[aot (by rw[List.isEmpty_iff];exact ai)];exact aoB.2 rfl
section
variable {t:aV} (h:dI t=0) {buf:Bool} {m:cD} {log:List Nat} {b:Nat->List Nat} (R:kg t buf m log b)
include h R
theorem kg.Ud{k e:Nat}(hk:k<t.code.length)(eR:e<(ar t).J.length)(dB:(bF (ar t) e).aH=(k:Int))(aaD:∀a,a<(ar t).J.length->(bF (ar t) a).aH=(k:Int)->m.done.getD a default=decide (a<e))(hc:buf=false): ∀p q a,log++[e]=p++a::q->∀x,x<(ar t).J.length->eT (ar t) x a=true->x∈p:=by
 have j8:=kr h;refine Ld (R.lF hc).2 λa ay hp=>?_;rw[rL j8 ay eR,aoo,aop]at hp;unfold fo.jn at hp;rw[aop,dB]at hp;have lM:m.done.getD a default=true:=by rw[aaD a ay hp.2];exact aow hp.1
 rcases pt j8 ay with hd | hd
 ·exact R.M.ph a ay lM hd
 refine ao0 λeD=>?_;have:=(R.M.jO k hk a).2 ⟨ay,hp.2,hd,lM,eD⟩;rw[(R.lF hc).1 k hk]at this;cases this
theorem kg.step{k:Nat}(hk:k<t.code.length)(ai:k9 t m k=true): (∃e,zR t m (eU t (ar t) buf m k) k e/\((bF (ar t) e).dir=1\/buf=false)/\kg t buf (eU t (ar t) buf m k) (log++[e]) b)\/ (∃e,zR t m (eU t (ar t) buf m k) k e/\(bF (ar t) e).dir=2/\buf=true/\kg t buf (eU t (ar t) buf m k) log (vg b k (b k++[e])))\/ ((eU t (ar t) buf m k).done=m.done/\(∃x,(eU t (ar t) buf m k).aw=m.aw.set k x/\(m.aw.getD k default).at'<x.at'/\x.at'<=(cr t k).length)/\kg t buf (eU t (ar t) buf m k) log b):=by
 have M:=R.M;obtain⟨s,T⟩:=M.aw k hk;have dR:(m.aw.getD k default).at'<(cr t k).length:=by unfold k9 at ai;rw[aoo,aop]at ai;exact ai.1
 rcases cS:(stepT t k (m.aw.getD k default)).2 with _ | ⟨loc,r⟩ | ⟨loc,v⟩ | f
 ·obtain⟨g1,g2,g3⟩:=UH h buf M hk T ai (.inl cS);exact .inr (.inr ⟨g1,g2,g3,R.lF⟩)
 ·obtain⟨g1,g2,g3⟩:=aiu h buf M hk T dR cS;exact .inl ⟨_,g1,.inl g2,g3,λhc=>⟨(R.lF hc).1,R.Ud h hk g1.kP g1.bI g1.Bc hc⟩⟩
 ·obtain⟨g1,g2,g3,g4⟩:=aiv h M hk T dR cS;cases buf with
  | true=>exact .inr (.inl ⟨_,g1,g2,rfl,g3,λq=>(by cases q)⟩)
  | false=>
   have Ct:=(R.lF rfl).1 k hk;have tv:m.cW.getD k default=[]:=by rw[M.buf k hk,Ct];rfl
   have lp:=g4 _ rfl tv;have iu:vg b k (b k++[fst t k+s.J.length]) k=(fst t k+s.J.length)::[]:=by rw[vh,Ct];rfl
   obtain⟨_,_,_,_,_,f1,f2,f3,f4⟩:=Pt h g3 hk iu;have pa:vg (vg b k (b k++[fst t k+s.J.length])) k []=b:=funext λj=>by
    by_cases q:j=k
    ·rw[q,vh,Ct]
    rw[vi _ _ q,vi _ _ q]
   rw[pa]at f4;refine .inl ⟨fst t k+s.J.length,⟨g1.kP,g1.bI,g1.Bc,?_,?_⟩,.inr rfl,?_,λhc=>⟨(R.lF hc).1,R.Ud h hk g1.kP g1.bI g1.Bc hc⟩⟩
   ·rw[lp];show(kk _ k).done=_;rw[f1];exact g1.dD
   ·rw[lp];obtain⟨x,cB,bz⟩:=g1.up;refine⟨x,?_,bz⟩;show(kk _ k).aw=_;rw[f2];exact cB
   rw[lp];exact{lH:=f4.lH,mV:=M.mV,o5:=f4.o5,rfl':=f4.rfl',o3:=f4.o3,nL:=f4.nL,qh:=f4.qh,aw:=λj ae=>(f4.aw j ae).imp λxZ r3=>⟨r3.rd,r3.tm,r3.done,r3.bars⟩,buf:=M.buf,jO:=f4.jO,pC:=f4.pC,oP:=f4.oP,mi:=f4.mi,ph:=f4.ph,pre:=f4.pre,co:=f4.co,last:=f4.last,mem:=f4.mem,rd:=f4.rd,sO:=f4.sO}
 obtain⟨g1,g2,g3⟩:=UH h buf M hk T ai (.inr ⟨f,cS⟩);exact .inr (.inr ⟨g1,g2,g3,R.lF⟩)
theorem kg.flush{k e:Nat}{r:List Nat}(hk:k<t.code.length)(hb:b k=e::r): e<(ar t).J.length/\(bF (ar t) e).aH=(k:Int)/\(bF (ar t) e).dir=2/\m.done.getD e default=true/\e∉log/\(kk m k).done=m.done/\(kk m k).aw=m.aw/\kg t buf (kk m k) (log++[e]) (vg b k r):=by obtain⟨f1,f2,f3,f4,f5,f6,f7,_,f8⟩:=Pt h R.M hk hb;refine⟨f1,f2,f3,f4,f5,f6,f7,f8,λhc=>?_⟩;rw[(R.lF hc).1 k hk]at hb;cases hb
end
def vb(f:Nat->Nat):Nat->Nat | 0=>0 | n+1=>vb f n+f n
theorem UI{f g:Nat->Nat}:∀(n:Nat),(∀k,k<n->f k<=g k)->vb f n<=vb g n
 | 0,_=>aoL _
 | n+1,h=>by have:=UI n λk hk=>h k (by omega);have:=h n (by omega);unfold vb;omega
theorem UJ{f g:Nat->Nat}{i:Nat}(hi:f i<g i):∀(n:Nat),(∀k,k<n->f k<=g k)->i<n->vb f n<vb g n
 | 0,_,h=>absurd h (apw _)
 | n+1,h,gY=>by
  unfold vb;have h1:=h n (by omega);by_cases q:i=n
  ·subst q;have:=UI i λk hk=>h k (by omega);omega
  have:=UJ hi n (λk hk=>h k (by omega)) (by omega);omega
theorem UK{f:Nat->Nat}{c:Nat}:∀(n:Nat),(∀k,k<n->f k<=c)->vb f n<=n* c
 | 0,_=>aoD _
 | n+1,h=>by have:=UK n λk hk=>h k (by omega);have:=h n (by omega);unfold vb;rw[Nat.succ_mul];omega
def AT(t:aV)(m:cD):Nat:=vb (λk=>(cr t k).length-(m.aw.getD k default).at') t.code.length
def sH(t:aV)(m:cD)(log:List Nat):Nat:=AT t m+((ar t).J.length-log.length)
theorem F2{t:aV}{m m':cD}{k:Nat}{x:hJ}(hk:k<t.code.length)(aL:m.aw.length=t.code.length)(h1:m'.aw=m.aw.set k x)(h2:(m.aw.getD k default).at'<x.at')(h3:(m.aw.getD k default).at'<(cr t k).length):AT t m'<AT t m:=by
 unfold AT;have ae:∀j,m'.aw.getD j default=if k=j then x else m.aw.getD j default:=λj=>by
  rw[h1,fU,aL];by_cases q:k=j
  ·subst q;rw[aou ⟨rfl,hk⟩,aou rfl]
  rw[aot λg=>q g.1,aot q]
 refine UJ (i:=k) ?_ _ (λj _=>?_) hk
 ·rw[ae,aou rfl];omega
 rw[ae];split
 ·rename_i q;subst q;omega
 exact aoL _
theorem KW{n:Nat}{l:List Nat}(bd:l.Nodup)(aL:∀x,x∈l->x<n):l.length<=n:=by
 have hp:l.Perm ((List.range n).filter λx=>decide (x∈l)):=(aqJ bd (apL _ aqd)).2 λx=>by rw[apd,aoQ,aop];exact⟨λq=>⟨aL x q,q⟩,λq=>q.2⟩
 have h1:=hp.length_eq;have h2:=apr (λx=>decide (x∈l)) (List.range n);rw[aqC]at h2;omega
section
variable {t:aV} (h:dI t=0) {buf:Bool} {m:cD} {log:List Nat} {b:Nat->List Nat} (R:kg t buf m log b)
include h R
theorem kg.move{x:lI}(hx:x∈c8 t m):∃F7 kO,kg t buf (hK t (ar t) buf m x) F7 kO/\sH t (hK t (ar t) buf m x) F7<sH t m log:=by
 have M:=R.M;have AD:=KW M.oP λe he=>(M.mi e he).1;have wh:∀e,e<(ar t).J.length->e∉log->log.length<(ar t).J.length:=λe he eD=>by
  have:=KW (n:=(ar t).J.length) (l:=e::log) (List.nodup_cons.2 ⟨eD,M.oP⟩) λx hx=>by
   rcases aoO.1 hx with q | q
   ·rw[q];exact he
   exact(M.mi x q).1
  rw[aoN]at this;omega
 obtain⟨k,hk,q | q⟩:=wB.1 hx
 ·obtain⟨rfl,ai⟩:=q;have dR:(m.aw.getD k default).at'<(cr t k).length:=by unfold k9 at ai;rw[aoo,aop]at ai;exact ai.1
  have mD:hK t (ar t) buf m ⟨1,(k:Int)⟩=eU t (ar t) buf m k:=by unfold hK;rw[aou rfl,aoF]
  rw[mD];rcases R.step h hk ai with⟨e,g1,_,g3⟩ | ⟨e,g1,_,_,g3⟩ | ⟨_,⟨x,g1,g2,_⟩,g3⟩
  ·obtain⟨x,cB,bz⟩:=g1.up;have:=F2 hk M.lH cB (by omega) dR;refine⟨_,_,g3,?_⟩;unfold sH;rw[aoy,aps];omega
  ·obtain⟨x,cB,bz⟩:=g1.up;have:=F2 hk M.lH cB (by omega) dR;refine⟨_,_,g3,?_⟩;unfold sH;omega
  have:=F2 hk M.lH g1 g2 dR;refine⟨_,_,g3,?_⟩;unfold sH;omega
 obtain⟨rfl,hb⟩:=q;have mD:hK t (ar t) buf m ⟨2,(k:Int)⟩=kk m k:=by unfold hK;rw[aot (by simp),aoF]
 rw[mD];rw[M.buf k hk]at hb;obtain⟨e,r,iu⟩:∃e r,b k=e::r:=by
  cases q:b k with
  | nil=>rw[q]at hb;exact absurd rfl hb
  | cons e r=>exact⟨e,r,rfl⟩
 obtain⟨f1,_,_,_,f5,_,f7,f8⟩:=R.flush h hk iu;refine⟨_,_,f8,?_⟩;have:=wh e f1 f5;unfold sH AT;rw[f7,aoy,aps];omega
theorem kg.over(hx:c8 t m=[]):(∀k,k<t.code.length->b k=[])/\(∀k,k<t.code.length->ui t m (b k) k (hD t k))/\r0 (ar t).J.length log/\∀e,e<(ar t).J.length->m.done.getD e default=true:=by
 have M:=R.M;have eD:∀x,x∉c8 t m:=λx q=>by rw[hx]at q;cases q
 have rz:∀k,k<t.code.length->m.cW.getD k default=[]:=λk hk=>ao0 λq=>eD ⟨2,(k:Int)⟩ (wB.2 ⟨k,hk,.inr ⟨rfl,q⟩⟩);have hb:∀k,k<t.code.length->b k=[]:=λk hk=>by have:=rz k hk;rw[M.buf k hk]at this;exact List.map_eq_nil_iff.1 this
 have bL:∀k,k<t.code.length->ui t m (b k) k (hD t k):=λk hk=>by
  obtain⟨s,T⟩:=M.aw k hk;obtain⟨C,h0,_⟩:=qt h hk;obtain⟨c5,kE⟩:=(ns h hk).1;have ai:¬k9 t m k=true:=λq=>eD ⟨1,(k:Int)⟩ (wB.2 ⟨k,hk,.inl ⟨rfl,q⟩⟩);have dR:(cr t k).length<=(m.aw.getD k default).at':=by refine Nat.not_lt.1 λq=>ai ?_;unfold k9 sU;dsimp only;rw[aow q,rz k hk];rfl
  have:=Tv C h0 kE T.rd dR;rw[<-this];exact T
 have hd:∀e,e<(ar t).J.length->m.done.getD e default=true:=λe he=>by obtain⟨k,i,hk,hi,rfl⟩:=BH h he;rw[(bL k hk).done i hi];exact aow hi
 have bG:∀e,e<(ar t).J.length->e∈log:=λe he=>by
  obtain⟨k,i,hk,hi,rfl⟩:=BH h he;have dB:=wR h hk hi;rcases pt (kr h) he with q | q
  ·exact M.ph _ he (hd _ he) q
  refine ao0 λeD=>?_;have:=(M.jO k hk _).2 ⟨he,dB,q,hd _ he,eD⟩;rw[hb k hk]at this;cases this
 refine⟨hb,bL,⟨M.oP,λe he=>(M.mi e he).1,?_⟩,hd⟩;have hp:log.Perm (List.range (ar t).J.length):=(aqJ M.oP aqd).2 λx=>⟨λq=>aoQ.2 (M.mi x q).1,λq=>bG x (aoQ.1 q)⟩;have:=hp.length_eq;rwa[aqC]at this
end
section
variable {t:aV} (h:dI t=0)
include h
theorem TM(buf:Bool):kg t buf (iY t (ar t)) [] λ_=>[]:=⟨adC h,λ_=>⟨λ_ _=>rfl,λp q a e=>absurd e (by simp)⟩⟩
theorem aeO:sH t (iY t (ar t)) []<=4160:=by
 have G:=kS h;have h1:AT t (iY t (ar t))<=t.code.length* 256:=UK _ λk hk=>by have:=G.len _ (eN hk);show(t.code.getD k default).length-_<=256;omega
 have h2:=G.n16;have h3:=(kI (kr h)).1;have aA:t.code.length* 256<=16* 256:=apo _ h2;unfold sH;simp only[ao1];omega
theorem DJ(buf:Bool)(script:List Int):∀i,∃log b,kg t buf (runM t (ar t) buf script i) log b/\(c8 t (runM t (ar t) buf script i)=[]\/sH t (runM t (ar t) buf script i) log+i<=4160)
 | 0=>⟨[],_,TM h buf,.inr (aeO h)⟩
 | i+1=>by
  obtain⟨log,b,R,hp⟩:=DJ buf script i;unfold runM;dsimp only;by_cases q:(c8 t (runM t (ar t) buf script i)).length=0
  ·rw[aou q];exact⟨log,b,R,.inl (aoY q)⟩
  rw[aot q];have qO:wL script i (c8 t (runM t (ar t) buf script i)).length<(c8 t (runM t (ar t) buf script i)).length:=by unfold wL;show((if i<script.length then script.getD i default else 0) % ((c8 t (runM t (ar t) buf script i)).length:Int)).toNat<_;have:=Int.emod_lt_of_pos (if i<script.length then script.getD i default else 0) (show(0:Int)<((c8 t (runM t (ar t) buf script i)).length:Int) by omega);have:=Int.emod_nonneg (if i<script.length then script.getD i default else 0) (show((c8 t (runM t (ar t) buf script i)).length:Int)≠0 by omega);omega
  obtain⟨F7,kO,r2,uK⟩:=R.move h (eN qO);refine⟨F7,kO,r2,.inr ?_⟩;rcases hp with e | e
  ·rw[e]at q;exact absurd rfl q
  omega
theorem GU(buf:Bool)(script:List Int){i:Nat}(hm:¬c8 t (runM t (ar t) buf script i)=[]):i<=4160:=by obtain⟨log,b,_,hp⟩:=DJ h buf script i;have:=hp.resolve_left hm;omega
theorem L3(buf:Bool)(script:List Int){i:Nat}(hm:c8 t (runM t (ar t) buf script i)=[]):∀d,runM t (ar t) buf script (i+d)=runM t (ar t) buf script i
 | 0=>rfl
 | d+1=>by
  have bP:=L3 buf script hm d;have e:runM t (ar t) buf script ((i+d)+1)=let m:=runM t (ar t) buf script (i+d)
   if(c8 t m).length=0 then m else hK t (ar t) buf m ((c8 t m).getD (wL script (i+d) (c8 t m).length) default):=rfl
  show runM t (ar t) buf script ((i+d)+1)=_;rw[e,bP];dsimp only;rw[aou (by rw[hm];rfl)]
theorem Ym(buf:Bool)(script:List Int):c8 t (uv t (ar t) buf script)=[]:=ao0 λq=>by have:=GU h buf script q;omega
theorem LX(buf:Bool)(script:List Int){i:Nat}(hm:c8 t (runM t (ar t) buf script i)=[]):runM t (ar t) buf script i=uv t (ar t) buf script:=by
 unfold uv;rcases Nat.le_total i 8192 with q | q
 ·rw[show 8192=i+(8192-i) by omega,L3 h buf script hm]
 rw[show i=8192+(i-8192) by omega,L3 h buf script (Ym h buf script)]
theorem Yk(buf:Bool)(script:List Int):∃log b,kg t buf (uv t (ar t) buf script) log b:=by obtain⟨log,b,R,_⟩:=DJ h buf script 8192;exact⟨log,b,R⟩
end
theorem Sy{n:Nat}{o:List Nat}(h:r0 n o){a:Nat}(ay:a<n):∃p q,o=p++a::q/\fF o a=p.length/\∀x,x∈p↔x∈o/\fF o x<fF o a:=by
 obtain⟨p,q,e⟩:=List.append_of_mem (h.all ay);have hp:fF o a=p.length:=pos_at h.nodup (by rw[e,aoS (aoL _),ap0];rfl);refine⟨p,q,e,hp,λx=>?_⟩;have aJ:o.take p.length=p:=by rw[e,List.take_left]
 rw[hp,<-R7 h.nodup,aJ]
theorem Y0{α β:Type}[Inhabited α][Inhabited β]{f:α->β}{l:List α}{i:Nat}(hi:i<l.length):(l.map f).getD i default=f (l.getD i default):=by rw[aor,aor,ao4,aov hi];rfl
theorem OM{l:List Int}(h:l=[]):l6 l= -1:=by rw[h];rfl
section
variable {t:aV} (h:dI t=0) {buf:Bool} {m:cD} {log:List Nat} {b:Nat->List Nat} (R:kg t buf m log b) (hx:c8 t m=[])
include h R hx
theorem aeq{a c:Nat}(ay:a<(ar t).J.length)(ai:c<(ar t).J.length)(hp:nN (ar t) a c=true):fF log a<fF log c:=by obtain⟨p,q,e,_,hm⟩:=Sy (R.over h hx).2.2.1 ai;exact((hm a).1 (R.M.pre p q c e a ay hp)).2
theorem aep:AV (ar t) (vF m) (fF log)=true:=by
 have j8:=kr h;have M:=R.M;have O:=(R.over h hx).2.2.1;unfold AV;rw[aoo,fT,fT];constructor
 ·intro k hk;have fk:k<(ar t).aO.length:=by rw[<-M.o3];exact hk
  rw[show(vF m).co.getD k default=gq (ar t) log k from M.co k fk];unfold MK;rw[fT];intro i hi;unfold MI;rw[aoq,aoA];have:=aph.1 (Ow (t:=ar t) M.oP k) i (i+1) (by omega) (by omega) (by omega);rw[aor,aor,aov (show i<_ by omega),aov (show i+1<_ by omega)];simp only[apM];omega
 intro r aM;unfold GH;rcases(pt j8 aM).symm with hd | hd
 ·rw[hd];rfl
 rw[hd,aow (rfl:(1:Int)=1),Bool.not_true,ap6,aop];obtain⟨p,q,e,alH,hp⟩:=Sy O aM;obtain⟨df,c1,c2,HO⟩:=M.rd p q r e hd;show m.bE.getD r default=_;rw[HO];have Zi:∀x,x∈p++df->x<(ar t).J.length:=λx oc=>by
  rcases aoG.1 oc with g | g
  ·exact O.lt x ((hp x).1 g).1
  exact((c2 x).1 g).1
 have hC:∀w,w<(ar t).J.length->(tW (ar t) (fF log) r w=true↔(w:Int)∈gq (ar t) (p++df) (bF (ar t) r).loc):=λw hw=>by
  rw[AX];unfold tW sy;simp only[aoo,aox,aop];constructor
  ·rintro⟨⟨g1,g2⟩,g3⟩;refine⟨w,?_,rfl,g1,g2⟩;rw[aoG];by_cases C0:w∈p
   ·exact .inl C0
   refine .inr ((c2 w).2 ⟨hw,g1,?_,C0⟩);exact g3.resolve_left λg=>C0 ((hp w).2 ⟨O.all hw,g⟩)
  rintro⟨i,hi,gh,g1,g2⟩;obtain rfl:w=i:=by omega
  refine⟨⟨g1,g2⟩,?_⟩;rcases aoG.1 hi with g | g
  ·exact .inl ((hp w).1 g).2
  exact .inr ((c2 w).1 g).2.2.1
 have c0:(p++df).Pairwise λx y=>(bF (ar t) x).dir=2->(bF (ar t) y).dir=2->fF log x<fF log y:=by
  rw[apz];refine⟨?_,?_,λx oc y aY=>?_⟩
  ·have:=SS M.oP;rw[e,apz,<-e]at this;exact ap1 (λg _ _=>g) this.1
  ·refine apY (λ{x y} oc aY g Ci Ad=>?_) c1;obtain⟨pv,zH,D2,M1⟩:=(c2 x).1 oc;obtain⟨uc,D5,D6,VI⟩:=(c2 y).1 aY;refine aeq h R hx pv uc ?_;have abB:eT (ar t) x y=true:=by rw[rL j8 pv aM,aoo]at D2;rw[rL j8 uc aM,aoo]at D6;rw[rL j8 pv uc,aoo,aop];refine⟨g,?_⟩;have ds:=D2.2;have a2:=D6.2;unfold fo.jn at ds a2⊢;rw[aop]at ds a2⊢;omega
   unfold nN pg;rw[abB,Ad];simp
  intro Ci Ad;obtain⟨uc,D5,D6,VI⟩:=(c2 y).1 aY;have h1:=((hp x).1 oc).2;have h2:¬fF log y<fF log r:=λg=>VI ((hp y).2 ⟨O.all uc,g⟩);omega
 have cG:(gq (ar t) (p++df) (bF (ar t) r).loc).Pairwise λx y=>fF log x.toNat<fF log y.toNat:=by unfold gq ints;rw[apI];refine apY (λ{x y} oc aY g=>?_) (apL _ c0);have Ci:=(apd.1 oc).2;have Ad:=(apd.1 aY).2;unfold nQ at Ci Ad;rw[aoo,aop]at Ci Ad;rw[aoF,aoF];exact g Ci.1 Ad.1
 generalize Za:gq (ar t) (p++df) (bF (ar t) r).loc=C at hC cG;have PK:∀x,x∈C->∃w:Nat,w<(ar t).J.length/\x=(w:Int):=λx oc=>by rw[<-Za]at oc;obtain⟨i,hi,gh,_⟩:=AX.1 oc;exact⟨i,Zi i hi,gh⟩
 rcases F8 (tW (ar t) (fF log) r) (fF log) (ar t).J.length with⟨g1,g2⟩ | ⟨k,hk,g1,g2,g3⟩
 ·rw[g1];refine OM (List.eq_nil_iff_forall_not_mem.2 λx oc=>?_);obtain⟨w,hw,rfl⟩:=PK x oc;have:=g2 w hw;rw[(hC w hw).2 oc]at this;cases this
 rw[g1];have aad:=(hC k hk).1 g2;obtain⟨i,hi,gh⟩:=uX.1 aad;have dS:¬C.length=0:=by omega
 have hm:=Ia dS;obtain⟨w,hw,xm⟩:=PK _ hm;rw[xm]at hm⊢;have f1:=g3 w hw ((hC w hw).2 hm);by_cases gJ:i=C.length-1
 ·have:l6 C=(k:Int):=by unfold l6;rw[aot dS,<-gJ,gh]
  omega
 exfalso;have:=aph.1 cG i (C.length-1) (by omega) (by omega) (by omega);unfold l6 at xm;rw[aot dS]at xm;rw[aor,aov (by omega)]at gh xm;simp only[apM]at gh xm;rw[gh,xm,aoF,aoF]at this;omega
end
section
variable {t:aV} (h:dI t=0)
include h
theorem Nw{i k:Nat}(hi:i<(br t).length)(dB:((br t).getD i default).aH=(k:Int))(hk:k<t.code.length):∀n,k<n->n<=t.code.length->(k7 t n).ends.getD i default=(nC (fst t k) (hD t k).ag ((br t).getD i default)).getD ⟨0,0⟩
 | 0,q,_=>absurd q (apw _)
 | n+1,hg,bd=>by
  rw[(ns h (show n<t.code.length by omega)).2.2.2.2];unfold r9;rw[tp hi];by_cases q:n=k
  ·subst q;rw[aou dB]
  rw[aot (by omega)];exact Nw hi dB hk n (by omega) (by omega)
end
section
variable {t:aV} (h:dI t=0) {buf:Bool} {m:cD} {log:List Nat} {b:Nat->List Nat} (R:kg t buf m log b) (hx:c8 t m=[])
include h R hx
theorem aeo:wT (ar t) m=uz (ar t) (vF m):=by
 have j8:=kr h;have G:=kS h;have M:=R.M;obtain⟨Ct,bL,O,_⟩:=R.over h hx;have j5:=(Ic j8).1;have uN:(ar t).cf=br t:=by rw[vf h]
 refine Iz (by rw[YI,<-j5];simp[wT]) λi hi=>?_;have Fh:i<(ar t).cf.length:=by simpa[wT]using hi
 rw[YH (by omega)];unfold wT;rw[Y0 Fh];have yI:i<(br t).length:=by rw[<-uN];exact Fh
 have eR:(ar t).ends.getD i default=if((br t).getD i default).aH= -1 then⟨3,((dr (cc t) ((br t).getD i default).loc:Nat):Int)⟩else(k7 t t.code.length).ends.getD i default:=by rw[vf h];exact tp yI
 have hm:(br t).getD i default∈br t:=eN yI;have hok:=G.vc hm;have Zp:∀k:Nat,k<t.code.length->((br t).getD i default).aH=(k:Int)->(k7 t t.code.length).ends.getD i default=(nC (fst t k) (hD t k).ag ((br t).getD i default)).getD ⟨0,0⟩:=λk hk q=>Nw h yI q hk t.code.length hk (aoL _);rw[uN,lR h];unfold qI;generalize(br t).getD i default=x at *;by_cases dB:x.aH= -1
 ·rw[aou dB]at eR;rw[aou dB,eR];dsimp only;rw[aot (by decide),aot (by decide),aoF];have lN:x.loc∈cc t:=by unfold lG at hok;rw[aou dB,aoo]at hok;refine uY.2 ⟨?_,sB hok.2⟩;unfold ni;exact aoG.2 (.inr (ao9.2 ⟨x,hm,rfl⟩))
  have dq:dr (cc t) x.loc<(ar t).aO.length:=by rw[lR h];exact qi lN
  rw[M.mem _ dq,show(vF m).co.getD (dr (cc t) x.loc) default=gq (ar t) log (dr (cc t) x.loc:Nat)from M.co _ dq];by_cases aL:(gq (ar t) log (dr (cc t) x.loc:Nat)).length=0
  ·rw[aou aL,OM (aoY aL)];rfl
  rw[aot aL];have I3:=Ia aL;obtain⟨w,hw,xm,X6,_⟩:=AX.1 I3;have b2:(gq (ar t) log (dr (cc t) x.loc:Nat)).getD ((gq (ar t) log (dr (cc t) x.loc:Nat)).length-1) default=l6 (gq (ar t) log (dr (cc t) x.loc:Nat)):=by unfold l6;rw[aot aL]
  rw[b2,xm,aoF,agu X6];unfold rV;rw[aot (by omega),aoF]
 rw[aot dB]at eR;rw[aot dB];have dq:=G.Mq x hm;unfold lG at hok;rw[aot dB]at hok;simp only[aoo,aop]at hok;obtain⟨k,hk⟩:∃k:Nat,x.aH=(k:Int):=⟨x.aH.toNat,by omega⟩;have hg:k<t.code.length:=by omega
 have ZP:=Zp k hg hk;have QK:(nC (fst t k) (hD t k).ag x).isSome=true:=by have:=(ns h hg).2.2.2.1;unfold uw at this;rw[apt]at this;have:=this x hm;rw[hk,aow rfl,Bool.not_true,ap6]at this;exact this
 obtain⟨_,_,_,_,S,_⟩:=qt h hg;have ep:x.bo.toNat<(hD t k).ag.length:=by
  rw[S.lW];show x.bo.toNat<cn t.aC;obtain⟨⟨⟨⟨_,_⟩,cB⟩,bz⟩,_⟩:=hok;rcases G.aC with g | g
  ·rw[aou g]at bz;unfold cn;rw[aot (by omega)];omega
  rw[aot (by omega)]at bz;unfold cn;rw[aou g];omega
 have aM:=(bL k hg).tm.bo _ ep;rw[eR,ZP,show x.aH.toNat=k by omega];unfold nC at QK⊢;generalize((hD t k).ag.getD x.bo.toNat default).has=H at *;cases H with
 | num n=>unfold lE at aM;rw[aM];show n=_;unfold vN;rw[apM,aou rfl]
 | told j=>unfold lE at aM;rw[aM.1];unfold vN;rw[apM];dsimp only;rw[aot (by decide),aou rfl,aoF]
 | _=>cases QK
end
end Go.Proofs.bA
namespace Go.bM
def hM(k:Int)(loc:ByteArray)(v r f:Int):List Value:=[.int .i64 k,.string loc,.int .i64 v,.int .i64 r,.int .i64 f]
def Ck(m:Int×Value):List Value:=[.int .i64 m.1,m.2]
def OG:List Value->Int×Value | [a,b]=>(ja a,b) | _=>(0,.nilIface)
instance:eg Ck 2:=⟨λ_=>rfl,by decide⟩
structure rl(n:Nat)(ag:List eh):Prop where
 len:ag.length=n
 val:∀i,i<n->lY (ag.getD i default)=true
theorem ajx(v:eh):lY v=true↔(v.loc=bg/\eF v.n=true)\/(v.loc≠bg/\eE v.loc=true/\v.n=0):=by
 unfold lY;split
 ·rename_i h;exact⟨λq=>.inl ⟨h,q⟩,λq=>q.elim (λq=>q.2) λq=>absurd h q.1⟩
 rename_i h;rw[aoo,aop];exact⟨λq=>.inr ⟨h,q⟩,λq=>q.elim (λq=>absurd q.1 h) λq=>q.2⟩
end Go.bM
namespace Go.Proofs.bA
instance:jo prog 354 Ck OG:=⟨trivial⟩
def rm:k4->List Value
 | .no=>hM 1 bg 0 0 0
 | .rd l r=>hM 2 l 0 r 0
 | .wr l v=>hM 3 l v 0 0
 | .o7 f=>hM 4 bg 0 0 f
theorem abR(aE:Value)(ag:List eh)(a:Nat)(w:World)(aM:aZ al w dy 2 aE ag)(ay:a<256)(ok:rl 15 ag): bl prog 261 [.agg #[aE,.int .i64 a]] w λ_ v _=>v=.bool true:=by
 have hle:=aM.le;have bH:=ok.len;have s1:=aM.aK;refine bZ func261 ntmps261 ?_;refine b7 λaQ=>?_;refine bC (λh1=>?_) λ_=>?_
 ·exfalso;simp only[aox,aoq,an,au]at h1;omega
 refine U ?_;refine bX (λs:Nat=>s<=15) (λs=>[(22,true,.int .i64 s),(21,true,.int .i64 ag.length),(20,true,aE)]) (λs=>Mem [(w,al)] [.box aQ [aE,.int .i64 a] 183]) (λs=>15-s) 0 (aoD _) ?_ ⟨rfl,rfl,rfl,trivial⟩ cv
 intro j ae;refine a8 (λh2=>?_) λh2=>?_
 ·have bq:j<15:=by rw[an]at h2;omega
  have ax:=ok.val j bq;refine U ?_;refine cH λbv=>?_;refine bN 0 ?_;refine e1 (h:=ev (bb:=λ_ I hw=>Kf (ag.getD j default).n I)) (ab:=U ?_);refine e1 (h:=ev (bb:=λ_ I hw=>FT (ag.getD j default).loc I)) (ab:=U ?_);refine bC (λh3=>?_) λ_=>?_
  ·exfalso;simp only[aox,aoo,aoq,an,au]at h3;rcases(ajx _).1 ax with⟨cB,bz⟩ | ⟨cB,bz,fc⟩
   ·rw[bz]at h3;exact h3.elim (λq=>by cases q.2) λq=>q.1 cB
   rw[bz]at h3;exact h3.elim (λq=>cB q.1) λq=>q.2.elim (λq=>by cases q) λq=>q fc
  refine U ?_;exact bm (j+1) (by omega) (by omega) (hA:=iR)
 refine U ?_;exact bT rfl (.t1 rfl) λI hw=>rfl
def AQ:List (Int×Value):=[(1,.func (.func 326) #[] #[]),(2,.func (.func 327) #[] #[]),(3,.func (.func 328) #[] #[]),(4,.func (.func 329) #[] #[]),(5,.func (.func 330) #[] #[])]
theorem abX(w:World):en prog 262 [] w λ_ v es _=>aD v/\es=[.own v 354 2 Ck AQ]:=by refine hL func262 ntmps262 ?_;refine aq (eI (enc:=Ck) (dec:=OG) (ab:=λv6 nd=>U ?_));exact et rfl (.t1 rfl) _ [0] λ_ _=>⟨nd,rfl⟩
def qg(cZ:Nat)(aE:Value)(a:Int)(ag:List eh):List aB:=[.box cZ [aE,.int .i64 a] 183,.own aE 70 2 dy ag]
def zL(cZ:Nat)(aE:Value)(a:Int)(ag:List eh)(x:k4):Nat->Value->List aB->World->Prop:=λ_ v es _=>v=.tuple #[.agg (rm x).toArray,.int .i64 0]/\es=qg cZ aE a ag
theorem abS(cZ:Nat)(aE:Value)(a:Int)(ag:List eh)(i:Instr)(w:World)(hw:Mem [] (qg cZ aE a ag) w):eY prog 326 [.agg (cL i).toArray,av cZ] (qg cZ aE a ag) w (zL cZ aE a ag (.wr i.loc i.c3)):=by refine sa func326 ntmps326 hw ?_;refine b7 λbi=>?_;refine cH λh7=>?_;refine bN 0 ?_;exact eL rfl (.dv rfl aP rfl (.t1 rfl)) _ [2,3] λI hw=>⟨rfl,rfl⟩
theorem abU(cZ:Nat)(aE:Value)(a:Int)(ag:List eh)(i:Instr)(w:World)(hw:Mem [] (qg cZ aE a ag) w):eY prog 328 [.agg (cL i).toArray,av cZ] (qg cZ aE a ag) w (zL cZ aE a ag (.rd i.loc i.d)):=by refine sa func328 ntmps328 hw ?_;refine b7 λbi=>?_;refine cH λh7=>?_;refine bN 0 ?_;exact eL rfl (.dv rfl aP rfl (.t1 rfl)) _ [2,3] λI hw=>⟨rfl,rfl⟩
theorem abW(cZ:Nat)(aE:Value)(a:Int)(ag:List eh)(i:Instr)(w:World)(hw:Mem [] (qg cZ aE a ag) w):eY prog 330 [.agg (cL i).toArray,av cZ] (qg cZ aE a ag) w (zL cZ aE a ag (.o7 1)):=by refine sa func330 ntmps330 hw ?_;refine b7 λbi=>?_;refine cH λh7=>?_;refine bN 0 ?_;exact eL rfl (.dv rfl aP rfl (.t1 rfl)) _ [2,3] λI hw=>⟨rfl,rfl⟩
theorem abT(cZ:Nat)(aE:Value)(a:Int)(ag:List eh)(i:Instr)(w:World)(eo:aD aE)(ay:0<=i.a/\i.a<ag.length)(aL:(ag.getD i.a.toNat default).loc=bg)(hw:Mem [] (qg cZ aE a ag) w):eY prog 327 [.agg (cL i).toArray,av cZ] (qg cZ aE a ag) w (zL cZ aE a ag (.wr i.loc (ag.getD i.a.toNat default).n)):=by
 refine sa func327 ntmps327 hw ?_;refine b7 λbi=>?_;refine cH λh7=>?_;refine cz [0,1,2,3,4,5,6,7,8,9] mixed ?_;refine bQ ?_;refine bO _ (h:=fb ?_);intro bv;refine aF (aN ?_) iR;refine gw (h:=bK 0 (ab:=U ?_));refine bC (λh1=>?_) λ_=>?_
 ·rw[aoq,au]at h1;exact absurd aL h1
 refine U ?_;refine bN 1 ?_;exact eL rfl (.dv rfl dg rfl (.t1 rfl)) _ [3,4] λI hw=>⟨rfl,rfl⟩
theorem abV(cZ:Nat)(aE:Value)(a:Int)(ag:List eh)(i:Instr)(w:World)(eo:aD aE)(hd:0<=i.d/\i.d<ag.length)(hw:Mem [] (qg cZ aE a ag) w):eY prog 329 [.agg (cL i).toArray,av cZ] (qg cZ aE a ag) w (zL cZ aE a (ag.set i.d.toNat ⟨bg,i.c3⟩) .no):=by refine sa func329 ntmps329 hw ?_;refine b7 λbi=>?_;refine cH λh7=>?_;refine cz [0,1,2,3,4,5,6,7,8,9,10] mixed ?_;refine bQ ?_;refine gw (h:=fq 3 rfl (⟨bg,i.c3⟩:eh) (ab:=U ?_));refine bN 0 ?_;exact eL rfl (.dv rfl aP rfl (.t1 rfl)) _ [2,3] λI hw=>⟨rfl,rfl⟩
theorem abO(i:Instr)(cZ:Nat)(aE:Value)(a:Int)(l:hJ)(eo:aD aE)(bV:ri 1 i)(bH:l.ag.length=15)(h2:i.op=2->(l.ag.getD i.a.toNat default).loc=bg){j:Nat}(ae:j<5)(bn:i.op=(j:Int)+1): ∃(k:Nat) (_:aS prog k),(AQ.getD j default).2=.func (.func k) #[] #[]/\∀w,Mem [] (qg cZ aE a l.ag) w->eY prog k [.agg (cL i).toArray,av cZ] (qg cZ aE a l.ag) w (zL cZ aE a (jm i l).1.ag (jm i l).2):=by
 have hd:=bV.d;have hA:=bV.a;have aM:(cn 1:Int)=15:=rfl;obtain rfl | rfl | rfl | rfl | rfl:j=0\/j=1\/j=2\/j=3\/j=4:=by omega
 ·refine⟨_,inferInstance,rfl,λw hw=>?_⟩;unfold jm;rw[aou (show i.op=1 by omega)];exact abS cZ aE a l.ag i w hw
 ·refine⟨_,inferInstance,rfl,λw hw=>?_⟩;unfold jm;rw[aot (by omega),aou (by omega)];exact abT cZ aE a l.ag i w eo (by omega) (h2 (by omega)) hw
 ·refine⟨_,inferInstance,rfl,λw hw=>?_⟩;unfold jm;rw[aot (by omega),aot (by omega),aou (by omega)];exact abU cZ aE a l.ag i w hw
 ·refine⟨_,inferInstance,rfl,λw hw=>?_⟩;unfold jm;rw[aot (by omega),aot (by omega),aot (by omega),aou (by omega)];exact abV cZ aE a l.ag i w eo (by omega) hw
 refine⟨_,inferInstance,rfl,λw hw=>?_⟩;unfold jm;rw[aot (by omega),aot (by omega),aot (by omega),aot (by omega)];exact abW cZ aE a l.ag i w hw
theorem abQ{j:Nat}(ae:j<5):(AQ.getD j default).1=(j:Int)+1:=by
 obtain rfl | rfl | rfl | rfl | rfl:j=0\/j=1\/j=2\/j=3\/j=4:=by omega
 all_goals rfl
theorem abP{j:Nat}(ae:j<5):(AQ.getD j default).2.oneCell'=true:=by
 obtain rfl | rfl | rfl | rfl | rfl:j=0\/j=1\/j=2\/j=3\/j=4:=by omega
 all_goals rfl
theorem w7(x:k4):∃k l v r f,rm x=hM k l v r f:=by cases x<;>exact⟨_,_,_,_,_,rfl⟩
theorem ais(i:Instr)(l:hJ):(jm i l).1.at'=l.at'+1:=by
 unfold jm;repeat (split;rfl)
 rfl
def Na(x:hJ×k4):Nat->Value->List aB->World->Prop:=λ_ v es _=>∃cQ,aD cQ/\v=.tuple #[.agg #[cQ,.int .i64 x.1.at'],.agg (rm x.2).toArray,.int .i64 0]/\es=[.own cQ 70 2 dy x.1.ag]
theorem abN(i:Instr)(aE:Value)(l:hJ)(w:World)(hi:kn i=true)(ok:rl 15 l.ag)(aM:aZ al w dy 2 aE l.ag)(ay:l.at'<256)(h2:i.op=2->(l.ag.getD i.a.toNat default).loc=bg): en prog 172 [.agg (cL i).toArray,.agg #[aE,.int .i64 l.at']] w (Na (jm i l)):=by
 have s1:=aM.aK;have bH:=ok.len;have bV:=Ke hi;have mG:=bV.A8 rfl;refine hL func172 ntmps172 ?_;refine b7 λbi=>?_;refine b7 λaQ=>?_;refine cH λh7=>?_;refine cH λtb=>?_;refine aq (bp (λI hw=>Q6 i I) ?_);rintro v bx bc rfl cu;rw[aou hi];refine U ?_;refine cM rfl (λh1=>by rw[aoq,au]at h1;exact absurd rfl h1) λ_=>?_;refine U ?_;refine aq (bp (λI hw=>abR aE l.ag l.at' I (hw.now aM) ay ok) ?_);rintro v ck bY rfl eZ;refine U ?_;refine cM rfl (λh1=>by cases h1) λ_=>?_;refine U ?_;refine cA (Mem [(w,al)] [.box tb [.int .i64 0,.string ByteArray.empty,.int .i64 0,.int .i64 0,.int .i64 0] 256,.box h7 [aa,.int .i64 0] 183,.box aQ [aE,.int .i64 l.at'] 183,.box bi (cL i) 169]) cv ?_;refine ih (λz:Nat×Value=>aD z.2) (λz=>[(8,true,.pointer (some ⟨z.1,0,none⟩)),(5,true,av tb),(4,true,av h7),(2,true,av bi)]) (λz=>Mem [(w,al)] [.box z.1 [z.2,.int .i64 ((l.at':Int)+1)] 183,.own z.2 70 2 dy l.ag,.box tb [.int .i64 0,.string ByteArray.empty,.int .i64 0,.int .i64 0,.int .i64 0] 256,.box h7 [aa,.int .i64 0] 183,.box bi (cL i) 169]) ?_ ?_
 ·refine cz [0,1,3,4,5,999] mixed ?_;refine aN ?_;refine mf 2 7 ?_ ?_
  ·refine cp [6,999] _ (h:=gI (bb:=λI hw=>DM aE l.ag I (hw.now aM) (by omega)) (ab:=?_));rintro v hj es fW ⟨ax,rfl⟩;refine aF (aN ?_) λ_ h=>h.cX.tail;refine ed 7 ?_;refine cp [8] _ (h:=fb ?_);intro dx;refine aF ?_ λ_ h=>h.cX.tail.tail;refine gw (h:=bK 0 (ab:=?_));exact b6 (dx,v) ax (hA:=λ_ h=>h.cX.cC [0,1,2,3,5])
  refine cp [999] _ (h:=fb ?_);intro dx;refine aF ?_ iR;refine ed 2 ?_;refine cp [6,8] _ (h:=gI (bb:=λI hw=>DM aE l.ag I (hw.now aM) (by omega)) (ab:=?_));rintro v hj es fW ⟨ax,rfl⟩;refine aF (aN ?_) λ_ h=>h.cX.tail.tail;refine gw (h:=bK 1 (ab:=?_));exact b6 (dx,v) ax (hA:=λ_ h=>h.cX.cC [1,0,2,3,5])
 rintro⟨dx,ua⟩ CZ;dsimp only at CZ⊢;refine U ?_;refine aq (gi (λI hw=>abX I) ?_);rintro aT ia es ig ⟨alX,rfl⟩;refine U ?_;refine bX (λj:Nat=>(j:Int)<i.op) (λj=>[(34,true,.int .i64 j),(33,true,.int .i64 5),(32,true,aT),(8,true,av dx),(5,true,av tb),(4,true,av h7),(2,true,av bi)]) (λ_=>Mem [(w,al)] [.box dx [ua,.int .i64 ((l.at':Int)+1)] 183,.own ua 70 2 dy l.ag,.box tb [.int .i64 0,.string ByteArray.empty,.int .i64 0,.int .i64 0,.int .i64 0] 256,.box h7 [aa,.int .i64 0] 183,.box bi (cL i) 169,.own aT 354 2 Ck AQ]) (λj=>5-j) 0 (by omega) ?_ ⟨rfl,rfl,rfl,rfl,rfl,rfl,rfl,trivial⟩ λ_ h=>h.cX.cC [1,2,3,4,5,0]
 intro j ae;refine U ?_;refine cM rfl (λ_=>?_) (λh2=>by rw[au]at h2;omega);have Ji:j<5:=by omega
 have als:AQ.length=5:=rfl;have aaz:=abQ Ji;refine U ?_;refine cH λdc=>?_;refine aq (bK 0 (h1:=.cons rfl (.cons (abP Ji) .nil)) (ab:=U ?_));rw[aaz];refine bC (λh3=>?_) λh3=>?_
 ·rw[aoq,au]at h3;refine U ?_;exact bm (j+1) (by omega) (by omega) (hA:=iR)
 rw[aos,an]at h3;obtain⟨c5,hF,ax,bb⟩:=abO i dx ua ((l.at':Int)+1) l CZ bV (by omega) h2 Ji h3.symm;refine U ?_;rw[ax];refine cA (Mem [(w,al)] (qg dx ua ((l.at':Int)+1) l.ag++[.box tb [.int .i64 0,.string ByteArray.empty,.int .i64 0,.int .i64 0,.int .i64 0] 256,.box h7 [aa,.int .i64 0] 183])) (b4 [1,2,3,4]) ?_;refine aq (eB (es:=qg dx ua ((l.at':Int)+1) l.ag) (bb:=λI hw=>bb I hw.dt.ew) (ab:=?_));rintro r qk es qu ⟨rfl,rfl⟩;obtain⟨fi,dV,aG,fa,gm,dW⟩:=w7 (jm i l).2;rw[dW];refine U ?_;refine cH λdT=>?_;refine bN 0 ?_;refine cM rfl (λa6=>by rw[aoq,au]at a6;exact absurd rfl a6) λ_=>?_;refine U ?_;refine fw (Mem [(w,al)] [.box dT (hM fi dV aG fa gm) 256,.box dx [ua,.int .i64 ((l.at':Int)+1)] 183]) [0,1,2,3,4] mixed (b4 [0,1]) ?_;refine aN ?_;refine bO _ (h:=bK 4 (ab:=?_));refine aF (aN ?_) (b4 [0,1]);refine bO _ (h:=bK 3 (ab:=?_));refine aF (aN ?_) (b4 [0,1]);refine U ?_;refine et rfl (.dv rfl qU rfl (.dv rfl jC rfl (.t1 rfl))) _ [2] λI hw=>⟨ua,CZ,?_,rfl⟩;rw[dW,ais];rfl
end Go.Proofs.bA
