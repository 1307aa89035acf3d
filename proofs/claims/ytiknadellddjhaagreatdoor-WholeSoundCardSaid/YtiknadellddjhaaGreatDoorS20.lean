/- Lemmas for the law WholeSound. -/
import Derived.Test.YtiknadellddjhaaGreatDoorS19
set_option linter.all false
open Go Go.cc Go.bU Go.gH Go.eV
namespace Go.Proofs.bK
structure jY(t:aM)(buf:Bool)(m:cu)(log:List Nat)(b:Nat->List Nat):Prop where
 M:kt t m log b
 jV:buf=false->(∀k,k<t.code.length->b k=[])/\∀p q a,log=p++a::q->∀e,e<(al t).J.length->dK (al t) e a=true->e∈p
theorem vP{t:aM}{m:cu}{x:lf}:x∈cf t m↔∃k,k<t.code.length/\((x=⟨1,(k:Int)⟩/\kR t m k=true)\/(x=⟨2,(k:Int)⟩/\¬m.cT.getD k default=[])):=by
 unfold cf o8;rw[ana];constructor
 ·rintro⟨k,hk,hx⟩;rw[amH]at hk;unfold ux at hx;refine⟨k,hk,?_⟩;rcases amA.1 hx with q | q
  ·split at q
   ·rename_i ai;rw[amv]at q;exact .inl ⟨q,ai⟩
   cases q
  split at q
  ·cases q
  rename_i ai;rw[amv]at q;exact .inr ⟨q,λe=>ai (by rw[e];rfl)⟩
 rintro⟨k,hk,hx⟩;refine⟨k,amH.2 hk,?_⟩;unfold ux;rw[amA];rcases hx with⟨rfl,ai⟩ | ⟨rfl,ai⟩
 ·left;rw[amo ai];exact amv.2 rfl
 right;rw[amn (by rw[List.isEmpty_iff];exact ai)];exact amv.2 rfl
section
variable {t:aM} (h:du t=0) {buf:Bool} {m:cu} {log:List Nat} {b:Nat->List Nat} (R:jY t buf m log b)
include h R
theorem jY.Tf{k e:Nat}(hk:k<t.code.length)(eI:e<(al t).J.length)(dj:(bf (al t) e).aI=(k:Int))(Zo:∀a,a<(al t).J.length->(bf (al t) a).aI=(k:Int)->m.done.getD a default=decide (a<e))(gl:buf=false): ∀p q a,log++[e]=p++a::q->∀x,x<(al t).J.length->dK (al t) x a=true->x∈p:=by
 have hP:=jv h;refine Kw (R.jV gl).2 λa au hp=>?_;rw[qI hP au eI,ami,amj]at hp;unfold eV.ik at hp;rw[amj,dj]at hp;have j1:m.done.getD a default=true:=by rw[Zo a au hp.2];exact amq hp.1
 rcases mU hP au with hd | hd
 ·exact R.M.o5 a au j1 hd
 refine amT λe7=>?_;have:=(R.M.jB k hk a).2 ⟨au,hp.2,hd,j1,e7⟩;rw[(R.jV gl).1 k hk]at this;cases this
theorem jY.step{k:Nat}(hk:k<t.code.length)(ai:kR t m k=true): (∃e,y9 t m (eK t (al t) buf m k) k e/\((bf (al t) e).dir=1\/buf=false)/\jY t buf (eK t (al t) buf m k) (log++[e]) b)\/ (∃e,y9 t m (eK t (al t) buf m k) k e/\(bf (al t) e).dir=2/\buf=true/\jY t buf (eK t (al t) buf m k) log (uN b k (b k++[e])))\/ ((eK t (al t) buf m k).done=m.done/\(∃x,(eK t (al t) buf m k).av=m.av.set k x/\(m.av.getD k default).at'<x.at'/\x.at'<=(cj t k).length)/\jY t buf (eK t (al t) buf m k) log b):=by
 have M:=R.M;obtain⟨s,T⟩:=M.av k hk;have dO:(m.av.getD k default).at'<(cj t k).length:=by unfold kR at ai;rw[ami,amj]at ai;exact ai.1
 rcases c4:(stepT t k (m.av.getD k default)).2 with _ | ⟨loc,r⟩ | ⟨loc,v⟩ | f
 ·obtain⟨g1,g2,g3⟩:=TM h buf M hk T ai (.inl c4);exact .inr (.inr ⟨g1,g2,g3,R.jV⟩)
 ·obtain⟨g1,g2,g3⟩:=agJ h buf M hk T dO c4;exact .inl ⟨_,g1,.inl g2,g3,λgl=>⟨(R.jV gl).1,R.Tf h hk g1.iZ g1.bu g1.Au gl⟩⟩
 ·obtain⟨g1,g2,g3,g4⟩:=agK h M hk T dO c4;cases buf with
  | true=>exact .inr (.inl ⟨_,g1,g2,rfl,g3,λq=>(by cases q)⟩)
  | false=>
   have BQ:=(R.jV rfl).1 k hk;have tb:m.cT.getD k default=[]:=by rw[M.buf k hk,BQ];rfl
   have k0:=g4 _ rfl tb;have ib:uN b k (b k++[fst t k+s.J.length]) k=(fst t k+s.J.length)::[]:=by rw[uO,BQ];rfl
   obtain⟨_,_,_,_,_,f1,f2,f3,f4⟩:=Ov h g3 hk ib;have oU:uN (uN b k (b k++[fst t k+s.J.length])) k []=b:=funext λj=>by
    by_cases q:j=k
    ·rw[q,uO,BQ]
    rw[uP _ _ q,uP _ _ q]
   rw[oU]at f4;refine .inl ⟨fst t k+s.J.length,⟨g1.iZ,g1.bu,g1.Au,?_,?_⟩,.inr rfl,?_,λgl=>⟨(R.jV gl).1,R.Tf h hk g1.iZ g1.bu g1.Au gl⟩⟩
   ·rw[k0];show(j0 _ k).done=_;rw[f1];exact g1.dA
   ·rw[k0];obtain⟨x,cq,bn⟩:=g1.up;refine⟨x,?_,bn⟩;show(j0 _ k).av=_;rw[f2];exact cq
   rw[k0];exact{la:=f4.la,mw:=M.mw,oN:=f4.oN,rfl':=f4.rfl',nE:=f4.nE,ns:=f4.ns,p9:=f4.p9,av:=λj ad=>(f4.av j ad).imp λxp rL=>⟨rL.rd,rL.tm,rL.done,rL.bars⟩,buf:=M.buf,jB:=f4.jB,pq:=f4.pq,ow:=f4.ow,lr:=f4.lr,o5:=f4.o5,pre:=f4.pre,co:=f4.co,last:=f4.last,mem:=f4.mem,rd:=f4.rd,ru:=f4.ru}
 obtain⟨g1,g2,g3⟩:=TM h buf M hk T ai (.inr ⟨f,c4⟩);exact .inr (.inr ⟨g1,g2,g3,R.jV⟩)
theorem jY.flush{k e:Nat}{r:List Nat}(hk:k<t.code.length)(hb:b k=e::r): e<(al t).J.length/\(bf (al t) e).aI=(k:Int)/\(bf (al t) e).dir=2/\m.done.getD e default=true/\e∉log/\(j0 m k).done=m.done/\(j0 m k).av=m.av/\jY t buf (j0 m k) (log++[e]) (uN b k r):=by obtain⟨f1,f2,f3,f4,f5,f6,f7,_,f8⟩:=Ov h R.M hk hb;refine⟨f1,f2,f3,f4,f5,f6,f7,f8,λgl=>?_⟩;rw[(R.jV gl).1 k hk]at hb;cases hb
end
def uJ(f:Nat->Nat):Nat->Nat | 0=>0 | n+1=>uJ f n+f n
theorem TN{f g:Nat->Nat}:∀(n:Nat),(∀k,k<n->f k<=g k)->uJ f n<=uJ g n
 | 0,_=>amK _
 | n+1,h=>by have:=TN n λk hk=>h k (by omega);have:=h n (by omega);unfold uJ;omega
theorem TO{f g:Nat->Nat}{i:Nat}(hi:f i<g i):∀(n:Nat),(∀k,k<n->f k<=g k)->i<n->uJ f n<uJ g n
 | 0,_,h=>absurd h (anp _)
 | n+1,h,hy=>by
  unfold uJ;have h1:=h n (by omega);by_cases q:i=n
  ·subst q;have:=TN i λk hk=>h k (by omega);omega
  have:=TO hi n (λk hk=>h k (by omega)) (by omega);omega
theorem TP{f:Nat->Nat}{c:Nat}:∀(n:Nat),(∀k,k<n->f k<=c)->uJ f n<=n* c
 | 0,_=>amz _
 | n+1,h=>by have:=TP n λk hk=>h k (by omega);have:=h n (by omega);unfold uJ;rw[Nat.succ_mul];omega
def Ad(t:aM)(m:cu):Nat:=uJ (λk=>(cj t k).length-(m.av.getD k default).at') t.code.length
def sk(t:aM)(m:cu)(log:List Nat):Nat:=Ad t m+((al t).J.length-log.length)
theorem Fs{t:aM}{m m':cu}{k:Nat}{x:ht}(hk:k<t.code.length)(aB:m.av.length=t.code.length)(h1:m'.av=m.av.set k x)(h2:(m.av.getD k default).at'<x.at')(h3:(m.av.getD k default).at'<(cj t k).length):Ad t m'<Ad t m:=by
 unfold Ad;have ad:∀j,m'.av.getD j default=if k=j then x else m.av.getD j default:=λj=>by
  rw[h1,fL,aB];by_cases q:k=j
  ·subst q;rw[amo ⟨rfl,hk⟩,amo rfl]
  rw[amn λg=>q g.1,amn q]
 refine TO (i:=k) ?_ _ (λj _=>?_) hk
 ·rw[ad,amo rfl];omega
 rw[ad];split
 ·rename_i q;subst q;omega
 exact amK _
theorem Kd{n:Nat}{l:List Nat}(bh:l.Nodup)(aB:∀x,x∈l->x<n):l.length<=n:=by
 have hp:l.Perm ((List.range n).filter λx=>decide (x∈l)):=(aou bh (anC _ an7)).2 λx=>by rw[am5,amH,amj];exact⟨λq=>⟨aB x q,q⟩,λq=>q.2⟩
 have h1:=hp.length_eq;have h2:=anj (λx=>decide (x∈l)) (List.range n);rw[aoD]at h2;omega
section
variable {t:aM} (h:du t=0) {buf:Bool} {m:cu} {log:List Nat} {b:Nat->List Nat} (R:jY t buf m log b)
include h R
theorem jY.move{x:lf}(hx:x∈cf t m):∃Fx ky,jY t buf (gW t (al t) buf m x) Fx ky/\sk t (gW t (al t) buf m x) Fx<sk t m log:=by
 have M:=R.M;have zP:=Kd M.ow λe he=>(M.lr e he).1;have vA:∀e,e<(al t).J.length->e∉log->log.length<(al t).J.length:=λe he e7=>by
  have:=Kd (n:=(al t).J.length) (l:=e::log) (List.nodup_cons.2 ⟨e7,M.ow⟩) λx hx=>by
   rcases amG.1 hx with q | q
   ·rw[q];exact he
   exact(M.lr x q).1
  rw[amI]at this;omega
 obtain⟨k,hk,q | q⟩:=vP.1 hx
 ·obtain⟨rfl,ai⟩:=q;have dO:(m.av.getD k default).at'<(cj t k).length:=by unfold kR at ai;rw[ami,amj]at ai;exact ai.1
  have l9:gW t (al t) buf m ⟨1,(k:Int)⟩=eK t (al t) buf m k:=by unfold gW;rw[amo rfl,amw]
  rw[l9];rcases R.step h hk ai with⟨e,g1,_,g3⟩ | ⟨e,g1,_,_,g3⟩ | ⟨_,⟨x,g1,g2,_⟩,g3⟩
  ·obtain⟨x,cq,bn⟩:=g1.up;have:=Fs hk M.la cq (by omega) dO;refine⟨_,_,g3,?_⟩;unfold sk;rw[ams,anr];omega
  ·obtain⟨x,cq,bn⟩:=g1.up;have:=Fs hk M.la cq (by omega) dO;refine⟨_,_,g3,?_⟩;unfold sk;omega
  have:=Fs hk M.la g1 g2 dO;refine⟨_,_,g3,?_⟩;unfold sk;omega
 obtain⟨rfl,hb⟩:=q;have l9:gW t (al t) buf m ⟨2,(k:Int)⟩=j0 m k:=by unfold gW;rw[amn (by simp),amw]
 rw[l9];rw[M.buf k hk]at hb;obtain⟨e,r,ib⟩:∃e r,b k=e::r:=by
  cases q:b k with
  | nil=>rw[q]at hb;exact absurd rfl hb
  | cons e r=>exact⟨e,r,rfl⟩
 obtain⟨f1,_,_,_,f5,_,f7,f8⟩:=R.flush h hk ib;refine⟨_,_,f8,?_⟩;have:=vA e f1 f5;unfold sk Ad;rw[f7,ams,anr];omega
theorem jY.over(hx:cf t m=[]):(∀k,k<t.code.length->b k=[])/\(∀k,k<t.code.length->tN t m (b k) k (ho t k))/\rJ (al t).J.length log/\∀e,e<(al t).J.length->m.done.getD e default=true:=by
 have M:=R.M;have e7:∀x,x∉cf t m:=λx q=>by rw[hx]at q;cases q
 have q8:∀k,k<t.code.length->m.cT.getD k default=[]:=λk hk=>amT λq=>e7 ⟨2,(k:Int)⟩ (vP.2 ⟨k,hk,.inr ⟨rfl,q⟩⟩);have hb:∀k,k<t.code.length->b k=[]:=λk hk=>by have:=q8 k hk;rw[M.buf k hk]at this;exact List.map_eq_nil_iff.1 this
 have bp:∀k,k<t.code.length->tN t m (b k) k (ho t k):=λk hk=>by
  obtain⟨s,T⟩:=M.av k hk;obtain⟨C,h0,_⟩:=qj h hk;obtain⟨c3,kl⟩:=(mT h hk).1;have ai:¬kR t m k=true:=λq=>e7 ⟨1,(k:Int)⟩ (vP.2 ⟨k,hk,.inl ⟨rfl,q⟩⟩);have dO:(cj t k).length<=(m.av.getD k default).at':=by refine Nat.not_lt.1 λq=>ai ?_;unfold kR sy;dsimp only;rw[amq q,q8 k hk];rfl
  have:=Sv C h0 kl T.rd dO;rw[<-this];exact T
 have hd:∀e,e<(al t).J.length->m.done.getD e default=true:=λe he=>by obtain⟨k,i,hk,hi,rfl⟩:=A4 h he;rw[(bp k hk).done i hi];exact amq hi
 have bS:∀e,e<(al t).J.length->e∈log:=λe he=>by
  obtain⟨k,i,hk,hi,rfl⟩:=A4 h he;have dj:=wh h hk hi;rcases mU (jv h) he with q | q
  ·exact M.o5 _ he (hd _ he) q
  refine amT λe7=>?_;have:=(M.jB k hk _).2 ⟨he,dj,q,hd _ he,e7⟩;rw[hb k hk]at this;cases this
 refine⟨hb,bp,⟨M.ow,λe he=>(M.lr e he).1,?_⟩,hd⟩;have hp:log.Perm (List.range (al t).J.length):=(aou M.ow an7).2 λx=>⟨λq=>amH.2 (M.lr x q).1,λq=>bS x (amH.1 q)⟩;have:=hp.length_eq;rwa[aoD]at this
end
section
variable {t:aM} (h:du t=0)
include h
theorem SO(buf:Bool):jY t buf (iO t (al t)) [] λ_=>[]:=⟨aci h,λ_=>⟨λ_ _=>rfl,λp q a e=>absurd e (by simp)⟩⟩
theorem adu:sk t (iO t (al t)) []<=4160:=by
 have G:=kf h;have h1:Ad t (iO t (al t))<=t.code.length* 256:=TP _ λk hk=>by have:=G.len _ (er hk);show(t.code.getD k default).length-_<=256;omega
 have h2:=G.n16;have h3:=(lD (jv h)).1;have aC:t.code.length* 256<=16* 256:=anh _ h2;unfold sk;simp only[amW];omega
theorem AO(buf:Bool)(script:List Int):∀i,∃log b,jY t buf (runM t (al t) buf script i) log b/\(cf t (runM t (al t) buf script i)=[]\/sk t (runM t (al t) buf script i) log+i<=4160)
 | 0=>⟨[],_,SO h buf,.inr (adu h)⟩
 | i+1=>by
  obtain⟨log,b,R,hp⟩:=AO buf script i;unfold runM;dsimp only;by_cases q:(cf t (runM t (al t) buf script i)).length=0
  ·rw[amo q];exact⟨log,b,R,.inl (amO q)⟩
  rw[amn q];have nQ:nV script i (cf t (runM t (al t) buf script i)).length<(cf t (runM t (al t) buf script i)).length:=by unfold nV;show((if i<script.length then script.getD i default else 0) % ((cf t (runM t (al t) buf script i)).length:Int)).toNat<_;have:=aox (if i<script.length then script.getD i default else 0) (show(0:Int)<((cf t (runM t (al t) buf script i)).length:Int) by omega);have:=aoE (if i<script.length then script.getD i default else 0) (show((cf t (runM t (al t) buf script i)).length:Int)≠0 by omega);omega
  obtain⟨Fx,ky,rK,uh⟩:=R.move h (er nQ);refine⟨Fx,ky,rK,.inr ?_⟩;rcases hp with e | e
  ·rw[e]at q;exact absurd rfl q
  omega
theorem C4(buf:Bool)(script:List Int){i:Nat}(hm:¬cf t (runM t (al t) buf script i)=[]):i<=4160:=by obtain⟨log,b,_,hp⟩:=AO h buf script i;have:=hp.resolve_left hm;omega
theorem Lf(buf:Bool)(script:List Int){i:Nat}(hm:cf t (runM t (al t) buf script i)=[]):∀d,runM t (al t) buf script (i+d)=runM t (al t) buf script i
 | 0=>rfl
 | d+1=>by
  have bH:=Lf buf script hm d;have e:runM t (al t) buf script ((i+d)+1)=let m:=runM t (al t) buf script (i+d)
   if(cf t m).length=0 then m else gW t (al t) buf m ((cf t m).getD (nV script (i+d) (cf t m).length) default):=rfl
  show runM t (al t) buf script ((i+d)+1)=_;rw[e,bH];dsimp only;rw[amo (by rw[hm];rfl)]
theorem NQ(buf:Bool)(script:List Int):cf t (nH t (al t) buf script)=[]:=amT λq=>by have:=C4 h buf script q;omega
theorem Gk(buf:Bool)(script:List Int){i:Nat}(hm:cf t (runM t (al t) buf script i)=[]):runM t (al t) buf script i=nH t (al t) buf script:=by
 unfold nH;rcases Nat.le_total i 8192 with q | q
 ·rw[show 8192=i+(8192-i) by omega,Lf h buf script hm]
 rw[show i=8192+(i-8192) by omega,Lf h buf script (NQ h buf script)]
theorem NP(buf:Bool)(script:List Int):∃log b,jY t buf (nH t (al t) buf script) log b:=by obtain⟨log,b,R,_⟩:=AO h buf script 8192;exact⟨log,b,R⟩
end
theorem FU{n:Nat}{o:List Nat}(h:rJ n o){a:Nat}(au:a<n):∃p q,o=p++a::q/\e0 o a=p.length/\∀x,x∈p↔x∈o/\e0 o x<e0 o a:=by
 obtain⟨p,q,e⟩:=List.append_of_mem (h.all au);have hp:e0 o a=p.length:=pos_at h.nodup (by rw[e,amL (amK _),aoS];rfl);refine⟨p,q,e,hp,λx=>?_⟩;have aE:o.take p.length=p:=by rw[e,List.take_left]
 rw[hp,<-Ra h.nodup,aE]
theorem XL{α β:Type}[Inhabited α][Inhabited β]{f:α->β}{l:List α}{i:Nat}(hi:i<l.length):(l.map f).getD i default=f (l.getD i default):=by rw[aml,aml,amZ,amp hi];rfl
theorem NO{l:List Int}(h:l=[]):lh l= -1:=by rw[h];rfl
section
variable {t:aM} (h:du t=0) {buf:Bool} {m:cu} {log:List Nat} {b:Nat->List Nat} (R:jY t buf m log b) (hx:cf t m=[])
include h R hx
theorem RD:∀a c,a<(al t).J.length->c<(al t).J.length->e0 log a=e0 log c->a=c:=λa c au ai q=>by have O:=(R.over h hx).2.2.1;exact ads (O.all au) q (O.all ai)
theorem Kn{a c:Nat}(au:a<(al t).J.length)(ai:c<(al t).J.length)(hp:nu (al t) a c=true):e0 log a<e0 log c:=by obtain⟨p,q,e,_,hm⟩:=FU (R.over h hx).2.2.1 ai;exact((hm a).1 (R.M.pre p q c e a au hp)).2
theorem RE(gl:buf=false){a c:Nat}(au:a<(al t).J.length)(ai:c<(al t).J.length)(hp:dK (al t) a c=true):e0 log a<e0 log c:=by obtain⟨p,q,e,_,hm⟩:=FU (R.over h hx).2.2.1 ai;exact((hm a).1 ((R.jV gl).2 p q c e a au hp)).2
theorem Kl:fc (al t) (nC m)=0:=by
 have hP:=jv h;have M:=R.M;have O:=(R.over h hx).2.2.1;unfold fc;rw[amo hP,amo];rw[q2];refine⟨M.rfl',M.nE,λi hi=>?_,λk hk=>?_⟩
 ·unfold AG;rw[amr,ami,amj,amj,amj];rcases mU hP hi with hd | hd
  ·obtain⟨p,q,e,_,_⟩:=FU O hi;obtain⟨dc,_,c2,zg⟩:=M.rd p q i e hd;by_cases aB:(fP (al t) (p++dc) (bf (al t) i).loc).length=0
   ·left;show m.br.getD i default= -1;rw[zg];unfold lh;rw[amo aB]
   right;refine⟨hd,?_⟩;show m.br.getD i default∈_;obtain⟨x,o0,ex,d1,d2⟩:=yF.1 (D1 aB);rw[zg,ex];refine FD.2 ⟨x,?_,rfl,d1,d2⟩;rcases amA.1 o0 with g | g
   ·exact(M.lr x (by rw[e];exact amA.2 (.inl g))).1
   exact((c2 x).1 g).1
  exact .inl (M.ru i hi (.inl hd))
 rw[Dm,amj,show(nC m).co.getD k default=fP (al t) log k from M.co k hk];exact TB (Nw O k) (L4 _ _ _)
theorem Km:qa (al t) (nC m) (e0 log)=true:=by
 have hP:=jv h;have M:=R.M;have O:=(R.over h hx).2.2.1;unfold qa;rw[ami,fX,fX];constructor
 ·intro k hk;have fe:k<(al t).bb.length:=by rw[<-M.nE];exact hk
  rw[show(nC m).co.getD k default=fP (al t) log k from M.co k fe];unfold Dh;rw[fX];intro i hi;unfold GI;rw[amk,amu];have:=am9.1 (Nx (t:=al t) M.ow k) i (i+1) (by omega) (by omega) (by omega);rw[aml,aml,amp (show i<_ by omega),amp (show i+1<_ by omega)];simp only[anE];omega
 intro r aH;unfold CW;rcases(mU hP aH).symm with hd | hd
 ·rw[hd];rfl
 rw[hd,amq (rfl:(1:Int)=1),aoT,anU,amj];obtain⟨p,q,e,ajT,hp⟩:=FU O aH;obtain⟨dc,c1,c2,zg⟩:=M.rd p q r e hd;show m.br.getD r default=_;rw[zg];have X5:∀x,x∈p++dc->x<(al t).J.length:=λx o0=>by
  rcases amA.1 o0 with g | g
  ·exact O.lt x ((hp x).1 g).1
  exact((c2 x).1 g).1
 have hC:∀w,w<(al t).J.length->(lV (al t) (e0 log) r w=true↔(w:Int)∈fP (al t) (p++dc) (bf (al t) r).loc):=λw hw=>by
  rw[yF];unfold lV ov;simp only[ami,amr,amj];constructor
  ·rintro⟨⟨g1,g2⟩,g3⟩;refine⟨w,?_,rfl,g1,g2⟩;rw[amA];by_cases Cm:w∈p
   ·exact .inl Cm
   refine .inr ((c2 w).2 ⟨hw,g1,?_,Cm⟩);exact g3.resolve_left λg=>Cm ((hp w).2 ⟨O.all hw,g⟩)
  rintro⟨i,hi,fY,g1,g2⟩;obtain rfl:w=i:=by omega
  refine⟨⟨g1,g2⟩,?_⟩;rcases amA.1 hi with g | g
  ·exact .inl ((hp w).1 g).2
  exact .inr ((c2 w).1 g).2.2.1
 have c6:(p++dc).Pairwise λx y=>(bf (al t) x).dir=2->(bf (al t) y).dir=2->e0 log x<e0 log y:=by
  rw[ano];refine⟨?_,?_,λx o0 y aR=>?_⟩
  ·have:=RV M.ow;rw[e,ano,<-e]at this;exact anV (λg _ _=>g) this.1
  ·refine anR (λ{x y} o0 aR g BD zn=>?_) c1;obtain⟨pe,y0,Dp,L9⟩:=(c2 x).1 o0;obtain⟨tH,Ds,Dt,UK⟩:=(c2 y).1 aR;refine Kn h R hx pe tH ?_;have aam:dK (al t) x y=true:=by rw[qI hP pe aH,ami]at Dp;rw[qI hP tH aH,ami]at Dt;rw[qI hP pe tH,ami,amj];refine⟨g,?_⟩;have dG:=Dp.2;have a2:=Dt.2;unfold eV.ik at dG a2⊢;rw[amj]at dG a2⊢;omega
   unfold nu o3;rw[aam,zn];simp
  intro BD zn;obtain⟨tH,Ds,Dt,UK⟩:=(c2 y).1 aR;have h1:=((hp x).1 o0).2;have h2:¬e0 log y<e0 log r:=λg=>UK ((hp y).2 ⟨O.all tH,g⟩);omega
 have ct:(fP (al t) (p++dc) (bf (al t) r).loc).Pairwise λx y=>e0 log x.toNat<e0 log y.toNat:=by unfold fP ints;rw[anz];refine anR (λ{x y} o0 aR g=>?_) (anC _ c6);have BD:=(am5.1 o0).2;have zn:=(am5.1 aR).2;unfold n0 at BD zn;rw[ami,amj]at BD zn;rw[amw,amw];exact g BD.1 zn.1
 generalize XW:fP (al t) (p++dc) (bf (al t) r).loc=C at hC ct;have OP:∀x,x∈C->∃w:Nat,w<(al t).J.length/\x=(w:Int):=λx o0=>by rw[<-XW]at o0;obtain⟨i,hi,fY,_⟩:=yF.1 o0;exact⟨i,X5 i hi,fY⟩
 rcases CF (lV (al t) (e0 log) r) (e0 log) (al t).J.length with⟨g1,g2⟩ | ⟨k,hk,g1,g2,g3⟩
 ·rw[g1];refine NO (List.eq_nil_iff_forall_not_mem.2 λx o0=>?_);obtain⟨w,hw,rfl⟩:=OP x o0;have:=g2 w hw;rw[(hC w hw).2 o0]at this;cases this
 rw[g1];have YZ:=(hC k hk).1 g2;obtain⟨i,hi,fY⟩:=se.1 YZ;have dC:¬C.length=0:=by omega
 have hm:=D1 dC;obtain⟨w,hw,wP⟩:=OP _ hm;rw[wP]at hm⊢;have f1:=g3 w hw ((hC w hw).2 hm);by_cases gB:i=C.length-1
 ·have:lh C=(k:Int):=by unfold lh;rw[amn dC,<-gB,fY]
  omega
 exfalso;have:=am9.1 ct i (C.length-1) (by omega) (by omega) (by omega);unfold lh at wP;rw[amn dC]at wP;rw[aml,amp (by omega)]at fY wP;simp only[anE]at fY wP;rw[fY,wP,amw,amw]at this;omega
theorem RF:ml (al t) (nC m)=true:=by
 have hP:=jv h;have aY:=Kl h R hx;have aB:=Km h R hx;have hi:=RD h R hx;have fv:=abQ aY hi aB λa c au ai q=>Kn h R hx au ai (S7 hP q);unfold Lg at fv;rw[ami]at fv;unfold ml;rw[fv.1,anA];refine LP (f:=e0 log) (lD hP).1 λa c au ai q=>?_;unfold nx at q;simp only[amr]at q;rcases q with((q | q) | q) | q
 ·exact Kn h R hx au ai q
 ·exact vM aY hi aB au ai (.inl (.inl q))
 ·exact vM aY hi aB au ai (.inl (.inr q))
 exact vM aY hi aB au ai (.inr q)
theorem ac5(gl:buf=false):oB (al t) (nC m)=true:=by
 have hP:=jv h;have aY:=Kl h R hx;have aB:=Km h R hx;have hi:=RD h R hx;have ai:=RF h R hx;unfold ml at ai;rw[ami]at ai;unfold oB;rw[amo aY];refine LP (f:=e0 log) (lD hP).1 λa c au zF q=>?_;unfold pJ qq at q;simp only[amr]at q;rcases q with q | (q | q) | q
 ·exact RE h R hx gl au zF q
 ·by_cases aE:eV.ik (al t) a c=true
  ·exact RE h R hx gl au zF (SN aY ai.1 au zF q aE).1
  refine vM aY hi aB au zF (.inl (.inl ?_));unfold ke;rw[q,amP.2 aE];rfl
 ·exact vM aY hi aB au zF (.inl (.inr q))
 exact vM aY hi aB au zF (.inr q)
end
section
variable {t:aM} (h:du t=0)
include h
theorem MB{i k:Nat}(hi:i<(bk t).length)(dj:((bk t).getD i default).aI=(k:Int))(hk:k<t.code.length):∀n,k<n->n<=t.code.length->(kQ t n).ends.getD i default=(nc (fst t k) (ho t k).ah ((bk t).getD i default)).getD ⟨0,0⟩
 | 0,q,_=>absurd q (anp _)
 | n+1,gY,bh=>by
  rw[(mT h (show n<t.code.length by omega)).2.2.2.2];unfold rO;rw[s7 hi];by_cases q:n=k
  ·subst q;rw[amo dj]
  rw[amn (by omega)];exact MB hi dj hk n (by omega) (by omega)
end
section
variable {t:aM} (h:du t=0) {buf:Bool} {m:cu} {log:List Nat} {b:Nat->List Nat} (R:jY t buf m log b) (hx:cf t m=[])
include h R hx
theorem RC:ss (al t) m=tW (al t) (nC m):=by
 have hP:=jv h;have G:=kf h;have M:=R.M;obtain⟨BQ,bp,O,_⟩:=R.over h hx;have lk:=(HC hP).1;have uk:(al t).cw=bk t:=by rw[uM h]
 refine HY (by rw[Xv,<-lk];simp[ss]) λi hi=>?_;have EE:i<(al t).cw.length:=by simpa[ss]using hi
 rw[Xu (by omega)];unfold ss;rw[XL EE];have x8:i<(bk t).length:=by rw[<-uk];exact EE
 have eI:(al t).ends.getD i default=if((bk t).getD i default).aI= -1 then⟨3,((dp (b2 t) ((bk t).getD i default).loc:Nat):Int)⟩else(kQ t t.code.length).ends.getD i default:=by rw[uM h];exact s7 x8
 have hm:(bk t).getD i default∈bk t:=er x8;have hok:=G.uL hm;have Yc:∀k:Nat,k<t.code.length->((bk t).getD i default).aI=(k:Int)->(kQ t t.code.length).ends.getD i default=(nc (fst t k) (ho t k).ah ((bk t).getD i default)).getD ⟨0,0⟩:=λk hk q=>MB h x8 q hk t.code.length hk (amK _);rw[uk,lq h];unfold qw;generalize(bk t).getD i default=x at *;by_cases dj:x.aI= -1
 ·rw[amo dj]at eI;rw[amo dj,eI];dsimp only;rw[amn (by decide),amn (by decide),amw];have ni:x.loc∈b2 t:=by unfold k9 at hok;rw[amo dj,ami]at hok;refine uw.2 ⟨?_,sf hok.2⟩;unfold mM;exact amA.2 (.inr (am1.2 ⟨x,hm,rfl⟩))
  have dn:dp (b2 t) x.loc<(al t).bb.length:=by rw[lq h];exact qb ni
  rw[M.mem _ dn,show(nC m).co.getD (dp (b2 t) x.loc) default=fP (al t) log (dp (b2 t) x.loc:Nat)from M.co _ dn];by_cases aB:(fP (al t) log (dp (b2 t) x.loc:Nat)).length=0
  ·rw[amo aB,NO (amO aB)];rfl
  rw[amn aB];have Ir:=D1 aB;obtain⟨w,hw,wP,WU,_⟩:=yF.1 Ir;have cd:(fP (al t) log (dp (b2 t) x.loc:Nat)).getD ((fP (al t) log (dp (b2 t) x.loc:Nat)).length-1) default=lh (fP (al t) log (dp (b2 t) x.loc:Nat)):=by unfold lh;rw[amn aB]
  rw[cd,wP,amw,ae2 WU];unfold rD;rw[amn (by omega),amw]
 rw[amn dj]at eI;rw[amn dj];have dn:=G.Ly x hm;unfold k9 at hok;rw[amn dj]at hok;simp only[ami,amj]at hok;obtain⟨k,hk⟩:∃k:Nat,x.aI=(k:Int):=⟨x.aI.toNat,by omega⟩;have gY:k<t.code.length:=by omega
 have YB:=Yc k gY hk;have PR:(nc (fst t k) (ho t k).ah x).isSome=true:=by have:=(mT h gY).2.2.2.1;unfold tT at this;rw[ank]at this;have:=this x hm;rw[hk,amq rfl,aoT,anU]at this;exact this
 obtain⟨_,_,_,_,S,_⟩:=qj h gY;have eP:x.bq.toNat<(ho t k).ah.length:=by
  rw[S.lA];show x.bq.toNat<b3 t.az;obtain⟨⟨⟨⟨_,_⟩,cq⟩,bn⟩,_⟩:=hok;rcases G.az with g | g
  ·rw[amo g]at bn;unfold b3;rw[amn (by omega)];omega
  rw[amn (by omega)]at bn;unfold b3;rw[amo g];omega
 have aH:=(bp k gY).tm.bq _ eP;rw[eI,YB,show x.aI.toNat=k by omega];unfold nc at PR⊢;generalize((ho t k).ah.getD x.bq.toNat default).has=H at *;cases H with
 | num n=>unfold k8 at aH;rw[aH];show n=_;unfold vd;rw[anE,amo rfl]
 | told j=>unfold k8 at aH;rw[aH.1];unfold vd;rw[anE];dsimp only;rw[amn (by decide),amo rfl,amw]
 | _=>cases PR
end
inductive uZ(t:aM)(cg:a1)(buf:Bool):List Int->cu->Prop where
 | nil:uZ t cg buf [] (iO t cg)
 | snoc {out:List Int} {m:cu} {x:lf}:uZ t cg buf out m->x∈cf t m->uZ t cg buf (out++[((cf t m).idxOf x:Int)]) (gW t cg buf m x)
theorem Qu{t:aM}{cg:a1}{buf:Bool}{out:List Int}{m:cu}(L:uZ t cg buf out m):∀ext,runM t cg buf (out++ext) out.length=m:=by
 induction L with
 | nil=>intro ext;rfl
 | @snoc out m x L hx bH=>
  intro ext;rw[ams,anr,amJ];have e:runM t cg buf (out++([((cf t m).idxOf x:Int)]++ext)) (out.length+1)=let m1:=runM t cg buf (out++([((cf t m).idxOf x:Int)]++ext)) out.length
   if(cf t m1).length=0 then m1 else gW t cg buf m1 ((cf t m1).getD (nV (out++([((cf t m).idxOf x:Int)]++ext)) out.length (cf t m1).length) default):=rfl
  rw[e,bH];dsimp only;have dn:=anG hx;rw[amn (by omega)];have hp:nV (out++([((cf t m).idxOf x:Int)]++ext)) out.length (cf t m).length=(cf t m).idxOf x:=by unfold nV;rw[amo (by simp),tZ (amK _),aoS];show(((cf t m).idxOf x:Int) % ((cf t m).length:Int)).toNat=_;rw[Int.emod_eq_of_lt (by omega) (by omega)];rfl
  rw[hp,aml,amp dn];simp
theorem N4{cx:fa}(C:lG cx){db:b6}(h0:gy cx db 0){nZ:b6}{c3:Nat}:∀(n:Nat) (s:b6) (k:Nat),Rd cx db s k->iE cx n s k=.go nZ c3->∃m,nZ.J=s.J++m/\∀x,x∈m->(k:Int)<=x.place
 | 0,s,k,_,h=>by unfold iE at h;injection h with bC cd;subst bC;exact⟨[],(amB _).symm,λ_ h=>(by cases h)⟩
 | n+1,s,k,b8,h=>by
  unfold iE at h;split at h
  ·rename_i hk;split at h
   ·rename_i s' cF ay;obtain⟨m,hm,hp⟩:=TL ay;have dn:=(wj C (b8.ok C h0) hk ay).1;obtain⟨m',ki,uh⟩:=N4 C h0 n s' cF (.step b8 hk ay) h;refine⟨m++m',by rw[ki,hm,amJ],λb hb=>?_⟩;rcases amA.1 hb with q | q
    ·rw[hp b q];exact Int.le_refl _
    have:=uh b q;omega
   rename_i dC;exact absurd h (dC _ _)
  injection h with bC cd;subst bC;exact⟨[],(amB _).symm,λ_ h=>(by cases h)⟩
section
variable {t:aM} (h:du t=0)
include h
theorem Xd{k:Nat}(hk:k<t.code.length){s:b6}{p:Nat}(b8:Rd (jj t k) (fg t k) s p){i:Nat}(hi:i<(ho t k).J.length)(hle:s.J.length<=i):(p:Int)<=(bf (al t) (fst t k+i)).place:=by obtain⟨c3,aH⟩:=(mT h hk).1;obtain⟨C,h0,_⟩:=qj h hk;obtain⟨n,h1,_⟩:=AM C h0 aH b8;obtain⟨m,hm,hp⟩:=N4 C h0 n s p b8 h1;rw[(uH h hk hi).2];refine hp _ ?_;rw[hm,tZ hle];rw[hm,ams]at hi;exact er (by omega)
theorem VE{k:Nat}(hk:k<t.code.length){s:b6}{p:Nat}(b8:Rd (jj t k) (fg t k) s p){x:ny}(hx:x∈s.bars):x∈(al t).bars:=by
 obtain⟨c3,aH⟩:=(mT h hk).1;obtain⟨C,h0,_⟩:=qj h hk;obtain⟨n,h1,_⟩:=AM C h0 aH b8;obtain⟨m,hm,_⟩:=Lb C h0 n s p b8 h1;have key:∀d,k+1+d<=t.code.length->x∈(kQ t (k+1+d)).bars:=by
  intro d
  induction d with
  | zero=>intro hd;rw[Nat.add_zero,(mT h hk).2.2.1,hm];exact amA.2 (.inr (amA.2 (.inl hx)))
  | succ d bH=>intro hd;rw[show k+1+(d+1)=k+1+d+1 by omega,(mT h (by omega)).2.2.1];exact amA.2 (.inl (bH (by omega)))
 have:=key (t.code.length-(k+1)) (by omega);rw[show k+1+(t.code.length-(k+1))=t.code.length by omega]at this;rw[uM h];exact this
theorem agI{k:Nat}(hk:k<t.code.length){l:ht}(aB:l.at'<(cj t k).length)(bm:((cj t k).getD l.at' default).op=5\/((cj t k).getD l.at' default).op=13):(stepT t k l).2=.oQ (pZ ((cj t k).getD l.at' default)):=by
 have G:=kf h;have bN:=Fh G.az (G.ins _ (er hk) _ (er aB));unfold stepT;change qU t.az ((cj t k).getD l.at' default)at bN;generalize hi:(cj t k).getD l.at' default=i at *;rcases G.az with au | au
 ·have:=bN.Ap au;rw[amo au];unfold je pZ;rw[amn (by omega),amn (by omega),amn (by omega),amn (by omega),amo (by omega)]
 have:=bN.Ki au;rw[amn (by omega)];unfold lC pZ;dsimp only;rw[hi,amn (by omega),amn (by omega),amn (by omega),amn (by omega),amn (by omega),amn (by omega),amo (by omega),amn (by omega)];rfl
end
structure xx(t:aM)(buf:Bool)(o:List Nat):Prop where
 ord:rJ (al t).J.length o
 pp:∀a c,a<(al t).J.length->c<(al t).J.length->nu (al t) a c=true->e0 o a<e0 o c
 po:buf=false->∀a c,a<(al t).J.length->c<(al t).J.length->dK (al t) a c=true->e0 o a<e0 o c
def logAt(t:aM)(buf:Bool)(o:List Nat)(j e:Nat):List Nat:=if(bf (al t) e).dir=1\/buf=false then o.take (j+1)else o.take j
section
variable {t:aM} (h:du t=0) {buf:Bool} {o:List Nat} (jZ:xx t buf o) {m:cu} {b:Nat->List Nat}
include h jZ
theorem xx.at{j e:Nat}(he:o[j]?=some e):e<(al t).J.length/\e0 o e=j/\o.take (j+1)=o.take j++[e]/\∀x,x∈o.take j↔x∈o/\e0 o x<j:=⟨jZ.ord.lt e (amF he),pos_at jZ.ord.nodup he,by rw[List.take_succ,he];rfl,λ_=>Ra jZ.ord.nodup⟩
theorem ahG{j e k:Nat}(he:o[j]?=some e)(hk:k<t.code.length)(dj:(bf (al t) e).aI=(k:Int))(R:jY t buf m (o.take j) b)(mB:m.done.getD e default=false): kR t m k=true/\∃ky,jY t buf (eK t (al t) buf m k) (if(eK t (al t) buf m k).done.getD e default=true then logAt t buf o j e else o.take j) ky:=by
 have hP:=jv h;obtain⟨eI,B8,gu,hmem⟩:=jZ.at h he;have M:=R.M;obtain⟨s,T⟩:=M.av k hk;obtain⟨C,h0,_⟩:=qj h hk;obtain⟨c3,kl⟩:=(mT h hk).1;obtain⟨i,hi,rfl⟩:=Fe h hk eI dj;have PQ:s.J.length<=i:=by have:=T.done i hi;rw[mB]at this;have:=of_decide_eq_false this.symm;omega
 have dO:(m.av.getD k default).at'<(cj t k).length:=by refine Nat.not_le.1 λq=>?_;have:=Sv C h0 kl T.rd q;rw[this]at PQ;omega
 have Pt:∀a,a<(al t).J.length->(bf (al t) a).aI=(k:Int)->a<fst t k+i->dK (al t) a (fst t k+i)=true:=λa au aE q=>by rw[qI hP au eI,amq q];unfold eV.ik;rw[aE,dj,amq rfl];rfl
 have ai:kR t m k=true:=by
  unfold kR;rw[amq dO,anA,amk,amP];intro hw;unfold sy at hw;dsimp only at hw;rw[ami,ami,amk,M.buf k hk]at hw;obtain⟨⟨a6,bX⟩,gb⟩:=hw;rw[amr,amj,amj]at bX;obtain⟨w,r,hb⟩:∃w r,b k=w::r:=by
   cases q:b k with
   | nil=>rw[q]at a6;cases a6
   | cons e r=>exact⟨e,r,rfl⟩
  obtain⟨pe,y0,Dp,L9,Dq⟩:=(M.jB k hk w).1 (by rw[hb];exact .head _);have ct:=AU (kf h) hk kl T.rd T.tm dO;unfold pk at ct;rw[agI h hk dO bX]at ct;obtain⟨g1,_,_,s',g3,g4,g5,_⟩:=ct;have Ev:=VE h hk g3 (x:=⟨(k:Int),((m.av.getD k default).at':Int),pZ ((cj t k).getD (m.av.getD k default).at' default)⟩) (by rw[g5];exact amA.2 (.inr (amv.2 rfl)));have ajF:=Xd h hk g3 hi (by rw[g4];exact PQ);have aah:=L9;rw[Db h hk T pe y0,amj]at aah;obtain⟨Qa,YU,rfl⟩:=Fe h hk pe y0;have Cm:(bf (al t) (fst t k+Qa)).place<(m.av.getD k default).at':=by rw[(uH h hk YU).2];obtain⟨acp,j2⟩:=KN h hk T.rd;rw[j2,kA (by omega)];exact((T.rd.ok C h0).J _ (er (by omega))).place.2
  have qA:=Pt _ pe y0 (by omega);have Zr:nu (al t) (fst t k+Qa) (fst t k+i)=true:=by
   unfold nu;rw[qA,anA,amr];rcases mU hP eI with q | q
   ·right;unfold vi;rw[qA,anA];unfold vh;rw[anl];refine⟨_,Ev,?_⟩;unfold zd;simp only[ami,amj];refine⟨⟨⟨y0.symm,Cm⟩,by omega⟩,?_⟩;rw[Dp,q];exact gb
   left;unfold o3;rw[q];simp
  have:=jZ.pp _ _ pe eI Zr;rw[B8]at this;exact Dq ((hmem _).2 ⟨jZ.ord.all pe,this⟩)
 refine⟨ai,?_⟩;have vq:∀e',y9 t m (eK t (al t) buf m k) k e'->((bf (al t) e').dir=1\/buf=false)->e'=fst t k+i:=λe' S q=>by
  have h1:=S.Au _ eI dj;rw[mB]at h1;have h2:=of_decide_eq_false h1.symm;rcases aoV e' (fst t k+i)with g | g | g
  ·exfalso;have qA:=Pt e' S.iZ S.bu g;have dn:e0 o e'<e0 o (fst t k+i):=by
    rcases q with q | q
    ·refine jZ.pp _ _ S.iZ eI ?_;unfold nu o3;rw[qA,q];simp
    exact jZ.po q _ _ S.iZ eI qA
   rw[B8]at dn;have:=(M.lr e' ((hmem _).2 ⟨jZ.ord.all S.iZ,dn⟩)).2;rw[S.Au _ S.iZ S.bu,amy (aow _)]at this;cases this
  ·exact g
  exact absurd g h2
 have vz:∀e',e'<(al t).J.length->(m.done.set e' true).getD (fst t k+i) default=if e'=fst t k+i then true else false:=λe' gX=>by
  rw[fL,M.oN];by_cases q:e'=fst t k+i
  ·rw[amo ⟨q,eI⟩,amo q]
  rw[amn λg=>q g.1,amn q,mB]
 rcases R.step h hk ai with⟨e',S,q,rK⟩ | ⟨e',S,cq,bn,rK⟩ | ⟨g1,_,rK⟩
 ·obtain rfl:=vq e' S q;refine⟨b,?_⟩;rw[S.dA,vz _ S.iZ,amo rfl,amo rfl];unfold logAt;rw[amo q,gu];exact rK
 ·refine⟨uN b k (b k++[e']),?_⟩;rw[S.dA,vz _ S.iZ];by_cases g:e'=fst t k+i
  ·rw[amo g,amo rfl];unfold logAt;rw[amn λq=>by rw[<-g]at q;rcases q with q | q<;>simp_all];exact rK
  rw[amn g,amn (by simp)];exact rK
 refine⟨b,?_⟩;rw[g1,mB,amn (by simp)];exact rK
theorem ahE{j e:Nat}(he:o[j]?=some e)(R:jY t buf m (o.take j) b)(hd:m.done.getD e default=true):logAt t buf o j e=o.take j:=by
 have M:=R.M;obtain⟨eI,B8,_,hmem⟩:=jZ.at h he;have e7:e∉o.take j:=λq=>by have:=((hmem e).1 q).2;omega
 unfold logAt;rw[amn];rintro(q | q)
 ·exact e7 (M.o5 e eI hd q)
 obtain⟨k,i,hk,hi,rfl⟩:=A4 h eI;rcases mU (jv h) eI with g | g
 ·exact e7 (M.o5 _ eI hd g)
 have:=(M.jB k hk _).2 ⟨eI,wh h hk hi,g,hd,e7⟩;rw[(R.jV q).1 k hk]at this;cases this
theorem Xz{j e k:Nat}(he:o[j]?=some e)(hk:k<t.code.length)(dj:(bf (al t) e).aI=(k:Int))(R:jY t true m (o.take j) b)(hd:m.done.getD e default=true)(hw:(bf (al t) e).dir=2): ¬m.cT.getD k default=[]/\∃ky,jY t true (j0 m k) (o.take (j+1)) ky:=by
 have hP:=jv h;have M:=R.M;obtain⟨eI,B8,gu,hmem⟩:=jZ.at h he;have e7:e∉o.take j:=λq=>by have:=((hmem e).1 q).2;omega
 have tb:=(M.jB k hk e).2 ⟨eI,dj,hw,hd,e7⟩;obtain⟨x,r,hb⟩:∃x r,b k=x::r:=by
  cases q:b k with
  | nil=>rw[q]at tb;cases tb
  | cons e r=>exact⟨e,r,rfl⟩
 refine⟨λq=>?_,?_⟩
 ·rw[M.buf k hk,hb]at q;cases q
 obtain⟨pe,y0,Dp,L9,Dq⟩:=(M.jB k hk x).1 (by rw[hb];exact .head _);have z1:x=e:=by
  rw[hb]at tb;rcases amG.1 tb with q | q
  ·exact q.symm
  exfalso;have hh:=M.pq k hk;rw[hb,am2]at hh;have dn:=hh.1 e q;refine Dq ((hmem x).2 ⟨jZ.ord.all pe,?_⟩);rw[<-B8];refine jZ.pp _ _ pe eI ?_;unfold nu o3;rw[hw,qI hP pe eI,amq dn];unfold eV.ik;rw[y0,dj,amq rfl];simp
 subst z1;rw[gu];exact⟨_,(R.flush h hk hb).2.2.2.2.2.2.2⟩
theorem ae7(R:jY t buf m o b){x:lf}(hx:x∈cf t m):jY t buf (gW t (al t) buf m x) o b/\sk t (gW t (al t) buf m x) o<sk t m o:=by
 have M:=R.M;have wY:∀e,e<(al t).J.length->m.done.getD e default=true:=λe he=>(M.lr e (jZ.ord.all he)).2;obtain⟨k,hk,q | q⟩:=vP.1 hx
 ·obtain⟨rfl,ai⟩:=q;have dO:(m.av.getD k default).at'<(cj t k).length:=by unfold kR at ai;rw[ami,amj]at ai;exact ai.1
  have l9:gW t (al t) buf m ⟨1,(k:Int)⟩=eK t (al t) buf m k:=by unfold gW;rw[amo rfl,amw]
  rw[l9];have e7:∀e',¬y9 t m (eK t (al t) buf m k) k e':=λe' S=>by have:=wY e' S.iZ;rw[S.Au _ S.iZ S.bu,amy (aow _)]at this;cases this
  rcases R.step h hk ai with⟨e,g1,_⟩ | ⟨e,g1,_⟩ | ⟨_,⟨x,g1,g2,_⟩,g3⟩
  ·exact absurd g1 (e7 e)
  ·exact absurd g1 (e7 e)
  refine⟨g3,?_⟩;have:=Fs hk M.la g1 g2 dO;unfold sk;omega
 exfalso;obtain⟨rfl,hb⟩:=q;rw[M.buf k hk]at hb;obtain⟨e,r,ib⟩:∃e r,b k=e::r:=by
  cases q:b k with
  | nil=>rw[q]at hb;exact absurd rfl hb
  | cons e r=>exact⟨e,r,rfl⟩
 obtain⟨pe,_,_,_,Dq⟩:=(M.jB k hk e).1 (by rw[ib];exact .head _);exact Dq (jZ.ord.all pe)
end
theorem Ry{t:aM}(h:du t=0){buf:Bool}{o:List Nat}(O:rJ (al t).J.length o){c:cv}(hh:∀a d,a<(al t).J.length->d<(al t).J.length->(if buf=true then nx (al t) c a d else pJ (al t) c a d)=true->e0 o a<e0 o d):xx t buf o:=by
 refine⟨O,λa d au hd q=>hh a d au hd ?_,λgl a d au hd q=>hh a d au hd ?_⟩
 ·cases buf with
  | true=>rw[amo rfl];unfold nx;rw[q];simp
  | false=>rw[amn (by simp)];exact T9 (by unfold nx;rw[q];simp)
 rw[gl,amn (by simp)];unfold pJ;rw[q];simp
theorem MO{t:aM}(h:du t=0){buf:Bool}{o:List Nat}(O:rJ (al t).J.length o){c:cv}(aY:fc (al t) c=0)(ai:na (al t) c=true)(hh:∀a d,a<(al t).J.length->d<(al t).J.length->(if buf=true then nx (al t) c a d else pJ (al t) c a d)=true->e0 o a<e0 o d) {out:List Int} {m:cu} {b:Nat->List Nat} (L:uZ t (al t) buf out m) (R:jY t buf m o b) (hx:cf t m=[]):nH t (al t) buf out=m/\ss (al t) m=tW (al t) c:=by
 have hP:=jv h;have M:=R.M;obtain⟨_,kg⟩:=l5 aY;have zU:∀a d,a<(al t).J.length->d<(al t).J.length->nx (al t) c a d=true->e0 o a<e0 o d:=λa d au hd q=>hh a d au hd (by
  cases buf with
  | true=>rw[amo rfl];exact q
  | false=>rw[amn (by simp)];exact T9 q)
 have Zv:∀a d,a<(al t).J.length->d<(al t).J.length->xn (al t) c a d=true->e0 o a<e0 o d:=λa d au hd q=>zU a d au hd (by
  unfold xn at q;unfold nx;simp only[amr]at q⊢;rcases q with((q | q) | q) | q
  ·exact .inl (.inl (.inl (S7 hP q)))
  ·exact .inl (.inl (.inr q))
  ·exact .inl (.inr q)
  exact .inr q)
 have oX:=afK aY ai Zv;have pA:=Km h R hx;have nM:nC m=c:=by
  have bC:m.br=c.br:=by
   refine HY (by rw[M.rfl',((q2 _ c).1 kg).1]) λr aH=>?_;rw[M.rfl']at aH;rcases mU hP aH with hd | hd
   ·have rd:∀d:cv,qa (al t) d (e0 o)=true->d.br.getD r default=xd (lV (al t) (e0 o) r) (e0 o) (al t).J.length:=λd aB=>by unfold qa at aB;rw[ami,fX,fX]at aB;have:=aB.2 r aH;unfold CW at this;rw[hd,amq (rfl:(1:Int)=1),aoT,anU,amj]at this;exact this
    rw[rd c oX];exact rd (nC m) pA
   rw[M.ru r aH (.inl hd)];rcases K2 kg aH with q | ⟨q,_⟩
   ·exact q.symm
   omega
  have cd:m.co=c.co:=by refine HY (by rw[M.nE,((q2 _ c).1 kg).2.1]) λk hk=>?_;rw[M.nE]at hk;rw[M.co k hk];exact Wu aY O (λa d au hd q=>zU a d au hd (by unfold nx;rw[q];simp)) hk
  unfold nC;rw[bC,cd]
 refine⟨?_,by rw[RC h R hx,nM]⟩;have:=Qu L [];rw[amB]at this;rw[<-Gk h buf out (i:=out.length) (by rw[this];exact hx),this]
end Go.Proofs.bK
