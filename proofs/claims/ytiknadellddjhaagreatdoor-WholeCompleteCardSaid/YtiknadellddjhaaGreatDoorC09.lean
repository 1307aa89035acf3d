/- Lemmas for the law WholeComplete. -/
import Derived.Test.YtiknadellddjhaaGreatDoorC03
import Derived.Test.YtiknadellddjhaaGreatDoorC04
import Derived.Test.YtiknadellddjhaaGreatDoorC08
set_option linter.all false
open Go.Proofs.Tryz
set_option maxHeartbeats 6400000
open Go Go.b9 Go.bM
namespace Go.b9
open Go Go.RowKit
def dj(L:List aB):aB:=.gen (L.flatMap aB.cN) (Mem [] L)
theorem aet{L:List aB}{w:World}(h:Mem [] L w):(dj L).ok w:=λI aj=>by
 refine⟨λB hB=>?_,λe he=>aB.Gn (h.own e he) λk hk=>aj k (api.2 ⟨e,he,hk⟩),λe he k hk=>?_,λB hB=>?_,h.il⟩
 ·cases hB
 ·have h1:=aj k (api.2 ⟨e,he,hk⟩);have h2:=h.fC e he k hk;rcases ao6 k I.heap.size with h3 | h3
  ·exact h3
  rw[apD h3,Array.getElem?_eq_getElem h2]at h1;cases h1
 cases hB
theorem Mem.pack{bs:List dm}{L H:List aB}{w:World}(h:Mem bs (L++H) w):Mem bs (dj L::H) w:=by
 have c0:Mem [] L w:=h.dt.ew;have cN:∀k,k∈(dj L).cN->∃(a:Nat) (e:aB),L[a]?=some e/\k∈e.cN:=λk hk=>by obtain⟨e,he,hk⟩:=api.1 (show k∈L.flatMap aB.cN from hk);obtain⟨a,ay⟩:=apF he;exact⟨a,e,ay,hk⟩
 have C7:∀{a:Nat} {e:aB},L[a]?=some e->(L++H)[a]?=some e/\a<L.length:=λ{a e} ay=>by have dq:=(ao2.1 ay).1;exact⟨by rw[aoT dq];exact ay,dq⟩
 have FN:∀{j:Nat} {e:aB},H[j]?=some e->(L++H)[L.length+j]?=some e:=λ{j e} ae=>by rw[PE];exact ae
 refine⟨h.base,λe he=>?_,λe he k hk=>?_,λB hB e he k hk cG=>?_,λi j gh gr iw hi ae k hk fk=>?_⟩
 ·rcases aoO.1 he with rfl | he
  ·exact aet c0
  exact h.own e (apA _ he)
 ·rcases aoO.1 he with rfl | he
  ·obtain⟨a,e,ay,hk⟩:=cN k hk;exact h.fC e (aoK _ (aoM ay)) k hk
  exact h.fC e (apA _ he) k hk
 ·rcases aoO.1 he with rfl | he
  ·obtain⟨a,e,ay,hk⟩:=cN k hk;exact h.apart B hB e (aoK _ (aoM ay)) k hk cG
  exact h.apart B hB e (apA _ he) k hk cG
 cases i with
 | zero=>
  cases j with
  | zero=>exact iw rfl
  | succ j=>simp only[List.getElem?_cons_zero,aqj]at hi;subst hi;rw[ap4]at ae;obtain⟨a,e,ay,hk⟩:=cN k hk;exact h.il a (L.length+j) e gr (by have:=(C7 ay).2;omega) (C7 ay).1 (FN ae) k hk fk
 | succ i=>
  rw[ap4]at hi;cases j with
  | zero=>simp only[List.getElem?_cons_zero,aqj]at ae;subst ae;obtain⟨a,e,ay,fk⟩:=cN k fk;exact h.il (L.length+i) a gh e (by have:=(C7 ay).2;omega) (FN hi) (C7 ay).1 k hk fk
  | succ j=>rw[ap4]at ae;exact h.il (L.length+i) (L.length+j) gh gr (by omega) (FN hi) (FN ae) k hk fk
theorem Mem.unpack{bs:List dm}{L H:List aB}{w:World}(h:Mem bs (dj L::H) w):Mem bs (L++H) w:=by
 have h0:Mem [] L w:=h.own _ aP w λ_ _=>rfl;have cN:∀{e:aB} {k:Nat},e∈L->k∈e.cN->k∈(dj L).cN:=λ{e k} he hk=>api.2 ⟨e,he,hk⟩;have cut:∀{i:Nat} {e:aB},(L++H)[i]?=some e->(i<L.length/\L[i]?=some e)\/(L.length<=i/\H[i-L.length]?=some e):=λ{i e} hi=>by
  by_cases q:i<L.length
  ·rw[aoT q]at hi;exact .inl ⟨q,hi⟩
  rw[aoS (by omega)]at hi;exact .inr ⟨by omega,hi⟩
 refine⟨h.base,λe he=>?_,λe he k hk=>?_,λB hB e he k hk cG=>?_,λi j gh gr iw hi ae k hk fk=>?_⟩
 ·rcases aoG.1 he with he | he
  ·exact h0.own e he
  exact h.own e (.tail _ he)
 ·rcases aoG.1 he with he | he
  ·exact h0.fC e he k hk
  exact h.fC e (.tail _ he) k hk
 ·rcases aoG.1 he with he | he
  ·exact h.apart B hB _ aP k (cN he hk) cG
  exact h.apart B hB e (.tail _ he) k hk cG
 rcases cut hi with⟨cB,hi⟩ | ⟨cB,hi⟩<;>rcases cut ae with⟨bz,ae⟩ | ⟨bz,ae⟩
 ·exact h0.il i j gh gr iw hi ae k hk fk
 ·exact h.il 0 (j-L.length+1) (dj L) gr (by omega) rfl (by rw[ap4];exact ae) k (cN (aoM hi) hk) fk
 ·exact h.il 0 (i-L.length+1) (dj L) gh (by omega) rfl (by rw[ap4];exact hi) k (cN (aoM ae) fk) hk
 exact h.il (i-L.length+1) (j-L.length+1) gh gr (by omega) (by rw[ap4];exact hi) (by rw[ap4];exact ae) k hk fk
theorem Mem.H2{aX:Type}{enc:aX->List Value}{sz tt:Nat}{v:Value}{xs:List aX}{bs:List dm}{H:List aB}{w:World}[he:eg enc sz](hw:Mem bs H w)(k:Nat)(hk:H[k]?=some (.own v tt sz enc xs))(n:Nat)(bd:n<=xs.length): Mem bs (H.set k (.own (vJ n v) tt sz enc (xs.take n))) w:=by
 have bn:(aB.own v tt sz enc xs).ok w:=hw.own _ (aoM hk);have mE:(aB.own (vJ n v) tt sz enc (xs.take n)).cN=(aB.own v tt sz enc xs).cN:=by
  cases v with
  | slice a _ _=>cases a<;>rfl
  | _=>rfl
 refine hw.q9 hk rfl rfl rfl (aoL _) (λ_ _ _=>rfl) ?_ (λq ba=>?_) λq ba=>.inl (by rw[<-mE];exact ba)
 ·obtain⟨h1,h2⟩:=bn;have bH:(xs.take n).length=n:=by rw[ao3];omega
  refine⟨by rw[n2],?_⟩;rcases h2 with⟨ax,h0⟩ | ⟨g,cap,cur,ax,az,eC,h3,aA,a6,cE⟩
  ·subst ax;rw[bH];obtain rfl:n=0:=by omega
   exact .inl ⟨rfl,rfl⟩
  subst ax;rw[bH];refine .inr ⟨g,cap,cur,rfl,az,eC,by omega,aA,a6,?_⟩;rw[<-Iq xs n bd,<-cE,List.take_take,aqS (apo _ bd)]
 rw[mE]at ba;exact hw.fC _ (aoM hk) q ba
theorem Mem.pass{aX:Type}{enc:aX->List Value}{sz n m:Nat}{v:Value}{xs:List aX}{B I:World}{bs:List dm}{H:List aB}[he:eg enc sz](hw:Mem bs H I)(h:aZ (Fr n) B enc sz v xs)(hB:(B,Fr n)∈bs)(hm:m<=n):aZ (Fr m) I enc sz v xs:=h.mono (hw.base _ hB) (λk _ hk=>ao5 hm hk) λx _=>he.ne x
theorem Mem.SK{n m:Nat}{v:Value}{xss:List (List Int)}{B I:World}{bs:List dm}{H:List aB}(hw:Mem bs H I)(h:o0 (Fr n) B v xss)(hB:(B,Fr n)∈bs)(hm:m<=n):o0 (Fr m) I v xss:=by obtain⟨vs,h1,h2,h3⟩:=h;exact⟨vs,hw.pass h1 hB hm,h2,λi hi=>hw.pass (h3 i hi) hB hm⟩
theorem bl.size{P:Program}{k:FuncId}{args:List Value}{w:World}{Φ:Nat->Value->World->Prop}{m:Nat}(h:bl P k args w Φ)(hm:m<=w.heap.size):bl P k args w λn v I=>Φ n v I/\m<=n:=by unfold bl at *;refine Calls.mono h λx I cm=>?_;unfold qy at *;obtain⟨v,h1,h2,h3⟩:=cm;exact⟨v,h1,h2,h3,hm⟩
theorem Mem.uu{A B:dm}{bs:List dm}{H:List aB}{w:World}(h:Mem (A::B::bs) H w):Mem (A::bs) H w:=⟨λC hC=>h.base C (by rcases aoO.1 hC with rfl | hC;exact .head _;exact .tail _ (.tail _ hC)),h.own,h.fC,λC hC=>h.apart C (by rcases aoO.1 hC with rfl | hC;exact .head _;exact .tail _ (.tail _ hC)),h.il⟩
theorem Mem.sz{S:Nat->Prop}{B w:World}{bs:List dm}{H:List aB}(hw:Mem bs H w)(hB:(B,S)∈bs):B.heap.size<=w.heap.size:=(hw.base _ hB).size
theorem cU:aD aa:=⟨_,_,_,rfl⟩
theorem Mem.perm{bs:List dm}{H H':List aB}{w:World}(h:Mem bs H w)(hp:H.Perm H'):Mem bs H' w:=by
 have key:∀l:List aB,(∀(i j:Nat) (gh gr:aB),i≠j->l[i]?=some gh->l[j]?=some gr->∀k,k∈gh.cN->k∈gr.cN->False)↔l.Pairwise λa b=>∀k,k∈a.cN->k∈b.cN->False:=λl=>by
  rw[aph];constructor
  ·intro h i j hi ae iw k;exact h i j _ _ (by omega) (aov hi) (aov ae) k
  intro h i j gh gr iw hi ae k hk fk;obtain⟨S4,rfl⟩:=ao2.1 hi;obtain⟨S5,rfl⟩:=ao2.1 ae;rcases ao6 i j with q | q
  ·exact h i j S4 S5 q k hk fk
  exact h j i S5 S4 (by omega) k fk hk
 refine⟨h.base,λe he=>h.own e (hp.mem_iff.2 he),λe he=>h.fC e (hp.mem_iff.2 he),λB hB e he=>h.apart B hB e (hp.mem_iff.2 he),?_⟩;rw[key];exact(hp.pairwise_iff λ{a b} h k hk fk=>h k fk hk).1 ((key H).1 h.il)
theorem Mem.front{bs:List dm}{H:List aB}{w:World}(h:Mem bs H w)(k:Nat){e:aB}(hk:H[k]?=some e):Mem bs (e::H.eraseIdx k) w:=by
 obtain⟨q,rfl⟩:=ao2.1 hk;refine h.perm ?_;rw[aqq];have e:H=H.take k++H[k]::H.drop (k+1):=by rw[<-aqQ q,aqM]
 exact(List.Perm.of_eq e).trans aq4
def tS(t de:TypeId)(v:Value)(vs:List Value)(xss:List (List Int)):aB:=dj (.own v de 1 ct vs::inner t vs xss)
theorem Mem.acU{bs:List dm}{H:List aB}{I:World}{t de:TypeId}{v:Value}{vs:List Value}{xss:List (List Int)}(hw:Mem bs H I)(bn:tS t de v vs xss∈H)(aL:vs.length=xss.length):o0 al I v xss:=by have h0:Mem [] (.own v de 1 ct vs::inner t vs xss) I:=hw.own _ bn I λ_ _=>rfl;exact⟨vs,h0.dX,aL,λi hi=>h0.dX (.tail _ (Q5 t aL (by omega)))⟩
section
variable {P:Program} {N:Nat} {tm:dY} {bs:List dm} {H:List aB} {Q:Exit->Act->World->Prop} {K:Act->World->Prop}
theorem Px{aX:Type}{enc:aX->List Value}{dec:List Value->aX}{ok:aX->Prop}{d t e sz b k:Nat}{z v u:Value}{x y:Operand}{xs ys:List aX}[aJ:fD P t e][cF:dn P e sz b z][jo P e enc dec][he:eg enc sz][h1:nR enc ok] (hx:bt tm true x v:=by exact(b3 rfl)) (aY:bt tm true y u:=by exact(b3 rfl)) (hk:H[k]?=some (.own v e sz enc xs)) (h:∀w,Mem bs H w->aZ al w enc sz u ys) (a1:Nat.beq z.cells.size sz=true:=by rfl) (hok:∀y,y∈ys->ok y:=by(intros;trivial)) (bH:(xs.length+ys.length)* b<=140737488355328/\xs.length+ys.length<=9223372036854775807:=by omega) (hd:Nat.blt d N=true:=by rfl) (ab:∀dG,aD dG->cR N K ((d,true,dG)::tm) (Mem bs (H.set k (.own dG e sz enc (xs++ys))))):gz P N (.call {callee:=.builtin .append,args:=#[x,y],argTypes:=#[t,t]}) (some d) Q tm (Mem bs H) K:=
 Iw (dec:=dec) (ok:=ok) hx aY hk a1 (λw hw=>by have aj:=h w hw;obtain⟨a,n,cap,hu,bd,_,_,fQ⟩:=aj.is;subst bd;subst hu;exact⟨a,cap,rfl,M6 fQ,aj.flat⟩) hok bH hd ab
end
theorem Er(a b:ByteArray):(a.toList==b.toList)=decide (a=b):=by rw[Ai,cd]
section
variable {P:Program} {N:Nat} {tm:dY} {A:World->Prop} {c:Bool}
theorem w0{P:Program}{N:Nat}{Q pZ:Exit->Act->World->Prop}{tm:dY}{A:World->Prop}{x y:Code}{e2:Type}{id:Nat}(ee:e2->Prop)(T:e2->dY)(bV:e2->World->Prop) (h:fp P N x (Exit.inBlock id (Exit.then (mQ N ee T bV) pZ)) tm A) (aY:∀s,ee s->fp P N y Q (T s) (bV s)):fp P N x (Exit.inBlock id (Exit.then (λa w=>y.wp P Q a w) pZ)) tm A:=by
 unfold fp cR at *;intro a w aj hw;have key:∀dJ I,mQ N ee T bV dJ I->y.wp P Q dJ I:=λdJ I q=>by unfold mQ at q;obtain⟨s,iq,cy,fs⟩:=q;exact aY s iq dJ I cy fs
 refine wp_mono (h a w aj hw) λe dJ I q=>?_;cases e with
 | normal=>exact key dJ I q
 | exit tL=>
  have q':(if tL=id then mQ N ee T bV dJ I else pZ (.exit tL) dJ I):=q;show(if tL=id then y.wp P Q dJ I else pZ (.exit tL) dJ I);by_cases e:tL=id
  ·rw[aou e]at q'⊢;exact key dJ I q'
  rw[aot e]at q'⊢;exact q'
 | _=>exact q
def o2(n:Int):BitVec 32:=BitVec.ofInt 32 n
theorem wrap_i32(n:Int):IntKind.i32.wrap n=(o2 n).toInt:=by unfold o2 IntKind.wrap;rw[aq8];simp only[IntKind.bits,IntKind.signed];unfold Int.bmod;simp;omega
theorem Et(x:BitVec 32):o2 x.toInt=x:=BitVec.ofInt_toInt
theorem wM{s t:TypeId}{x:Operand}{n:Int}{k d:IntKind}[aj:jr P s (.int k)][aJ:jr P t (.int .i32)](hx:bt tm c x (.int d n):=by exact cb): bW P N (.convert s t x) tm A c (.int .i32 (o2 n).toInt):=
 by unfold bW;intro ai a w _ _ _ _ _ cy _;simp only[execOp,hx.get cy ai];refine hX ?_;rw[<-wrap_i32];simp[convert,run_underlying aj.h,run_underlying aJ.h,Conv.intToInt]
theorem DB{s t:TypeId}{x:Operand}{b:BitVec 32}[aj:jr P s (.int .i32)][aJ:jr P t (.int .i64)](hx:bt tm c x (.int .i32 b.toInt):=by exact cb): bW P N (.convert s t x) tm A c (.int .i64 b.toInt):=
 by unfold bW;intro ai a w _ _ _ _ _ cy _;simp only[execOp,hx.get cy ai];refine hX ?_;have h1:=BitVec.le_toInt b;have h2:=BitVec.toInt_lt (x:=b);have h:=y3 (n:=b.toInt) (by simp at h1 h2;omega);unfold xK at h;simp[convert,run_underlying aj.h,run_underlying aJ.h,Conv.intToInt,h]
theorem Tk{t de:TypeId}{x y:Operand}{a b:BitVec 32}(hx:bt tm c x (.int .i32 a.toInt):=by exact cb)(aY:bt tm c y (.int .i32 b.toInt):=by exact cb): bW P N (.binOp .or t x y de) tm A c (.int .i32 (a||| b).toInt):=
 oj hx aY (λw=>by simp only[binOp,Op.intBits,ne_eq,arb,aqw];show Result.ok (Value.int .i32 (IntKind.i32.wrap (((o2 a.toInt||| o2 b.toInt).toNat:Nat):Int))) w=_;rw[Et,Et,wrap_i32];unfold o2;rw[aqv,BitVec.ofNat_toNat];simp)
theorem Tn{t de:TypeId}{x y:Operand}{a b:BitVec 32}(hx:bt tm c x (.int .i32 a.toInt):=by exact cb)(aY:bt tm c y (.int .i32 b.toInt):=by exact cb): bW P N (.binOp .xor t x y de) tm A c (.int .i32 (a ^^^ b).toInt):=
 oj hx aY (λw=>by simp only[binOp,Op.intBits,ne_eq,arb,aqw];show Result.ok (Value.int .i32 (IntKind.i32.wrap (((o2 a.toInt ^^^ o2 b.toInt).toNat:Nat):Int))) w=_;rw[Et,Et,wrap_i32];unfold o2;rw[aqv,BitVec.ofNat_toNat];simp)
theorem Td{t de:TypeId}{x y:Operand}{a b:BitVec 32}(hx:bt tm c x (.int .i32 a.toInt):=by exact cb)(aY:bt tm c y (.int .i32 b.toInt):=by exact cb): bW P N (.binOp .add t x y de) tm A c (.int .i32 (a+b).toInt):=
 oj hx aY (λw=>by simp only[binOp,ne_eq,arb,aqw];show Result.ok (Value.int .i32 (IntKind.i32.wrap (a.toInt+b.toInt))) w=_;rw[wrap_i32];unfold o2;rw[BitVec.ofInt_add,BitVec.ofInt_toInt,BitVec.ofInt_toInt])
theorem GB{t:TypeId}{x:Operand}{v:Value}{d:TypeDesc}(hu:P.underlying t=some d)(hd:(match d with | .interface _=>true | _=>false)=false)(hx:bt tm c x v:=by exact cb): bW P N (.makeInterface t x) tm A c (.iface t v):=
 by unfold bW;intro ai a w _ _ _ _ _ cy _;simp only[execOp,hx.get cy ai];refine hX ?_;cases d<;>simp_all [Instr.makeInterface,run_underlying hu]
theorem sJ{sV t n b:Nat}{x:Operand}{u v z:Value}{k:TypeId}{d:TypeDesc}[cF:dn P t n b z](hu:P.underlying t=some d) (hd:(match d with | .interface _=>true | _=>false)=false) (hx:bt tm c x (.iface k v):=by exact cb) (ax:u=bif Nat.beq k t then .tuple #[v,.bool true]else .tuple #[z,.bool false]):bW P N (.typeAssert x sV t true) tm A c u:=
 by
  unfold bW;intro ai a w _ _ _ _ _ cy _;simp only[execOp,hx.get cy ai];refine hX ?_;obtain⟨i,hi,_,_,a1⟩:=cF.h;subst ax;cases hb:Nat.beq k t with
  | true=>have:=apZ hb;subst this;cases d<;>simp_all [Instr.typeAssert,run_underlying hu]
  | false=>have dS:¬k=t:=Nat.ne_of_beq_eq_false hb;cases d<;>simp_all [Instr.typeAssert,run_underlying hu,zeroValue,typeInfo]
end
instance:eg dy 2:=⟨λ_=>rfl,by decide⟩
instance:eg cL 8:=⟨λ_=>rfl,by decide⟩
instance:eg o6 5:=⟨λ_=>rfl,by decide⟩
instance:nR dy (λ_=>True):=⟨λ_ _ u hu=>by simp[dy]at hu;rcases hu with rfl | rfl<;>rfl⟩
instance:nR cL (λ_=>True):=⟨λ_ _ u hu=>by simp[cL]at hu;rcases hu with rfl | rfl | rfl | rfl | rfl | rfl | rfl | rfl<;>rfl⟩
structure lI where
 kind:Int
 aH:Int
 deriving DecidableEq,Inhabited
def e7(m:lI):List Value:=[.int .i64 m.kind,.int .i64 m.aH]
def xh:List Value->lI | [a,b]=>⟨ja a,ja b⟩ | _=>default
instance:eg e7 2:=⟨λ_=>rfl,by decide⟩
instance:nR e7 (λ_=>True):=⟨λ_ _ u hu=>by simp[e7]at hu;rcases hu with rfl | rfl<;>rfl⟩
structure qA where
 loc:Int
 val:Int
 aI:Int
 deriving DecidableEq,Inhabited
def j2(m:qA):List Value:=[.int .i64 m.loc,.int .i64 m.val,.int .i64 m.aI]
def OI:List Value->qA | [a,b,c]=>⟨ja a,ja b,ja c⟩ | _=>default
instance:eg j2 3:=⟨λ_=>rfl,by decide⟩
instance:nR j2 (λ_=>True):=⟨λ_ _ u hu=>by simp[j2]at hu;rcases hu with rfl | rfl | rfl<;>rfl⟩
def gM(m:Value×Nat):List Value:=[m.1,.int .i64 m.2]
def H6:List Value->Value×Nat | [a,b]=>(a,(ja b).toNat) | _=>(.nilIface,0)
instance:eg gM 2:=⟨λ_=>rfl,by decide⟩
instance:nR gM (λm=>m.1.oneCell'=true):=⟨λ_ h u hu=>by simp[gM]at hu;rcases hu with rfl | rfl;exact h;rfl⟩
structure l3 where
 kind:Int
 e9:cK
 value:Int
 kids:Value
 deriving Inhabited
def gX(n:l3):List Value:=[.int .i64 n.kind,.int .i64 n.e9.aH,.int .i64 n.e9.bo,.string n.e9.loc,.int .i64 n.value,n.kids]
instance:eg gX 6:=⟨λ_=>rfl,by decide⟩
end Go.b9
attribute [local irreducible] Go.wpList Go.Code.wp Go.bodyPost Go.Exit.then Go.Exit.inBlock Go.Calls
namespace Go.Proofs.bA
instance:jo prog 70 dy EB:=⟨trivial⟩
instance:jo prog 169 cL X0:=⟨trivial⟩
instance:jo prog 97 e7 xh:=⟨trivial⟩
instance:jo prog 201 j2 OI:=⟨trivial⟩
instance:jo prog 183 gM H6:=⟨trivial⟩
instance:s3 prog 70 dy:=⟨Tryz.eqGuardType70,λx y w=>by obtain⟨a0,ds⟩:=x;obtain⟨b0,gn⟩:=y;simp[dy,run_equalIn_agg w 9999 70 _ _ (by rw[Program.fieldsOf,underlying70]) Tryz.stoodInHeld70,Program.fieldsOf,underlying70,Op.eqFields,part,isAgg,run_underlying underlying3,run_equalIn_int w 9998 3 .i64 .i64 _ _ underlying3,run_underlying underlying9,run_equalIn_string w 9998 9 _ _ underlying9,Er];by_cases h0:a0=b0<;>by_cases h1:ds=gn<;>simp[h0,h1]⟩
instance:s3 prog 25 eH:=⟨Tryz.eqGuardType25,λx y w=>by obtain⟨a0,ds,a2⟩:=x;obtain⟨b0,gn,dC⟩:=y;simp[eH,run_equalIn_agg w 9999 25 _ _ (by rw[Program.fieldsOf,underlying25]) Tryz.stoodInHeld25,Program.fieldsOf,underlying25,Op.eqFields,part,isAgg,run_underlying underlying3,run_equalIn_int w 9998 3 .i64 .i64 _ _ underlying3,run_underlying underlying9,run_equalIn_string w 9998 9 _ _ underlying9,Er];by_cases h0:a0=b0<;>by_cases h1:ds=gn<;>by_cases h2:a2=dC<;>simp[h0,h1,h2]⟩
instance:s3 prog 169 cL:=⟨Tryz.eqGuardType169,λx y w=>by obtain⟨a0,ds,a2,a3,a4,a5,l4,mT⟩:=x;obtain⟨b0,gn,dC,dK,cO,ec,cY,ey⟩:=y;simp[cL,run_equalIn_agg w 9999 169 _ _ (by rw[Program.fieldsOf,underlying169]) Tryz.stoodInHeld169,Program.fieldsOf,underlying169,Op.eqFields,part,isAgg,run_underlying underlying3,run_equalIn_int w 9998 3 .i64 .i64 _ _ underlying3,run_underlying underlying9,run_equalIn_string w 9998 9 _ _ underlying9,Er];by_cases h0:a0=b0<;>by_cases h1:ds=gn<;>by_cases h2:a2=dC<;>by_cases h3:a3=dK<;>by_cases aA:a4=cO<;>by_cases a6:a5=ec<;>by_cases cE:l4=cY<;>by_cases dL:mT=ey<;>simp[h0,h1,h2,h3,aA,a6,cE,dL]⟩
instance:s3 prog 138 ef:=⟨Tryz.eqGuardType138,λx y w=>by obtain⟨a0,ds,a2,a3,a4,a5⟩:=x;obtain⟨b0,gn,dC,dK,cO,ec⟩:=y;simp[ef,run_equalIn_agg w 9999 138 _ _ (by rw[Program.fieldsOf,underlying138]) Tryz.stoodInHeld138,Program.fieldsOf,underlying138,Op.eqFields,part,isAgg,run_underlying underlying3,run_equalIn_int w 9998 3 .i64 .i64 _ _ underlying3];by_cases h0:a0=b0<;>by_cases h1:ds=gn<;>by_cases h2:a2=dC<;>by_cases h3:a3=dK<;>by_cases aA:a4=cO<;>by_cases a6:a5=ec<;>simp[h0,h1,h2,h3,aA,a6]⟩
instance:s3 prog 140 fE:=⟨Tryz.eqGuardType140,λx y w=>by obtain⟨a0,ds,a2⟩:=x;obtain⟨b0,gn,dC⟩:=y;simp[fE,run_equalIn_agg w 9999 140 _ _ (by rw[Program.fieldsOf,underlying140]) Tryz.stoodInHeld140,Program.fieldsOf,underlying140,Op.eqFields,part,isAgg,run_underlying underlying3,run_equalIn_int w 9998 3 .i64 .i64 _ _ underlying3];by_cases h0:a0=b0<;>by_cases h1:ds=gn<;>by_cases h2:a2=dC<;>simp[h0,h1,h2]⟩
instance:s3 prog 87 oF:=⟨Tryz.eqGuardType87,λx y w=>by obtain⟨a0,ds⟩:=x;obtain⟨b0,gn⟩:=y;simp[oF,run_equalIn_agg w 9999 87 _ _ (by rw[Program.fieldsOf,underlying87]) Tryz.stoodInHeld87,Program.fieldsOf,underlying87,Op.eqFields,part,isAgg,run_underlying underlying3,run_equalIn_int w 9998 3 .i64 .i64 _ _ underlying3];by_cases h0:a0=b0<;>by_cases h1:ds=gn<;>simp[h0,h1]⟩
theorem HS{ok q:Bool}(h:(!ok||!q)=true):(ok&&q)=false:=by revert h;cases ok<;>cases q<;>simp
theorem HR{ok q:Bool}(h:(!ok||!q)=false):(ok&&q)=true:=by revert h;cases ok<;>cases q<;>simp
theorem Q6(i:Instr)(w:World):bl prog 136 [.agg (cL i).toArray] w λ_ v _=>v=.int .i64 (if kn i then 0 else 91):=by
 obtain⟨op,d,a,b,c3,loc,label,dA⟩:=i;refine bZ func136 ntmps136 ?_;refine b7 λbi=>?_;refine cH λku=>?_;refine w0 (λs:Bool×Instr=>(s.1&&decide (({s.2 with op:=op}:Instr)=⟨op,d,a,b,c3,loc,label,dA⟩))=kn ⟨op,d,a,b,c3,loc,label,dA⟩) (λs=>[(4,true,.bool s.1),(3,true,av ku),(1,true,av bi)]) (λs=>Mem [(w,al)] [.box ku (cL s.2) 169,.box bi (cL ⟨op,d,a,b,c3,loc,label,dA⟩) 169]) ?_ ?_
 ·skip
  refine bC (λa6=>?_) λa6=>?_
  ·rw[an]at a6;subst a6;refine U ?_;refine bN 0 ?_;refine aq (bp (λI hw=>FT _ I) ?_);rintro v bx bc rfl cu;refine U ?_;refine e1 (h:=ev (bb:=λ_ I hw=>Kf _ I)) (ab:=U ?_);refine b6 (eE loc&&eF c3,⟨0,0,0,0,c3,loc,bg,0⟩) ?_ (hA:=cv);simp[kn,qW,rX,bg]
  rw[au]at a6;refine a8 (λaA=>?_) λaA=>?_
  ·rw[an]at aA;subst aA;refine U ?_;refine bN 0 ?_;refine aq (bp (λI hw=>FT _ I) ?_);rintro v bx bc rfl cu;refine U ?_;refine e1 (h:=ev (bb:=λ_ I hw=>Kg _ I)) (ab:=U ?_);refine b6 (eE loc&&nr a,⟨0,0,a,0,0,loc,bg,0⟩) ?_ (hA:=cv);simp[kn,qW,rX,bg]
  rw[au]at aA;refine a8 (λh3=>?_) λh3=>?_
  ·rw[an]at h3;subst h3;refine U ?_;refine bN 0 ?_;refine aq (bp (λI hw=>FT _ I) ?_);rintro v bx bc rfl cu;refine U ?_;refine e1 (h:=ev (bb:=λ_ I hw=>Kg _ I)) (ab:=U ?_);refine b6 (eE loc&&nr d,⟨0,d,0,0,0,loc,bg,0⟩) ?_ (hA:=cv);simp[kn,qW,rX,bg]
  rw[au]at h3;refine a8 (λh2=>?_) λh2=>?_
  ·rw[an]at h2;subst h2;refine U ?_;refine bN 0 ?_;refine aq (bp (λI hw=>Kg _ I) ?_);rintro v bx bc rfl cu;refine U ?_;refine e1 (h:=ev (bb:=λ_ I hw=>Kf _ I)) (ab:=U ?_);refine b6 (nr d&&eF c3,⟨0,d,0,0,c3,bg,bg,0⟩) ?_ (hA:=cv);simp[kn,qW,rX,bg]
  rw[au]at h2;refine a8 (λh1=>?_) λh1=>?_
  ·rw[an]at h1;subst h1;refine U ?_;refine b6 (true,⟨0,0,0,0,0,bg,bg,0⟩) ?_ (hA:=cv);simp[kn,qW,rX,bg]
  rw[au]at h1;refine bf λI hw=>?_;rw[show kn ⟨op,d,a,b,c3,loc,label,dA⟩=false by simp[kn,qW,a6,aA,h3,h2,h1]];rfl
 rintro⟨ok,wd⟩ iq;dsimp only at iq⊢;obtain⟨fZ,d2,a2,dC,i2,jX,m2,f2⟩:=wd;refine U ?_;refine bN 0 ?_;refine vk (h:=wN cL (⟨op,d2,a2,dC,i2,jX,m2,f2⟩:Instr) ⟨op,d,a,b,c3,loc,label,dA⟩) (ab:=U ?_);refine bC (λh1=>?_) λh1=>?_
 ·refine bf λI hw=>?_;rw[cd]at h1;rw[show kn ⟨op,d,a,b,c3,loc,label,dA⟩=false from iq.symm.trans (HS h1)];rfl
 refine bf λI hw=>?_;rw[cd]at h1;rw[show kn ⟨op,d,a,b,c3,loc,label,dA⟩=true from iq.symm.trans (HR h1)];rfl
theorem ae6(i:Instr)(w:World):bl prog 283 [.agg (cL i).toArray] w λ_ v _=>v=.int .i64 (if kn i then 0 else 91):=by
 obtain⟨op,d,a,b,c3,loc,label,dA⟩:=i;refine bZ func283 ntmps283 ?_;refine b7 λbi=>?_;refine cH λku=>?_;refine bN 0 ?_;refine w0 (λs:Bool×Instr=>(s.1&&decide (s.2=⟨op,d,a,b,c3,loc,label,dA⟩))=kn ⟨op,d,a,b,c3,loc,label,dA⟩) (λs=>[(4,true,.bool s.1),(3,true,av ku),(1,true,av bi)]) (λs=>Mem [(w,al)] [.box ku (cL s.2) 169,.box bi (cL ⟨op,d,a,b,c3,loc,label,dA⟩) 169]) ?_ ?_
 ·skip
  refine bC (λa6=>?_) λa6=>?_
  ·rw[an]at a6;subst a6;refine U ?_;refine bN 0 ?_;refine bN 0 ?_;refine aq (bp (λI hw=>Br _ I) ?_);rintro v bx bc rfl cu;refine U ?_;refine e1 (h:=ev (bb:=λ_ I hw=>Bs _ I)) (ab:=U ?_);refine b6 (eE loc&&eF c3,⟨1,0,0,0,c3,loc,bg,0⟩) ?_ (hA:=cv);simp[kn,qW,rX,bg]
  rw[au]at a6;refine a8 (λaA=>?_) λaA=>?_
  ·rw[an]at aA;subst aA;refine U ?_;refine bN 0 ?_;refine bN 0 ?_;refine aq (bp (λI hw=>Br _ I) ?_);rintro v bx bc rfl cu;refine U ?_;refine e1 (h:=ev (bb:=λ_ I hw=>Lp _ I)) (ab:=U ?_);refine b6 (eE loc&&nr a,⟨2,0,a,0,0,loc,bg,0⟩) ?_ (hA:=cv);simp[kn,qW,rX,bg]
  rw[au]at aA;refine a8 (λh3=>?_) λh3=>?_
  ·rw[an]at h3;subst h3;refine U ?_;refine bN 0 ?_;refine bN 0 ?_;refine aq (bp (λI hw=>Lp _ I) ?_);rintro v bx bc rfl cu;refine U ?_;refine e1 (h:=ev (bb:=λ_ I hw=>Br _ I)) (ab:=U ?_);refine b6 (nr d&&eE loc,⟨3,d,0,0,0,loc,bg,0⟩) ?_ (hA:=cv);rw[Bool.and_comm (nr d)];simp[kn,qW,rX,bg]
  rw[au]at h3;refine a8 (λh2=>?_) λh2=>?_
  ·rw[an]at h2;subst h2;refine U ?_;refine bN 0 ?_;refine bN 0 ?_;refine aq (bp (λI hw=>Lp _ I) ?_);rintro v bx bc rfl cu;refine U ?_;refine e1 (h:=ev (bb:=λ_ I hw=>Bs _ I)) (ab:=U ?_);refine b6 (nr d&&eF c3,⟨4,d,0,0,c3,bg,bg,0⟩) ?_ (hA:=cv);simp[kn,qW,rX,bg]
  rw[au]at h2;refine a8 (λh1=>?_) λh1=>?_
  ·rw[an]at h1;subst h1;refine U ?_;refine b6 (true,⟨5,0,0,0,0,bg,bg,0⟩) ?_ (hA:=cv);simp[kn,qW,rX,bg]
  rw[au]at h1;refine U ?_;refine b6 (false,⟨op,0,0,0,0,bg,bg,0⟩) ?_ (hA:=cv);simp[kn,qW,a6,aA,h3,h2,h1]
 rintro⟨ok,wd⟩ iq;dsimp only at iq⊢;obtain⟨fZ,d2,a2,dC,i2,jX,m2,f2⟩:=wd;refine U ?_;refine vk (h:=wN cL (⟨fZ,d2,a2,dC,i2,jX,m2,f2⟩:Instr) ⟨op,d,a,b,c3,loc,label,dA⟩) (ab:=U ?_);refine bC (λh1=>?_) λh1=>?_
 ·refine bf λI hw=>?_;rw[cd]at h1;rw[show kn ⟨op,d,a,b,c3,loc,label,dA⟩=false from iq.symm.trans (HS h1)];rfl
 refine bf λI hw=>?_;rw[cd]at h1;rw[show kn ⟨op,d,a,b,c3,loc,label,dA⟩=true from iq.symm.trans (HR h1)];rfl
theorem ag7(i:Instr)(w:World):bl prog 224 [.agg (cL i).toArray] w λ_ v _=>v=.tuple #[.agg (cL (pV i)).toArray,.bool (arh i)]:=by
 obtain⟨op,d,a,b,c3,loc,label,dA⟩:=i;refine bZ func224 ntmps224 ?_;refine b7 λbi=>?_;refine cH λaU=>?_;refine cH λku=>?_;refine bN 0 ?_;refine bC (λcE=>?_) λcE=>?_
 ·rw[an]at cE;subst cE;refine U ?_;refine fw (Mem [(w,al)] [.box bi (cL ⟨6,d,a,b,c3,loc,label,dA⟩) 169]) [0,1,2,3,4,5,6,7] mixed (bD [2]) ?_;refine aN ?_;refine bO _ (h:=bK 0 (ab:=?_));refine aF (aN ?_) (bD [2]);refine bO _ (h:=bK 0 (ab:=?_));refine aF (aN ?_) (bD [2]);refine U ?_;refine bN 1 ?_;refine bT rfl (.dv rfl dg rfl (.t1 rfl)) λI hw=>?_;rfl
 rw[au]at cE;refine a8 (λdL=>?_) λdL=>?_
 ·rw[an]at dL;subst dL;refine U ?_;refine fw (Mem [(w,al)] [.box bi (cL ⟨7,d,a,b,c3,loc,label,dA⟩) 169]) [0,1,2,3,4,5,6,7] mixed (bD [2]) ?_;refine aN ?_;refine bO _ (h:=bK 0 (ab:=?_));refine aF (aN ?_) (bD [2]);refine bO _ (h:=bK 0 (ab:=?_));refine aF (aN ?_) (bD [2]);refine U ?_;refine bN 1 ?_;refine bT rfl (.dv rfl dg rfl (.t1 rfl)) λI hw=>?_;rfl
 rw[au]at dL;refine a8 (λdZ=>?_) λdZ=>?_
 ·rw[an]at dZ;subst dZ;refine U ?_;refine fw (Mem [(w,al)] [.box bi (cL ⟨8,d,a,b,c3,loc,label,dA⟩) 169]) [0,1,2,3,4,5,6,7,8,9,10,11] mixed (bD [2]) ?_;refine aN ?_;refine bO _ (h:=bK 0 (ab:=?_));refine aF (aN ?_) (bD [2]);refine bO _ (h:=bK 0 (ab:=?_));refine aF (aN ?_) (bD [2]);refine bO _ (h:=bK 0 (ab:=?_));refine aF (aN ?_) (bD [2]);refine U ?_;refine fw (Mem [(w,al)] [.box ku (cL ⟨8,d,a,0,c3,bg,bg,0⟩) 169,.box bi (cL ⟨8,d,a,b,c3,loc,label,dA⟩) 169]) [0,1,2,3,4,5,6,7,8,9,10] mixed (bD [0,2]) ?_;refine aN ?_;refine bO _ (h:=bK 1 (ab:=?_));refine aF (aN ?_) (bD [0,2]);refine U ?_;refine bT rfl (.dv rfl dg rfl (.t1 rfl)) λI hw=>?_;simp only[arh,cd];rfl
 rw[au]at dZ;refine a8 (λhR=>?_) λhR=>?_
 ·refine U ?_;refine cM rfl (λ_=>?_) (λh=>by rw[hR]at h;cases h);rw[an]at hR;subst hR;refine U ?_;refine fw (Mem [(w,al)] [.box bi (cL ⟨9,d,a,b,c3,loc,label,dA⟩) 169]) [0,1,2,3,4,5,6,7,8,9,10,11] mixed (bD [2]) ?_;refine aN ?_;refine bO _ (h:=bK 0 (ab:=?_));refine aF (aN ?_) (bD [2]);refine bO _ (h:=bK 0 (ab:=?_));refine aF (aN ?_) (bD [2]);refine bO _ (h:=bK 0 (ab:=?_));refine aF (aN ?_) (bD [2]);refine U ?_;refine bN 1 ?_;refine bT rfl (.dv rfl dg rfl (.t1 rfl)) λI hw=>?_;rfl
 rw[au]at hR;refine a8 (λn3=>?_) λn3=>?_
 ·rw[an]at n3;subst n3;refine U ?_;refine fw (Mem [(w,al)] [.box bi (cL ⟨10,d,a,b,c3,loc,label,dA⟩) 169]) [0,1,2,3,4,5,6,7,8,9,10,11] mixed (bD [2]) ?_;refine aN ?_;refine bO _ (h:=bK 0 (ab:=?_));refine aF (aN ?_) (bD [2]);refine bO _ (h:=bK 0 (ab:=?_));refine aF (aN ?_) (bD [2]);refine bO _ (h:=bK 0 (ab:=?_));refine aF (aN ?_) (bD [2]);refine U ?_;refine bN 1 ?_;refine bT rfl (.dv rfl dg rfl (.t1 rfl)) λI hw=>?_;rfl
 rw[au]at n3;refine a8 (λp7=>?_) λp7=>?_
 ·rw[an]at p7;subst p7;refine U ?_;refine fw (Mem [(w,al)] [.box bi (cL ⟨11,d,a,b,c3,loc,label,dA⟩) 169]) [0,1,2,3,4,5,6,7,8,9,10,11] mixed (bD [2]) ?_;refine aN ?_;refine bO _ (h:=bK 0 (ab:=?_));refine aF (aN ?_) (bD [2]);refine bO _ (h:=bK 0 (ab:=?_));refine aF (aN ?_) (bD [2]);refine bO _ (h:=bK 0 (ab:=?_));refine aF (aN ?_) (bD [2]);refine U ?_;refine fw (Mem [(w,al)] [.box ku (cL ⟨11,0,a,b,0,bg,label,0⟩) 169,.box bi (cL ⟨11,d,a,b,c3,loc,label,dA⟩) 169]) [0,1,2,3,4,5] mixed (bD [0,2]) ?_;refine aN ?_;refine bO _ (h:=bp (λI hw=>L5 _ I) ?_);rintro v bx bc rfl cu;refine aF (aN ?_) (bD [0,2]);refine bO _ (h:=bK 1 (ab:=?_));refine aF (aN ?_) (bD [0,2]);refine U ?_;refine bT rfl (.dv rfl dg rfl (.t1 rfl)) λI hw=>?_;rfl
 rw[au]at p7;refine a8 (λtq=>?_) λtq=>?_
 ·rw[an]at tq;subst tq;refine U ?_;refine bN 0 ?_;refine fw (Mem [(w,al)] [.box ku (cL ⟨12,0,0,0,0,bg,label,0⟩) 169,.box bi (cL ⟨12,d,a,b,c3,loc,label,dA⟩) 169]) [0,1,2,3,4,5] mixed (bD [0,2]) ?_;refine aN ?_;refine bO _ (h:=bp (λI hw=>L5 _ I) ?_);rintro v bx bc rfl cu;refine aF (aN ?_) (bD [0,2]);refine bO _ (h:=bK 1 (ab:=?_));refine aF (aN ?_) (bD [0,2]);refine U ?_;refine bT rfl (.dv rfl dg rfl (.t1 rfl)) λI hw=>?_;rfl
 rw[au]at tq;refine a8 (λtr=>?_) λtr=>?_
 ·rw[an]at tr;subst tr;refine U ?_;refine bN 0 ?_;refine fw (Mem [(w,al)] [.box ku (cL ⟨13,0,0,0,0,bg,bg,dA⟩) 169,.box bi (cL ⟨13,d,a,b,c3,loc,label,dA⟩) 169]) [0,1,2,3,4,5,6,7,8,9,10] mixed (bD [0,2]) ?_;refine aN ?_;refine bO _ (h:=bK 1 (ab:=?_));refine aF (aN ?_) (bD [0,2]);refine U ?_;refine bT rfl (.dv rfl dg rfl (.t1 rfl)) λI hw=>?_;simp only[arh,cd];rfl
 rw[au]at tr;refine U ?_;refine bN 1 ?_;refine bT rfl (.dv rfl dg rfl (.t1 rfl)) λI hw=>?_;simp[pV,arh,cE,dL,dZ,hR,n3,p7,tq,tr];rfl
theorem T4(i:Instr)(w:World):bl prog 137 [.agg (cL i).toArray] w λ_ v _=>v=.int .i64 (if kW i then 0 else 91):=by
 refine bZ func137 ntmps137 ?_;refine b7 λbi=>?_;refine aq (bp (λI hw=>ag7 i I) ?_);rintro v bx bc rfl cu;refine U ?_;refine cH λku=>?_;refine bN 0 ?_;refine vk (h:=wN cL (pV i) i) (ab:=U ?_);refine e1 (h:=ev (bb:=λ_ I hw=>L6 _ I)) (ab:=U ?_);refine e1 (h:=ev (bb:=λ_ I hw=>L6 _ I)) (ab:=U ?_);refine e1 (h:=ev (bb:=λ_ I hw=>L6 _ I)) (ab:=U ?_);have key:(!arh i||!bw (pV i=i)||!nO i.d||!nO i.a||!nO i.b)=!kW i:=by unfold kW;rw[cd];cases arh i<;>cases decide (pV i=i)<;>cases nO i.d<;>cases nO i.a<;>cases nO i.b<;>rfl
 refine bC (λh1=>?_) λh1=>?_
 ·refine bf λI hw=>?_;have h1:=key.symm.trans h1;rw[aoq]at h1;rw[h1];rfl
 refine bf λI hw=>?_;have h1:=key.symm.trans h1;rw[aos]at h1;rw[h1];rfl
theorem S9(i:Instr)(w:World):bl prog 203 [.agg (cL i).toArray] w λ_ v _=>v=.int .i64 (if kW i then 0 else 91):=by
 obtain⟨op,d,a,b,c3,loc,label,dA⟩:=i;refine bZ func203 ntmps203 ?_;refine b7 λbi=>?_;refine cH λku=>?_;refine bN 0 ?_;refine w0 (λs:Bool×Instr=>(s.1&&decide (s.2=⟨op,d,a,b,c3,loc,label,dA⟩))=(arh ⟨op,d,a,b,c3,loc,label,dA⟩&&decide (pV ⟨op,d,a,b,c3,loc,label,dA⟩=⟨op,d,a,b,c3,loc,label,dA⟩))) (λs=>[(4,true,.bool s.1),(3,true,av ku),(1,true,av bi)]) (λs=>Mem [(w,al)] [.box ku (cL s.2) 169,.box bi (cL ⟨op,d,a,b,c3,loc,label,dA⟩) 169]) ?_ ?_
 ·skip
  refine bC (λcE=>?_) λcE=>?_
  ·rw[an]at cE;subst cE;refine U ?_;refine bN 0 ?_;refine bN 0 ?_;refine b6 (true,⟨6,d,a,0,0,bg,bg,0⟩) ?_ (hA:=cv);simp[arh,pV,bg]
  rw[au]at cE;refine a8 (λdL=>?_) λdL=>?_
  ·rw[an]at dL;subst dL;refine U ?_;refine bN 0 ?_;refine bN 0 ?_;refine b6 (true,⟨7,0,a,b,0,bg,bg,0⟩) ?_ (hA:=cv);simp[arh,pV,bg]
  rw[au]at dL;refine a8 (λdZ=>?_) λdZ=>?_
  ·rw[an]at dZ;subst dZ;refine U ?_;refine bN 0 ?_;refine bN 0 ?_;refine bN 0 ?_;refine b6 (bw (-2048<=c3)&&bw (c3<=2047),⟨8,d,a,0,c3,bg,bg,0⟩) ?_ (hA:=cv);simp[arh,pV,bg,cd]
  rw[au]at dZ;refine a8 (λhR=>?_) λhR=>?_
  ·refine U ?_;refine cM rfl (λ_=>?_) (λh=>by rw[hR]at h;cases h);rw[an]at hR;subst hR;refine U ?_;refine bN 0 ?_;refine bN 0 ?_;refine bN 0 ?_;refine b6 (true,⟨9,d,a,b,0,bg,bg,0⟩) ?_ (hA:=cv);simp[arh,pV,bg]
  rw[au]at hR;refine a8 (λn3=>?_) λn3=>?_
  ·rw[an]at n3;subst n3;refine U ?_;refine bN 0 ?_;refine bN 0 ?_;refine bN 0 ?_;refine b6 (true,⟨10,d,a,b,0,bg,bg,0⟩) ?_ (hA:=cv);simp[arh,pV,bg]
  rw[au]at n3;refine a8 (λp7=>?_) λp7=>?_
  ·rw[an]at p7;subst p7;refine U ?_;refine bN 0 ?_;refine bN 0 ?_;refine bN 0 ?_;refine aq (bp (λI hw=>Tb _ I) ?_);rintro v bx bc rfl cu;refine U ?_;refine b6 (eE label,⟨11,0,a,b,0,bg,label,0⟩) ?_ (hA:=cv);simp[arh,pV,bg]
  rw[au]at p7;refine a8 (λtq=>?_) λtq=>?_
  ·rw[an]at tq;subst tq;refine U ?_;refine bN 0 ?_;refine aq (bp (λI hw=>Tb _ I) ?_);rintro v bx bc rfl cu;refine U ?_;refine b6 (eE label,⟨12,0,0,0,0,bg,label,0⟩) ?_ (hA:=cv);simp[arh,pV,bg]
  rw[au]at tq;refine a8 (λtr=>?_) λtr=>?_
  ·rw[an]at tr;subst tr;refine U ?_;refine bN 0 ?_;refine b6 (bw (2<=dA)&&bw (dA<=11),⟨13,0,0,0,0,bg,bg,dA⟩) ?_ (hA:=cv);simp[arh,pV,bg,cd]
  rw[au]at tr;refine U ?_;refine b6 (false,⟨op,0,0,0,0,bg,bg,0⟩) ?_ (hA:=cv);simp[arh,cE,dL,dZ,hR,n3,p7,tq,tr]
 rintro⟨ok,wd⟩ iq;dsimp only at iq⊢;obtain⟨fZ,d2,a2,dC,i2,jX,m2,f2⟩:=wd;refine U ?_;refine vk (h:=wN cL ⟨op,d,a,b,c3,loc,label,dA⟩ (⟨fZ,d2,a2,dC,i2,jX,m2,f2⟩:Instr)) (ab:=U ?_);refine e1 (h:=ev (bb:=λ_ I hw=>Lq _ I)) (ab:=U ?_);refine e1 (h:=ev (bb:=λ_ I hw=>Lq _ I)) (ab:=U ?_);refine e1 (h:=ev (bb:=λ_ I hw=>Lq _ I)) (ab:=U ?_);have key:(!ok||!bw (⟨op,d,a,b,c3,loc,label,dA⟩=(⟨fZ,d2,a2,dC,i2,jX,m2,f2⟩:Instr))||!nO d||!nO a||!nO b)=!kW ⟨op,d,a,b,c3,loc,label,dA⟩:=by unfold kW;rw[<-iq,cd,show decide (⟨op,d,a,b,c3,loc,label,dA⟩=(⟨fZ,d2,a2,dC,i2,jX,m2,f2⟩:Instr))=decide ((⟨fZ,d2,a2,dC,i2,jX,m2,f2⟩:Instr)=⟨op,d,a,b,c3,loc,label,dA⟩)from ao7.2 eq_comm];generalize decide ((⟨fZ,d2,a2,dC,i2,jX,m2,f2⟩:Instr)=⟨op,d,a,b,c3,loc,label,dA⟩)=q;cases ok<;>cases q<;>cases nO d<;>cases nO a<;>cases nO b<;>rfl
 refine bC (λh1=>?_) λh1=>?_
 ·refine bf λI hw=>?_;have h1:=key.symm.trans h1;rw[aoq]at h1;rw[h1];rfl
 refine bf λI hw=>?_;have h1:=key.symm.trans h1;rw[aos]at h1;rw[h1];rfl
end Go.Proofs.bA
