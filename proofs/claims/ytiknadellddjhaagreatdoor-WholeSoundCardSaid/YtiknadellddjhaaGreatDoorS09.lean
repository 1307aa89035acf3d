/- Lemmas for the law WholeSound. -/
import Derived.Test.YtiknadellddjhaaGreatDoorS03
import Derived.Test.YtiknadellddjhaaGreatDoorS04
import Derived.Test.YtiknadellddjhaaGreatDoorS08
set_option linter.all false
open Go.Proofs.Tryz
set_option maxHeartbeats 800000
open Go Go.cc Go.bU Go.gH
namespace Go.cc
open Go Go.RowKit
theorem DL(a b:ByteArray):(a.toList==b.toList)=decide (a=b):=by rw[D2,ch]
section
variable {P:Program} {N:Nat} {tm:dU} {A:World->Prop} {c:Bool}
theorem wu{P:Program}{N:Nat}{Q pU:Exit->Act->World->Prop}{tm:dU}{A:World->Prop}{x y:Code}{eT:Type}{id:Nat}(dX:eT->Prop)(T:eT->dU)(bN:eT->World->Prop) (h:fh P N x (Exit.inBlock id (Exit.then (mn N dX T bN) pU)) tm A) (aR:∀s,dX s->fh P N y Q (T s) (bN s)):fh P N x (Exit.inBlock id (Exit.then (λa w=>y.wp P Q a w) pU)) tm A:=by
 unfold fh cL at *;intro a w ag hw;have key:∀dI I,mn N dX T bN dI I->y.wp P Q dI I:=λdI I q=>by unfold mn at q;obtain⟨s,ia,cn,fi⟩:=q;exact aR s ia dI I cn fi
 refine wp_mono (h a w ag hw) λe dI I q=>?_;cases e with
 | normal=>exact key dI I q
 | exit tp=>
  have q':(if tp=id then mn N dX T bN dI I else pU (.exit tp) dI I):=q;show(if tp=id then y.wp P Q dI I else pU (.exit tp) dI I);by_cases e:tp=id
  ·rw[amo e]at q'⊢;exact key dI I q'
  rw[amn e]at q'⊢;exact q'
 | _=>exact q
def oK(n:Int):BitVec 32:=BitVec.ofInt 32 n
theorem wrap_i32(n:Int):IntKind.i32.wrap n=(oK n).toInt:=by unfold oK IntKind.wrap;rw[aoN];simp only[IntKind.bits,IntKind.signed];unfold Int.bmod;simp;omega
theorem DM(x:BitVec 32):oK x.toInt=x:=BitVec.ofInt_toInt
theorem v7{s t:TypeId}{x:Operand}{n:Int}{k d:IntKind}[ag:jg P s (.int k)][aE:jg P t (.int .i32)](hx:bo tm c x (.int d n):=by exact b7): bR P N (.convert s t x) tm A c (.int .i32 (oK n).toInt):=
 by unfold bR;intro ai a w _ _ _ _ _ cn _;simp only[execOp,hx.get cn ai];refine hG ?_;rw[<-wrap_i32];simp[convert,run_underlying ag.h,run_underlying aE.h,Conv.intToInt]
theorem CV{s t:TypeId}{x:Operand}{b:BitVec 32}[ag:jg P s (.int .i32)][aE:jg P t (.int .i64)](hx:bo tm c x (.int .i32 b.toInt):=by exact b7): bR P N (.convert s t x) tm A c (.int .i64 b.toInt):=
 by unfold bR;intro ai a w _ _ _ _ _ cn _;simp only[execOp,hx.get cn ai];refine hG ?_;have h1:=BitVec.le_toInt b;have h2:=BitVec.toInt_lt (x:=b);have h:=z6 (n:=b.toInt) (by simp at h1 h2;omega);unfold yp at h;simp[convert,run_underlying ag.h,run_underlying aE.h,Conv.intToInt,h]
theorem Sm{t dt:TypeId}{x y:Operand}{a b:BitVec 32}(hx:bo tm c x (.int .i32 a.toInt):=by exact b7)(aR:bo tm c y (.int .i32 b.toInt):=by exact b7): bR P N (.binOp .or t x y dt) tm A c (.int .i32 (a||| b).toInt):=
 oA hx aR (λw=>by simp only[binOp,Op.intBits,ne_eq,aoX,aor];show Result.ok (Value.int .i32 (IntKind.i32.wrap (((oK a.toInt||| oK b.toInt).toNat:Nat):Int))) w=_;rw[DM,DM,wrap_i32];unfold oK;rw[aok,BitVec.ofNat_toNat];simp)
theorem Sp{t dt:TypeId}{x y:Operand}{a b:BitVec 32}(hx:bo tm c x (.int .i32 a.toInt):=by exact b7)(aR:bo tm c y (.int .i32 b.toInt):=by exact b7): bR P N (.binOp .xor t x y dt) tm A c (.int .i32 (a ^^^ b).toInt):=
 oA hx aR (λw=>by simp only[binOp,Op.intBits,ne_eq,aoX,aor];show Result.ok (Value.int .i32 (IntKind.i32.wrap (((oK a.toInt ^^^ oK b.toInt).toNat:Nat):Int))) w=_;rw[DM,DM,wrap_i32];unfold oK;rw[aok,BitVec.ofNat_toNat];simp)
theorem Se{t dt:TypeId}{x y:Operand}{a b:BitVec 32}(hx:bo tm c x (.int .i32 a.toInt):=by exact b7)(aR:bo tm c y (.int .i32 b.toInt):=by exact b7): bR P N (.binOp .add t x y dt) tm A c (.int .i32 (a+b).toInt):=
 oA hx aR (λw=>by simp only[binOp,ne_eq,aoX,aor];show Result.ok (Value.int .i32 (IntKind.i32.wrap (a.toInt+b.toInt))) w=_;rw[wrap_i32];unfold oK;rw[BitVec.ofInt_add,BitVec.ofInt_toInt,BitVec.ofInt_toInt])
theorem F7{t:TypeId}{x:Operand}{v:Value}{d:TypeDesc}(hu:P.underlying t=some d)(hd:(match d with | .interface _=>true | _=>false)=false)(hx:bo tm c x v:=by exact b7): bR P N (.makeInterface t x) tm A c (.iface t v):=
 by unfold bR;intro ai a w _ _ _ _ _ cn _;simp only[execOp,hx.get cn ai];refine hG ?_;cases d<;>simp_all [Instr.makeInterface,run_underlying hu]
theorem sm{sB t n b:Nat}{x:Operand}{u v z:Value}{k:TypeId}{d:TypeDesc}[cP:dh P t n b z](hu:P.underlying t=some d) (hd:(match d with | .interface _=>true | _=>false)=false) (hx:bo tm c x (.iface k v):=by exact b7) (aw:u=bif Nat.beq k t then .tuple #[v,.bool true]else .tuple #[z,.bool false]):bR P N (.typeAssert x sB t true) tm A c u:=
 by
  unfold bR;intro ai a w _ _ _ _ _ cn _;simp only[execOp,hx.get cn ai];refine hG ?_;obtain⟨i,hi,_,_,aY⟩:=cP.h;subst aw;cases hb:Nat.beq k t with
  | true=>have:=anS hb;subst this;cases d<;>simp_all [Instr.typeAssert,run_underlying hu]
  | false=>have dC:¬k=t:=Nat.ne_of_beq_eq_false hb;cases d<;>simp_all [Instr.typeAssert,run_underlying hu,zeroValue,typeInfo]
end
instance:ee dm 2:=⟨λ_=>rfl,by decide⟩
instance:ee cC 8:=⟨λ_=>rfl,by decide⟩
instance:ee oO 5:=⟨λ_=>rfl,by decide⟩
instance:n5 dm (λ_=>True):=⟨λ_ _ u hu=>by simp[dm]at hu;rcases hu with rfl | rfl<;>rfl⟩
instance:n5 cC (λ_=>True):=⟨λ_ _ u hu=>by simp[cC]at hu;rcases hu with rfl | rfl | rfl | rfl | rfl | rfl | rfl | rfl<;>rfl⟩
structure lf where
 kind:Int
 aI:Int
 deriving DecidableEq,Inhabited
def eW(m:lf):List Value:=[.int .i64 m.kind,.int .i64 m.aI]
def wM:List Value->lf | [a,b]=>⟨iS a,iS b⟩ | _=>default
instance:ee eW 2:=⟨λ_=>rfl,by decide⟩
instance:n5 eW (λ_=>True):=⟨λ_ _ u hu=>by simp[eW]at hu;rcases hu with rfl | rfl<;>rfl⟩
structure qn where
 loc:Int
 val:Int
 aN:Int
 deriving DecidableEq,Inhabited
def jN(m:qn):List Value:=[.int .i64 m.loc,.int .i64 m.val,.int .i64 m.aN]
def NL:List Value->qn | [a,b,c]=>⟨iS a,iS b,iS c⟩ | _=>default
instance:ee jN 3:=⟨λ_=>rfl,by decide⟩
instance:n5 jN (λ_=>True):=⟨λ_ _ u hu=>by simp[jN]at hu;rcases hu with rfl | rfl | rfl<;>rfl⟩
def fQ(m:Value×Nat):List Value:=[m.1,.int .i64 m.2]
def DW:List Value->Value×Nat | [a,b]=>(a,(iS b).toNat) | _=>(.nilIface,0)
instance:ee fQ 2:=⟨λ_=>rfl,by decide⟩
instance:n5 fQ (λm=>m.1.oneCell'=true):=⟨λ_ h u hu=>by simp[fQ]at hu;rcases hu with rfl | rfl;exact h;rfl⟩
structure lI where
 kind:Int
 e3:cE
 value:Int
 kids:Value
 deriving Inhabited
def gR(n:lI):List Value:=[.int .i64 n.kind,.int .i64 n.e3.aI,.int .i64 n.e3.bq,.string n.e3.loc,.int .i64 n.value,n.kids]
instance:ee gR 6:=⟨λ_=>rfl,by decide⟩
end Go.cc
attribute [local irreducible] Go.wpList Go.Code.wp Go.bodyPost Go.Exit.then Go.Exit.inBlock Go.Calls
namespace Go.Proofs.bK
instance:jw prog 70 dm BC:=⟨trivial⟩
instance:jw prog 169 cC WN:=⟨trivial⟩
instance:jw prog 97 eW wM:=⟨trivial⟩
instance:jw prog 201 jN NL:=⟨trivial⟩
instance:jw prog 183 fQ DW:=⟨trivial⟩
instance:xv prog 70 dm:=⟨Tryz.eqGuardType70,λx y w=>by obtain⟨a0,dG⟩:=x;obtain⟨b0,hJ⟩:=y;simp[dm,run_equalIn_agg w 9999 70 _ _ (by rw[Program.fieldsOf,underlying70]) Tryz.stoodInHeld70,Program.fieldsOf,underlying70,Op.eqFields,part,isAgg,run_underlying underlying3,run_equalIn_int w 9998 3 .i64 .i64 _ _ underlying3,run_underlying underlying9,run_equalIn_string w 9998 9 _ _ underlying9,DL];by_cases h0:a0=b0<;>by_cases h1:dG=hJ<;>simp[h0,h1]⟩
instance:xv prog 25 ev:=⟨Tryz.eqGuardType25,λx y w=>by obtain⟨a0,dG,a2⟩:=x;obtain⟨b0,hJ,dy⟩:=y;simp[ev,run_equalIn_agg w 9999 25 _ _ (by rw[Program.fieldsOf,underlying25]) Tryz.stoodInHeld25,Program.fieldsOf,underlying25,Op.eqFields,part,isAgg,run_underlying underlying3,run_equalIn_int w 9998 3 .i64 .i64 _ _ underlying3,run_underlying underlying9,run_equalIn_string w 9998 9 _ _ underlying9,DL];by_cases h0:a0=b0<;>by_cases h1:dG=hJ<;>by_cases h2:a2=dy<;>simp[h0,h1,h2]⟩
instance:xv prog 169 cC:=⟨Tryz.eqGuardType169,λx y w=>by obtain⟨a0,dG,a2,a3,a4,a5,nA,oJ⟩:=x;obtain⟨b0,hJ,dy,dR,cO,ea,cS,eb⟩:=y;simp[cC,run_equalIn_agg w 9999 169 _ _ (by rw[Program.fieldsOf,underlying169]) Tryz.stoodInHeld169,Program.fieldsOf,underlying169,Op.eqFields,part,isAgg,run_underlying underlying3,run_equalIn_int w 9998 3 .i64 .i64 _ _ underlying3,run_underlying underlying9,run_equalIn_string w 9998 9 _ _ underlying9,DL];by_cases h0:a0=b0<;>by_cases h1:dG=hJ<;>by_cases h2:a2=dy<;>by_cases h3:a3=dR<;>by_cases aC:a4=cO<;>by_cases aW:a5=ea<;>by_cases cM:nA=cS<;>by_cases ef:oJ=eb<;>simp[h0,h1,h2,h3,aC,aW,cM,ef]⟩
def tM(n:Int)(rows:List W)(e:Int):Nat->Value->List aA->World->Prop:=λ_ v es _=>∃aG,aD aG/\v=.tuple #[.agg #[.int .i64 n,aG],.int .i64 e]/\es=[et aG rows]
theorem adb(i m:Nat)(de dS Bv:Nat)(f t:W)(aG:Value)(rows:List W)(w:World)(hi:i<rows.length)(fH:i<64) (hf:gM an w de [u64 f]) (au:gM an w dS [.int .i64 m,aG]) (aE:gM an w Bv [u64 t]) (h:aV an w fA 1 aG rows): bj prog 346 [.int .i64 i,ax de,ax dS,ax Bv] w λ_ v _=>v=u64 (if f.getLsbD i=true then rows.getD i default&&& t else 0#64):=by
 refine ca func346 ntmps346 ?_;refine bA (λh1=>?_) λh1=>?_
 ·rw[ch,Aj _ i fH]at h1;refine bl λI hw=>?_;rw[amn (by simpa using h1)];rfl
 rw[ch,Aj _ i fH]at h1;refine aa ?_;refine cV [0,1,2,3,4,5,6,7] mixed ?_;refine aP ?_;refine bl λI hw=>?_;rw[amo (by simpa using h1)];rfl
theorem ade(n:Int)(aG:Value)(f t:W)(rows:List W)(w:World)(h:aV an w fA 1 aG rows): eH prog 281 [.agg #[.int .i64 n,aG],u64 f,u64 t] w (tM (Kb (fx n rows) n) (Kr n rows f t) (vf (fx n rows))):=by
 unfold Kb vf Kr;refine iY func281 ntmps281 ?_;refine ck λdS=>?_;refine ck λde=>?_;refine ck λBv=>?_;refine cU λaO=>?_;refine ao (bw (λI hw=>zi n aG rows I (hw.now h)) ?_);rintro v bx a6 rfl cA;by_cases hok:fx n rows=true
 ·simp only[amo hok];obtain⟨m,rfl,r6,bG⟩:=uF hok;refine aa ?_;refine cK rfl (λh1=>by simp[ch]at h1) λ_=>?_;refine aa ?_;refine ao (gS (a7:=λI hw=>JX m 346 [ax de,ax dS,ax Bv] (λi=>if f.getLsbD i=true then rows.getD i default&&& t else 0#64) I r6 λi bX hi hj=>
   adb i m de dS Bv f t aG rows bX (by omega) (by omega) ((hw.eN gC trivial).mono (hj.base _ aL) λ_=>trivial) ((hw.eN mh trivial).mono (hj.base _ aL) λ_=>trivial) ((hw.eN ds trivial).mono (hj.base _ aL) λ_=>trivial) (hj.now (hw.now h) aL)) (ab:=?_))
  rintro v n es a6 ⟨s1,fk,rfl,rfl⟩;refine aa ?_;refine bQ 1 ?_;refine eR rfl (.dz rfl ds rfl (.t1 rfl)) [et s1 _] [0] λI hw=>?_;refine⟨s1,fk,rfl,?_⟩;rw[QV m _ (λa b=>aT rows a b&&f.getLsbD a&&t.getLsbD b) r6 λi j hi _=>?_];rfl;have hb:=KW hok i j;unfold aT at hb⊢;by_cases hf:f.getLsbD i=true
  ·rw[amo hf,an6,hf,aoG];by_cases ad:j<m
   ·simp[ad]
   rw[hb (by omega)];simp
  rw[amn hf];simp[hf]
 simp only[amn hok];refine aa ?_;refine cK rfl (λ_=>?_) (λh1=>by simp[ch]at h1);refine aa ?_;refine bQ 0 ?_;refine dZ 81 1 fA ?_;refine eR rfl (.dz rfl ds rfl (.t1 rfl)) [_] [0] λI hw=>?_;exact⟨_,kL,rfl,rfl⟩
theorem ahu(a:Int)(fI:Value)(fN:List W)(b:Int)(fl:Value)(gn:List W)(w:World)(au:aV an w fA 1 fI fN)(hb:aV an w fA 1 fl gn): bj prog 275 [.agg #[.int .i64 a,fI],.agg #[.int .i64 b,fl]] w λ_ v _=>v=.int .i64 (od a fN b gn):=by
 unfold od;refine ca func275 ntmps275 ?_;refine ck λdS=>?_;refine ck λdc=>?_;refine ao (bw (λI hw=>zi a fI fN I (hw.now au)) ?_);rintro v bx a6 rfl cA;refine aa ?_;refine fm (h:=eY (a7:=λ_ I hw=>zi b fl gn I (hw.now hb))) (ab:=aa ?_);have bC:∀x:Bool,bO ((if x=true then(0:Int)else 10)=0)=x:=λx=>by cases x<;>simp[ch]
 refine bA (λh1=>?_) λh1=>?_
 ·rw[bC,bC]at h1;refine bl λI hw=>?_;rw[amn (by simp only[amr,amk]at h1;rcases h1 with h1 | h1<;>simp[h1])];rfl
 rw[bC,bC]at h1;have cb:(fx a fN&&fx b gn)=true:=by simp only[amt,amm]at h1;simp[h1]
 refine bg (λh2=>?_) λh2=>?_
 ·refine bl λI hw=>?_;rw[amo cb,amn (by simpa[ch]using h2)];rfl
 refine bl λI hw=>?_;rw[amo cb,amo (by simpa[ch]using h2)];rfl
theorem ack(i:Nat)(a b:Int)(fI fl:Value)(fN gn:List W)(c3:Nat)[aS prog c3](cap:List Value)(z:W)(de dS dc:Nat)(w:World)(EF:i<fN.length)(oV:i<gn.length) (hf:gM an w de [.func (.func c3) #[] cap.toArray]) (Yh:gM an w dS [.int .i64 a,fI]) (oU:gM an w dc [.int .i64 b,fl]) (au:aV an w fA 1 fI fN) (hb:aV an w fA 1 fl gn) (hk:∀I,Mem [(w,an)] [] I->bj prog c3 (u64 (fN.getD i default)::u64 (gn.getD i default)::cap) I λ_ v _=>v=u64 z): bj prog 277 [.int .i64 i,ax de,ax dS,ax dc] w λ_ v _=>v=u64 z:=by refine ca func277 ntmps277 ?_;refine cV [0,1,2,3,4,5,6,7,8,9,10,11,12] mixed ?_;refine aP ?_;refine bL _ (h:=bw (λI p6=>hk I p6) ?_);rintro v cp bX rfl fq;refine aF (aP ?_) eS;refine aa ?_;exact bP rfl (.t1 rfl) λI hw=>rfl
theorem Re(a:Int)(fI:Value)(fN:List W)(b:Int)(fl:Value)(gn:List W)(c3:Nat)[aS prog c3](cap:List Value)(f:Nat->W)(p:Nat->Nat->Bool)(w:World)(au:aV an w fA 1 fI fN)(hb:aV an w fA 1 fl gn) (hp:od a fN b gn=0->∀i j,i<a.toNat->j<64->(f i).getLsbD j=(decide (j<a.toNat)&&p i j)) (hk:od a fN b gn=0->∀i I,i<a.toNat->Mem [(w,an)] [] I->bj prog c3 (u64 (fN.getD i default)::u64 (gn.getD i default)::cap) I λ_ v _=>v=u64 (f i)): eH prog 192 [.agg #[.int .i64 a,fI],.agg #[.int .i64 b,fl],.func (.func c3) #[] cap.toArray] w (tM (cp (od a fN b gn) a) (if od a fN b gn=0 then bT a.toNat p else []) (od a fN b gn)):=by
 refine iY func192 ntmps192 ?_;refine ck λdS=>?_;refine ck λdc=>?_;refine ck λde=>?_;refine cU λaO=>?_;refine ao (bw (λI hw=>ahu a fI fN b fl gn I (hw.now au) (hw.now hb)) ?_);rintro v bx a6 rfl cA;refine bg (λh1=>?_) λh1=>?_
 ·have cb:¬od a fN b gn=0:=by simpa[ch]using h1
  rw[amn cb,cp,amn cb];refine aa ?_;refine bQ 0 ?_;refine dZ 81 1 fA ?_;refine eR rfl (.dz rfl ds rfl (.t1 rfl)) [_] [0] λI hw=>?_;exact⟨_,kL,rfl,rfl⟩
 have cb:od a fN b gn=0:=by simpa[ch]using h1
 rw[amo cb,cp,amo cb,cb];have ti:=hp cb;have ng:=hk cb;clear hp hk;obtain⟨Zi,Zj,rfl⟩:=HF cb;obtain⟨m,rfl,r6,bG⟩:=uF Zi;obtain⟨m',ki,_,zO⟩:=uF Zj;obtain rfl:m=m':=by omega
 rw[amw]at ti ng⊢;refine aa ?_;refine ao (gS (a7:=λI hw=>JX m 277 [ax de,ax dS,ax dc] f I r6 λi bX hi hj=>
  ack i m m fI fl fN gn c3 cap (f i) de dS dc bX (by omega) (by omega) ((hw.eN ds trivial).mono (hj.base _ aL) λ_=>trivial) ((hw.eN mh trivial).mono (hj.base _ aL) λ_=>trivial) ((hw.eN gC trivial).mono (hj.base _ aL) λ_=>trivial) (hj.now (hw.now au) aL) (hj.now (hw.now hb) aL) λgb Jm=>ng i gb hi (J4 (hw.last rfl) hj Jm)) (ab:=?_))
 rintro v n es a6 ⟨s1,fk,rfl,rfl⟩;refine aa ?_;refine bQ 1 ?_;refine eR rfl (.dz rfl ds rfl (.t1 rfl)) [et s1 _] [0] λI hw=>?_;refine⟨s1,fk,rfl,?_⟩;rw[QV m f p r6 ti]
theorem ahz(x y:W)(w:World):bj prog 193 [u64 x,u64 y] w λ_ v _=>v=u64 (x||| y):=by refine ca func193 ntmps193 ?_;exact bP rfl (.t1 rfl) λI hw=>rfl
theorem abC(x y:W)(w:World):bj prog 347 [u64 x,u64 y] w λ_ v _=>v=u64 (x&&& ~~~ y):=by refine ca func347 ntmps347 ?_;exact bP rfl (.t1 rfl) λI hw=>rfl
theorem El(fN:List W)(m i j:Nat)(h:fx m fN=true):(fN.getD i default).getLsbD j=(decide (j<m)&&(fN.getD i default).getLsbD j):=by
 by_cases ad:j<m
 ·simp[ad]
 have:=KW h i j (by omega);unfold aT at this;rw[this];simp
theorem ahA(a:Int)(fI:Value)(fN:List W)(b:Int)(fl:Value)(gn:List W)(w:World)(au:aV an w fA 1 fI fN)(hb:aV an w fA 1 fl gn): eH prog 98 [.agg #[.int .i64 a,fI],.agg #[.int .i64 b,fl]] w (tM (cp (od a fN b gn) a) (FF (· ||·) a fN b gn) (od a fN b gn)):=by
 refine iY func98 ntmps98 ?_;refine ck λdS=>?_;refine ck λdc=>?_;refine cU λaO=>?_;refine ao (gS (cap:=[]) (a7:=λI hw=>Re a fI fN b fl gn 193 [] (λi=>fN.getD i default||| gn.getD i default) (λi j=>(· ||·) (aT fN i j) (aT gn i j)) I (hw.now au) (hw.now hb) (λhe i j hi ad=>?_) λ_ i bX _ _=>ahz _ _ bX) (ab:=?_))
 ·obtain⟨h1,h2,rfl⟩:=HF he;obtain⟨m,rfl,r6,bG⟩:=uF h1;rw[amw];simp only[aT];by_cases ya:j<m
  ·simp[ya,ad]
  have bC:=El fN m i j h1;have cd:=El gn m i j h2;simp only[ya,aoQ,anT]at bC cd;simp only[anW,an6,BitVec.getLsbD_not,bC,cd,ya];simp
 rintro v bx es a6 ⟨s1,fk,rfl,rfl⟩;refine aa ?_;refine bQ 1 ?_;exact eR rfl (.dz rfl ds rfl (.t1 rfl)) [et s1 _] [0] λI hw=>⟨s1,fk,rfl,rfl⟩
theorem abD(a:Int)(fI:Value)(fN:List W)(b:Int)(fl:Value)(gn:List W)(w:World)(au:aV an w fA 1 fI fN)(hb:aV an w fA 1 fl gn): eH prog 282 [.agg #[.int .i64 a,fI],.agg #[.int .i64 b,fl]] w (tM (cp (od a fN b gn) a) (FF (λx y=>x&&!y) a fN b gn) (od a fN b gn)):=by
 refine iY func282 ntmps282 ?_;refine ck λdS=>?_;refine ck λdc=>?_;refine cU λaO=>?_;refine ao (gS (cap:=[]) (a7:=λI hw=>Re a fI fN b fl gn 347 [] (λi=>fN.getD i default&&& ~~~ gn.getD i default) (λi j=>(λx y=>x&&!y) (aT fN i j) (aT gn i j)) I (hw.now au) (hw.now hb) (λhe i j hi ad=>?_) λ_ i bX _ _=>abC _ _ bX) (ab:=?_))
 ·obtain⟨h1,h2,rfl⟩:=HF he;obtain⟨m,rfl,r6,bG⟩:=uF h1;rw[amw];simp only[aT];by_cases ya:j<m
  ·simp[ya,ad]
  have bC:=El fN m i j h1;have cd:=El gn m i j h2;simp only[ya,aoQ,anT]at bC cd;simp only[anW,an6,BitVec.getLsbD_not,bC,cd,ya];simp
 rintro v bx es a6 ⟨s1,fk,rfl,rfl⟩;refine aa ?_;refine bQ 1 ?_;exact eR rfl (.dz rfl ds rfl (.t1 rfl)) [et s1 _] [0] λI hw=>⟨s1,fk,rfl,rfl⟩
end Go.Proofs.bK
