/- Lemmas for the law WholeSound. -/
import Derived.Test.YtiknadellddjhaaGreatDoorS03
import Derived.Test.YtiknadellddjhaaGreatDoorS04
set_option linter.all false
open Go.Proofs.Tryz
set_option maxHeartbeats 1600000
open Go.cc Go Go.bU
attribute [local irreducible] Go.wpList Go.Code.wp Go.bodyPost Go.Exit.then Go.Exit.inBlock Go.Calls
namespace Go.bU
theorem Ai{s:ByteArray}(h:s.size<1\/32<s.size\/kn (dM s 0)=false):eC s=false:=by
 by_cases ag:s.size=0
 ·simp[eC,ag]
 rcases h with h1 | h1 | h1
 ·omega
 ·simp[eC,show ¬s.size<=32 by omega]
 have:nD s 0=false:=by simp only[nD,h1,aow,aoQ,anT,aoU]
 rw[eC,kx (i:=0) (by omega) this,anM]
theorem wH(s:ByteArray)(i:Nat):(!kn (dM s i)&&!(decide (48<=dM s i)&&decide (dM s i<=57))&&!bO ((dM s i:Int)=95))=!pV s i:=by rw[show bO ((dM s i:Int)=95)=decide (dM s i=95) by rw[ch];exact am3.2 (by omega)];unfold pV xL;cases kn (dM s i)<;>cases decide (48<=dM s i)<;>cases decide (dM s i<=57)<;>cases decide (dM s i=95)<;>rfl
theorem Ah{s:ByteArray}(h1:1<=s.size)(h2:s.size<=32)(h3:∀j,j<s.size->nD s j=true):eC s=true:=by simp only[eC,ami,amj,fX];exact⟨⟨h1,h2⟩,h3⟩
theorem DO{s:ByteArray}{i:Nat}:(!((bO ((97:Int)<=dM s i)&&bO ((dM s i:Int)<=122)||bO ((65:Int)<=dM s i)&&bO ((dM s i:Int)<=90))||bO (0<(i:Int))&&(bO ((48:Int)<=dM s i)&&bO ((dM s i:Int)<=57)||bO ((dM s i:Int)=95))))=!nD s i:=by refine amC _ (amN.2 ?_);simp only[nD,kn,xL,amr,ami,amj,aq];omega
theorem AP{s:ByteArray}{i lo:Nat}:(bO ((dM s i:Int)<lo)||bO (126<(dM s i:Int))||bO ((dM s i:Int)=34))=!(decide (lo<=dM s i)&&decide (dM s i<=126)&&decide (dM s i≠34)):=by rw[amN];simp only[amr,ami,amk,amx,amu,aq];omega
theorem Lo{s:ByteArray}{lo:Nat}:wi lo s=true↔∀i,i<s.size->(decide (lo<=dM s i)&&decide (dM s i<=126)&&decide (dM s i≠34))=true:=fX
theorem Lp{s:ByteArray}{i lo:Nat}(hi:i<s.size)(h:(decide (lo<=dM s i)&&decide (dM s i<=126)&&decide (dM s i≠34))=false):wi lo s=false:=kx hi h
end Go.bU
namespace Go.Proofs.bK
theorem Ny(c:Nat)(w:World):bj prog 392 [.int .u8 c] w λ_ v _=>v=.bool (kn c):=by refine ca func392 ntmps392 ?_;refine bP rfl (.t1 rfl) λI hw=>?_;refine amC Value.bool (amN.2 ?_);simp only[kn,amr,ami,aq,amj];omega
theorem Ww(c:Nat)(w:World):bj prog 393 [.int .u8 c] w λ_ v _=>v=.bool (decide (48<=c)&&decide (c<=57)):=by refine ca func393 ntmps393 ?_;refine bP rfl (.t1 rfl) λI hw=>?_;refine amC Value.bool (amN.2 ?_);simp only[kn,amr,ami,aq,amj];omega
theorem S9(c:Nat)(w:World):bj prog 360 [.int .u8 c] w λ_ v _=>v=.bool (kn c):=by refine ca func360 ntmps360 ?_;refine bP rfl (.t1 rfl) λI hw=>?_;refine amC Value.bool (amN.2 ?_);simp only[kn,amr,ami,aq,amj];omega
theorem afM(c:Nat)(w:World):bj prog 361 [.int .u8 c] w λ_ v _=>v=.bool (decide (48<=c)&&decide (c<=57)):=by refine ca func361 ntmps361 ?_;refine bP rfl (.t1 rfl) λI hw=>?_;refine amC Value.bool (amN.2 ?_);simp only[kn,amr,ami,aq,amj];omega
theorem R4(c:Nat)(w:World):bj prog 402 [.int .u8 c] w λ_ v _=>v=.bool (kn c):=by refine ca func402 ntmps402 ?_;refine bP rfl (.t1 rfl) λI hw=>?_;refine amC Value.bool (amN.2 ?_);simp only[kn,amr,ami,aq,amj];omega
theorem adL(c:Nat)(w:World):bj prog 403 [.int .u8 c] w λ_ v _=>v=.bool (decide (48<=c)&&decide (c<=57)):=by refine ca func403 ntmps403 ?_;refine bP rfl (.t1 rfl) λI hw=>?_;refine amC Value.bool (amN.2 ?_);simp only[kn,amr,ami,aq,amj];omega
theorem Sd(c:Nat)(w:World):bj prog 353 [.int .u8 c] w λ_ v _=>v=.bool (kn c):=by refine ca func353 ntmps353 ?_;refine bP rfl (.t1 rfl) λI hw=>?_;refine amC Value.bool (amN.2 ?_);simp only[kn,amr,ami,aq,amj];omega
theorem adO(c:Nat)(w:World):bj prog 354 [.int .u8 c] w λ_ v _=>v=.bool (decide (48<=c)&&decide (c<=57)):=by refine ca func354 ntmps354 ?_;refine bP rfl (.t1 rfl) λI hw=>?_;refine amC Value.bool (amN.2 ?_);simp only[kn,amr,ami,aq,amj];omega
theorem Wl(s:ByteArray)(w:World):bj prog 362 [.string s] w λ_ v _=>v=.bool (eC s):=by
 refine ca func362 ntmps362 ?_;refine fm (h:=eY (a7:=λ_ I hw=>Ny _ I)) (ab:=aa ?_);refine bA (λh1=>?_) λh1=>?_
 ·refine bl λI hw=>?_;simp only[amr,amk,aq]at h1;rw[Ai (by
   rcases h1 with(h1 | h1) | h1
   ·exact .inl (by omega)
   ·exact .inr (.inl (by omega))
   exact .inr (.inr h1))];rfl
 simp only[amt,amm,ar]at h1;refine aa ?_;refine b9 (λi:Nat=>0<=i/\i<=s.size/\∀j,j<i->pV s j=true) (λi=>[(21,true,.int .i64 i),(20,true,.int .i64 s.size),(0,true,.string s)]) (λ_=>Mem [(w,an)] []) (λi=>s.size-i) 0 ⟨by omega,by omega,λj ad=>by omega⟩ ?_ ⟨rfl,rfl,rfl,trivial⟩ c7
 rintro i ⟨r2,hi,bS⟩;refine bg (λh2=>?_) λh2=>?_
 ·have bF:i<s.size:=by rw[aq]at h2;omega
  refine aa ?_;refine ao (bw (λI hw=>Ny _ I) ?_);rintro v cp bX rfl fq;refine aa ?_;refine fm (h:=eY (a7:=λ_ I hw=>Ww _ I)) (ab:=aa ?_);refine bA (λh3=>?_) λh3=>?_
  ·refine bl λI hw=>?_;have h3:=(wH s i).symm.trans h3;rw[amk]at h3;rw[show eC s=false by simp[eC,kx bF (By h3)]];rfl
  have h3:=(wH s i).symm.trans h3;rw[amm]at h3;refine aa ?_;exact bt (i+1) ⟨by omega,by omega,kq bS h3⟩ (by omega) (hA:=c7)
 rw[ar]at h2;refine bl λI hw=>?_;rw[Ah (by omega) (by omega) λj ad=>Bx h1.2 (bS j (by omega))];rfl
theorem Li(s:ByteArray)(w:World):bj prog 297 [.string s] w λ_ v _=>v=.bool (eC s):=by
 refine ca func297 ntmps297 ?_;refine fm (h:=eY (a7:=λ_ I hw=>S9 _ I)) (ab:=aa ?_);refine bA (λh1=>?_) λh1=>?_
 ·refine bl λI hw=>?_;simp only[amr,amk,aq]at h1;rw[Ai (by
   rcases h1 with(h1 | h1) | h1
   ·exact .inl (by omega)
   ·exact .inr (.inl (by omega))
   exact .inr (.inr h1))];rfl
 simp only[amt,amm,ar]at h1;refine aa ?_;refine b9 (λi:Nat=>0<=i/\i<=s.size/\∀j,j<i->pV s j=true) (λi=>[(21,true,.int .i64 i),(20,true,.int .i64 s.size),(0,true,.string s)]) (λ_=>Mem [(w,an)] []) (λi=>s.size-i) 0 ⟨by omega,by omega,λj ad=>by omega⟩ ?_ ⟨rfl,rfl,rfl,trivial⟩ c7
 rintro i ⟨r2,hi,bS⟩;refine bg (λh2=>?_) λh2=>?_
 ·have bF:i<s.size:=by rw[aq]at h2;omega
  refine aa ?_;refine ao (bw (λI hw=>S9 _ I) ?_);rintro v cp bX rfl fq;refine aa ?_;refine fm (h:=eY (a7:=λ_ I hw=>afM _ I)) (ab:=aa ?_);refine bA (λh3=>?_) λh3=>?_
  ·refine bl λI hw=>?_;have h3:=(wH s i).symm.trans h3;rw[amk]at h3;rw[show eC s=false by simp[eC,kx bF (By h3)]];rfl
  have h3:=(wH s i).symm.trans h3;rw[amm]at h3;refine aa ?_;exact bt (i+1) ⟨by omega,by omega,kq bS h3⟩ (by omega) (hA:=c7)
 rw[ar]at h2;refine bl λI hw=>?_;rw[Ah (by omega) (by omega) λj ad=>Bx h1.2 (bS j (by omega))];rfl
theorem adF(s:ByteArray)(w:World):bj prog 389 [.string s] w λ_ v _=>v=.bool (eC s):=by
 refine ca func389 ntmps389 ?_;refine fm (h:=eY (a7:=λ_ I hw=>R4 _ I)) (ab:=aa ?_);refine bA (λh1=>?_) λh1=>?_
 ·refine bl λI hw=>?_;simp only[amr,amk,aq]at h1;rw[Ai (by
   rcases h1 with(h1 | h1) | h1
   ·exact .inl (by omega)
   ·exact .inr (.inl (by omega))
   exact .inr (.inr h1))];rfl
 simp only[amt,amm,ar]at h1;refine aa ?_;refine b9 (λi:Nat=>1<=i/\i<=s.size/\∀j,j<i->pV s j=true) (λi=>[(3,true,.int .i64 i),(0,true,.string s)]) (λ_=>Mem [(w,an)] []) (λi=>s.size-i) 1 ⟨by omega,by omega,λj ad=>by(obtain rfl:j=0:=by omega);unfold pV;rw[show kn (dM s 0)=true from h1.2];rfl⟩ ?_ ⟨rfl,rfl,trivial⟩ c7
 rintro i ⟨r2,hi,bS⟩;refine bg (λh2=>?_) λh2=>?_
 ·have bF:i<s.size:=by rw[aq]at h2;omega
  refine aa ?_;refine ao (bw (λI hw=>R4 _ I) ?_);rintro v cp bX rfl fq;refine aa ?_;refine fm (h:=eY (a7:=λ_ I hw=>adL _ I)) (ab:=aa ?_);refine bA (λh3=>?_) λh3=>?_
  ·refine bl λI hw=>?_;have h3:=(wH s i).symm.trans h3;rw[amk]at h3;rw[show eC s=false by simp[eC,kx bF (By h3)]];rfl
  have h3:=(wH s i).symm.trans h3;rw[amm]at h3;refine aa ?_;exact bt (i+1) ⟨by omega,by omega,kq bS h3⟩ (by omega) (hA:=c7)
 rw[ar]at h2;refine bl λI hw=>?_;rw[Ah (by omega) (by omega) λj ad=>Bx h1.2 (bS j (by omega))];rfl
theorem Sc(s:ByteArray)(w:World):bj prog 287 [.string s] w λ_ v _=>v=.bool (eC s):=by
 refine ca func287 ntmps287 ?_;refine fm (h:=eY (a7:=λ_ I hw=>Sd _ I)) (ab:=aa ?_);refine bA (λh1=>?_) λh1=>?_
 ·refine bl λI hw=>?_;simp only[amr,amk,aq]at h1;rw[Ai (by
   rcases h1 with(h1 | h1) | h1
   ·exact .inl (by omega)
   ·exact .inr (.inl (by omega))
   exact .inr (.inr h1))];rfl
 simp only[amt,amm,ar]at h1;refine aa ?_;refine b9 (λi:Nat=>1<=i/\i<=s.size/\∀j,j<i->pV s j=true) (λi=>[(3,true,.int .i64 i),(0,true,.string s)]) (λ_=>Mem [(w,an)] []) (λi=>s.size-i) 1 ⟨by omega,by omega,λj ad=>by(obtain rfl:j=0:=by omega);unfold pV;rw[show kn (dM s 0)=true from h1.2];rfl⟩ ?_ ⟨rfl,rfl,trivial⟩ c7
 rintro i ⟨r2,hi,bS⟩;refine bg (λh2=>?_) λh2=>?_
 ·have bF:i<s.size:=by rw[aq]at h2;omega
  refine aa ?_;refine ao (bw (λI hw=>Sd _ I) ?_);rintro v cp bX rfl fq;refine aa ?_;refine fm (h:=eY (a7:=λ_ I hw=>adO _ I)) (ab:=aa ?_);refine bA (λh3=>?_) λh3=>?_
  ·refine bl λI hw=>?_;have h3:=(wH s i).symm.trans h3;rw[amk]at h3;rw[show eC s=false by simp[eC,kx bF (By h3)]];rfl
  have h3:=(wH s i).symm.trans h3;rw[amm]at h3;refine aa ?_;exact bt (i+1) ⟨by omega,by omega,kq bS h3⟩ (by omega) (hA:=c7)
 rw[ar]at h2;refine bl λI hw=>?_;rw[Ah (by omega) (by omega) λj ad=>Bx h1.2 (bS j (by omega))];rfl
theorem Fi(s:ByteArray)(w:World):bj prog 221 [.string s] w λ_ v _=>v=.bool (eC s):=by
 refine ca func221 ntmps221 ?_;refine bA (λh1=>?_) λh1=>?_
 ·refine bl λI hw=>?_;simp only[amr,aq]at h1;rw[Ai (by omega)];rfl
 refine aa ?_;simp only[amt,ar]at h1;refine b9 (λi:Nat=>i<=s.size/\∀j,j<i->nD s j=true) (λs'=>[(3,true,.int .i64 s'),(0,true,.string s)]) (λ_=>Mem [(w,an)] []) (λi=>s.size-i) (0) ⟨by omega,λj ad=>by omega⟩ ?_ ⟨rfl,rfl,trivial⟩ c7
 rintro i ⟨hi,bS⟩;refine bg (λh2=>?_) λh2=>?_
 ·have bF:i<s.size:=by rw[aq]at h2;omega
  refine bg (λh3=>?_) λh3=>?_
  ·refine bl λI hw=>?_;have h3:=DO.symm.trans h3;rw[amk]at h3;rw[show eC s=false by simp[eC,kx bF h3]];rfl
  have h3:=DO.symm.trans h3;rw[amm]at h3;refine aa ?_;exact bt (i+1) ⟨by omega,kq bS h3⟩ (by omega) (hA:=c7)
 rw[ar]at h2;refine bl λI hw=>?_;rw[Ah (by omega) (by omega) λj ad=>bS j (by omega)];rfl
theorem Oc(s:ByteArray)(w:World):bj prog 228 [.string s] w λ_ v _=>v=.bool (eC s):=by
 refine ca func228 ntmps228 ?_;refine bA (λh1=>?_) λh1=>?_
 ·refine bl λI hw=>?_;simp only[amr,aq]at h1;rw[Ai (by omega)];rfl
 refine aa ?_;simp only[amt,ar]at h1;refine b9 (λi:Nat=>i<=s.size/\∀j,j<i->nD s j=true) (λs'=>[(3,true,.int .i64 s'),(0,true,.string s)]) (λ_=>Mem [(w,an)] []) (λi=>s.size-i) (0) ⟨by omega,λj ad=>by omega⟩ ?_ ⟨rfl,rfl,trivial⟩ c7
 rintro i ⟨hi,bS⟩;refine bg (λh2=>?_) λh2=>?_
 ·have bF:i<s.size:=by rw[aq]at h2;omega
  refine bg (λh3=>?_) λh3=>?_
  ·refine bl λI hw=>?_;have h3:=DO.symm.trans h3;rw[amk]at h3;rw[show eC s=false by simp[eC,kx bF h3]];rfl
  have h3:=DO.symm.trans h3;rw[amm]at h3;refine aa ?_;exact bt (i+1) ⟨by omega,kq bS h3⟩ (by omega) (hA:=c7)
 rw[ar]at h2;refine bl λI hw=>?_;rw[Ah (by omega) (by omega) λj ad=>bS j (by omega)];rfl
theorem JC(n:Int)(w:World):bj prog 222 [.int .i64 n] w λ_ v _=>v=.bool (eJ n):=by refine ca func222 ntmps222 ?_;refine bP rfl (.t1 rfl) λI hw=>?_;simp only[eJ,ch];rfl
theorem Oe(n:Int)(w:World):bj prog 229 [.int .i64 n] w λ_ v _=>v=.bool (eJ n):=by refine ca func229 ntmps229 ?_;refine bP rfl (.t1 rfl) λI hw=>?_;simp only[eJ,ch];rfl
theorem Wn(n:Int)(w:World):bj prog 300 [.int .i64 n] w λ_ v _=>v=.bool (eJ n):=by refine ca func300 ntmps300 ?_;refine bP rfl (.t1 rfl) λI hw=>?_;simp only[eJ,ch];rfl
theorem adH(n:Int)(w:World):bj prog 352 [.int .i64 n] w λ_ v _=>v=.bool (eJ n):=by refine ca func352 ntmps352 ?_;refine bP rfl (.t1 rfl) λI hw=>?_;simp only[eJ,ch];rfl
theorem JD(n:Int)(w:World):bj prog 223 [.int .i64 n] w λ_ v _=>v=.bool (mS n):=by refine ca func223 ntmps223 ?_;refine bP rfl (.t1 rfl) λI hw=>?_;simp only[mS,ch];rfl
theorem KI(n:Int)(w:World):bj prog 348 [.int .i64 n] w λ_ v _=>v=.bool (mS n):=by refine ca func348 ntmps348 ?_;refine bP rfl (.t1 rfl) λI hw=>?_;simp only[mS,ch];rfl
theorem Lj(n:Int)(w:World):bj prog 225 [.int .i64 n] w λ_ v _=>v=.bool (nv n):=by refine ca func225 ntmps225 ?_;refine bP rfl (.t1 rfl) λI hw=>?_;simp only[nv,ch];rfl
theorem KJ(n:Int)(w:World):bj prog 288 [.int .i64 n] w λ_ v _=>v=.bool (nv n):=by refine ca func288 ntmps288 ?_;refine bP rfl (.t1 rfl) λI hw=>?_;refine amC Value.bool (amN.2 ?_);simp only[nv,ami,aq,amj];omega
theorem Wj(a:Int)(w:World):bj prog 140 [.int .i64 a] w λ_ v _=>v=.bool (decide (a=1\/a=2)):=by refine ca func140 ntmps140 ?_;refine bP rfl (.t1 rfl) λI hw=>?_;refine amC Value.bool (amN.2 ?_);simp only[amr,aq,amj]
theorem Xr(a:Int)(w:World):bj prog 58 [.int .i64 a] w λ_ v _=>v=.bool (decide (a=1\/a=2)):=by refine ca func58 ntmps58 ?_;refine bP rfl (.t1 rfl) λI hw=>?_;refine amC Value.bool (amN.2 ?_);simp only[amr,aq,amj]
theorem adC(a:Int)(w:World):bj prog 200 [.int .i64 a] w λ_ v _=>v=.bool (decide (a=1\/a=2)):=by refine ca func200 ntmps200 ?_;refine bP rfl (.t1 rfl) λI hw=>?_;refine amC Value.bool (amN.2 ?_);simp only[amr,aq,amj]
theorem adB(a:Int)(w:World):bj prog 108 [.int .i64 a] w λ_ v _=>v=.bool (decide (a=1\/a=2)):=by refine ca func108 ntmps108 ?_;refine bP rfl (.t1 rfl) λI hw=>?_;refine amC Value.bool (amN.2 ?_);simp only[amr,aq,amj]
theorem Wo(a:Int)(w:World):bj prog 363 [.int .i64 a] w λ_ v _=>v=.int .i64 (if a=1 then 15 else 32):=by
 refine ca func363 ntmps363 ?_;refine bA (λh1=>?_) λh1=>?_
 ·rw[aq]at h1;refine bl λI hw=>?_;rw[amo h1];rfl
 rw[ar]at h1;refine bl λI hw=>?_;rw[amn h1];rfl
theorem adI(a:Int)(w:World):bj prog 390 [.int .i64 a] w λ_ v _=>v=.int .i64 (if a=1 then 15 else 32):=by
 refine ca func390 ntmps390 ?_;refine bA (λh1=>?_) λh1=>?_
 ·rw[aq]at h1;refine bl λI hw=>?_;rw[amo h1];rfl
 rw[ar]at h1;refine bl λI hw=>?_;rw[amn h1];rfl
theorem Of(s:ByteArray)(lo:Nat)(w:World)(ag:s.size<=9223372036854775807):bj prog 59 [.string s,.int .u8 lo] w λ_ v _=>v=.bool (wi lo s):=by
 refine ca func59 ntmps59 ?_;refine b9 (λi:Nat=>i<=s.size/\∀j,j<i->(decide (lo<=dM s j)&&decide (dM s j<=126)&&decide (dM s j≠34))=true) (λi=>[(5,true,.int .i64 i),(1,true,.int .u8 lo),(0,true,.string s)]) (λ_=>Mem [(w,an)] []) (λi=>s.size-i) 0 ⟨by omega,λj ad=>by omega⟩ ?_ ⟨rfl,rfl,rfl,trivial⟩ c7
 rintro i ⟨hi,bS⟩;refine bg (λh1=>?_) λh1=>?_
 ·have cb:i<s.size:=by rw[aq]at h1;omega
  refine bg (λh2=>?_) λh2=>?_
  ·refine bl λI hw=>?_;have h2:=AP.symm.trans h2;rw[amk]at h2;rw[Lp cb h2];rfl
  have h2:=AP.symm.trans h2;rw[amm]at h2;refine aa ?_;exact bt (i+1) ⟨by omega,kq bS h2⟩ (by omega) (hA:=c7)
 rw[ar]at h1;refine bl λI hw=>?_;rw[Lo.2 λj ad=>bS j (by omega)];rfl
theorem adA(s:ByteArray)(w:World):bj prog 109 [.string s] w λ_ v _=>v=.bool (qN s):=by
 refine ca func109 ntmps109 ?_;refine bA (λh1=>?_) λh1=>?_
 ·refine bl λI hw=>?_;simp only[amr,aq]at h1;rw[show qN s=false from by unfold qN;exact h1.elim (λq=>by rw[amy (by omega)];rfl) λq=>by rw[amy (p:=s.size<=1024) (by omega)];simp];rfl
 simp only[amt,ar]at h1;refine aa ?_;refine b9 (λi:Nat=>i<=s.size/\∀j,j<i->(decide (33<=dM s j)&&decide (dM s j<=126)&&decide (dM s j≠34))=true) (λi=>[(3,true,.int .i64 i),(0,true,.string s)]) (λ_=>Mem [(w,an)] []) (λi=>s.size-i) 0 ⟨by omega,λj ad=>by omega⟩ ?_ ⟨rfl,rfl,trivial⟩ c7
 rintro i ⟨hi,bS⟩;refine bg (λh2=>?_) λh2=>?_
 ·have bF:i<s.size:=by rw[aq]at h2;omega
  refine bg (λh3=>?_) λh3=>?_
  ·refine bl λI hw=>?_;have h3:=(AP (lo:=33)).symm.trans h3;rw[amk]at h3;rw[show qN s=false by unfold qN;rw[Lp bF h3];simp];rfl
  have h3:=(AP (lo:=33)).symm.trans h3;rw[amm]at h3;refine aa ?_;exact bt (i+1) ⟨by omega,kq bS h3⟩ (by omega) (hA:=c7)
 rw[ar]at h2;refine aa ?_;have w5:wi 33 s=true:=Lo.2 λj ad=>bS j (by omega);refine bP rfl (.t1 rfl) λI hw=>?_;rw[show qN s=true by unfold qN;rw[amq (by omega),amq (by omega),w5];rfl];rfl
end Go.Proofs.bK
