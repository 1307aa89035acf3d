/- Lemmas for the law WholeSound. -/
import Derived.Test.YtiknadellddjhaaGreatDoorS07
set_option linter.all false
open Go.Proofs.Tryz
set_option maxHeartbeats 1600000
open Go Go.cc Go.gH
namespace Go.Proofs.bK
attribute [local irreducible] wpList Code.wp bodyPost Exit.then Exit.inBlock Calls
theorem zi(n:Int)(aG:Value)(rows:List (BitVec 64))(w:World)(h:aV an w fA 1 aG rows):bj prog 99 [.agg #[.int .i64 n,aG]] w λ_ v _=>v=.int .i64 (if fx n rows=true then 0 else 10):=by
 refine ca func99 ntmps99 ?_;refine ck λb=>?_;refine bA (λh1=>?_) λh1=>?_
 ·refine bl λI hw=>?_;have:fx n rows=false:=by simp only[amr,amk,aq,ar]at h1;simp only[fx,amx,amu];omega
  rw[this];rfl
 simp only[amt,amm,aq,ar]at h1;obtain⟨m,rfl⟩:∃m:Nat,n=m:=⟨n.toNat,by omega⟩;have bG:rows.length=m:=by omega
 refine aa ?_;refine b9 (λk:Nat=>k<=m/\∀i,i<k->(m=64\/rows.getD i default>>>m=0#64)) (λk=>[(22,true,.int .i64 k),(21,true,.int .i64 m),(1,true,ax b)]) (λ_=>Mem [(w,an)] [.box b [.int .i64 m,aG] 113]) (λk=>m-k) 0 ⟨by omega,λi hi=>by omega⟩ ?_;rintro k ⟨hk,bS⟩;refine aa ?_;refine sA rfl (λh2=>?_) λh2=>?_
 ·have ng:k<rows.length:=by omega
  refine aa ?_;refine cV [0,1,2,3,4,5,6,7,8,9,10,11,12,13,14] mixed ?_;refine aP ?_;refine aa ?_;have hm:(BitVec.ofInt 64 (m:Int)).toNat=m:=by simp;omega
  refine bA (λh3=>?_) λh3=>?_
  ·refine bl λI hw=>?_;have:fx m rows=false:=by simp only[ami,amk,aq,ar,hm]at h3;simp only[fx,amx,amt,amu];refine .inr ⟨by omega,?_⟩;rw[List.all_eq_false];exact⟨_,amF (getD_some ng),by simpa using h3.2⟩
   rw[this];rfl
  refine aa ?_;refine bt (k+1) ⟨by omega,λi hi=>?_⟩ (by omega);by_cases nO:i<k
  ·exact bS i nO
  obtain rfl:i=k:=by omega
  simp only[amx,amm,aq,ar,hm]at h3;rcases h3 with h3 | h3
  ·exact .inl (by omega)
  exact .inr h3
 refine bl λI hw=>?_;have:fx m rows=true:=by
  simp only[fx,ami,amr,amj,ank];refine⟨⟨⟨by omega,by omega⟩,by omega⟩,?_⟩;by_cases fH:m=64
  ·exact .inl (by omega)
  refine .inr λr aH=>?_;obtain⟨i,hi,YT⟩:=aod aH;have:=bS i (by omega);rw[aml,amp hi,anE,YT]at this;simpa[fH]using this
 rw[this];rfl
abbrev et(aG:Value)(rows:List W):aA:=.own aG 81 1 fA rows
theorem acO(n:Int)(lv:Value)(l:List b5)(w:World)(h:aV an w bz 2 lv l): eH prog 190 [.int .i64 n,lv] w λ_ v es _=>
  match rl n l with
  | some rows=>∃aG,aD aG/\v=.tuple #[.agg #[.int .i64 n,aG],.int .i64 0]/\es=[et aG rows]
  | none=>v=.tuple #[.agg #[.int .i64 0,U],.int .i64 10]/\es=[]:=by
 have hle:=h.le;refine iY func190 ntmps190 ?_;refine cU λaO=>?_;refine bA (λh1=>?_) λh1=>?_
 ·refine aa ?_;refine bQ 0 ?_;refine eR rfl (.dz rfl aL rfl (.t1 rfl)) [] [] λI hw=>?_;simp only[amr,aq]at h1;have:rl n l=none:=by unfold rl;rw[amn (by omega)]
  rw[this];exact⟨rfl,rfl⟩
 simp only[amt,ar]at h1;obtain⟨m,rfl⟩:∃m:Nat,n=m:=⟨n.toNat,by omega⟩;refine aa ?_;refine ao (ix _ _ _ _ _ _ (ab:=?_));intro aG aw;refine aa ?_;refine cU λb=>?_;refine bQ 0 ?_;refine b9 (λs:Nat×List W=>s.1<=l.length/\s.2.length=m/\vV m (List.replicate m 0#64) l=vV m s.2 (l.drop s.1)) (λs=>[(22,true,.int .i64 s.1),(21,true,.int .i64 l.length),(20,true,lv),(6,true,ax b),(4,true,ax aO),(0,true,.int .i64 m)]) (λs=>Mem [(w,an)] [.box b [.int .i64 m,aG] 113,et aG s.2,.box aO [.int .i64 0,U] 113]) (λs=>l.length-s.1) (0,List.replicate m 0#64) ⟨by simp,by simp,rfl⟩ ?_
 rintro⟨k,rows⟩ ⟨hk,bG,zR⟩;dsimp only at hk bG zR⊢;refine aa ?_;refine sA rfl (λh2=>?_) λh2=>?_
 ·have ng:k<l.length:=by omega
  have O3:l.drop k=l.getD k default::l.drop (k+1):=by rw[List.drop_eq_getElem_cons ng,aml,amp ng];rfl
  refine aa ?_;refine cU λBu=>?_;refine bQ 0 ?_;refine bA (λh3=>?_) λh3=>?_
  ·refine aa ?_;refine bQ 3 ?_;refine eR rfl (.dz rfl mh rfl (.t1 rfl)) [] [] λI hw=>?_;simp only[amr,aq]at h3;have:rl m l=none:=by unfold rl;rw[amo (by omega),amw,zR,O3];unfold vV;rw[amn (by omega)]
   rw[this];exact⟨rfl,rfl⟩
  refine aa ?_;simp only[amt,ar]at h3;obtain⟨A,hA⟩:∃A:Nat,(l.getD k default).A=A:=⟨(l.getD k default).A.toNat,by omega⟩;obtain⟨B,hB⟩:∃B:Nat,(l.getD k default).B=B:=⟨(l.getD k default).B.toNat,by omega⟩;rw[hA,hB];refine cV [0,1,2,3,4,5,6,7,8,9,10,11,12] mixed ?_;refine aP ?_;refine hz (h:=fB 2 rfl _ (ab:=aa ?_));refine bt (k+1,put rows A B) ⟨by simp;omega,by simp[KE,bG],?_⟩ (by simp;omega) (hA:=λ_ h=>by have:=h.tail;rw[hA,hB,amw,FL B (by omega)]at this;exact this);rw[zR,O3];conv=>lhs;unfold vV
  rw[amo (by omega),hA,hB];rfl
 refine aa ?_;refine bQ 2 ?_;refine eR rfl (.dz rfl gC rfl (.t1 rfl)) [et aG rows] [1] λI hw=>?_;have:rl m l=some rows:=by unfold rl;rw[amo (by omega),amw,zR,an9 (by omega)];rfl
 rw[this];exact⟨aG,aw,rfl,rfl⟩
def lg(w:World):Prop:=aV an w zr 1 (u6 3 64) Lib.deBruijn64tab
theorem ahw(r:W)(w:World)(bp:lg w):bj prog 344 [u64 r] w λ_ v _=>v=.int .i64 (if r=0#64 then 64 else oD r):=by
 unfold lg at bp;refine ca func344 ntmps344 ?_;refine sA rfl (λh1=>?_) λh1=>?_
 ·refine bl λI hw=>?_;rw[amo h1];rfl
 obtain⟨h2,h3⟩:=ahx r h1;have aC:=(Df r h1).1;refine aa ?_;have aW:Lib.deBruijn64tab.getD (((r&&& -r)* 285870213051353865#64)>>>(58#64).toNat).toNat default=oD r:=h3;rw[aW];refine bl λI hw=>?_;rw[amn h1];rfl
theorem WX(row:W)(c3:Nat)[aS prog c3](cap:List Value)(bN:List Nat->List aA->Prop)(qu:List aA)(w:World)(hw:Mem [] qu w)(h0:bN [] qu) (bp:aV (bB qu) w zr 1 (u6 3 64) Lib.deBruijn64tab) (step:∀jS j e I,bN jS e->j<64->row.getLsbD j=true->(∃s,bitsOf row=(jS++[j])++s)->Mem [(w,bB qu)] e I->eM prog c3 (.int .i64 (j:Nat)::cap) e I λ_ v e' _=>v=.tuple #[]/\bN (jS++[j]) e'): eM prog 273 [u64 row,.func (.func c3) #[] cap.toArray] qu w λ_ v e' _=>v=.tuple #[]/\bN (bitsOf row) e':=by
 refine rP func273 ntmps273 hw ?_;refine b9 (λs:W×List Nat×List aA=>bitsOf row=s.2.1++bitsOf s.1/\bN s.2.1 s.2.2) (λs=>[(0,true,u64 s.1),(1,true,.func (.func c3) #[] cap.toArray)]) (λs=>Mem [(w,bB qu)] s.2.2) (λs=>(bitsOf s.1).length) (row,[],qu) ⟨rfl,h0⟩ ?_;rintro⟨r,jS,e⟩ ⟨Ic,fi⟩;dsimp only at Ic fi⊢;refine bg (λh1=>?_) λh1=>?_
 ·simp only[amk,ar]at h1;have IV:=V0 row jS r Ic h1;refine aa ?_;refine ao (bw (λI hw=>ahw r I (hw.now bp)) ?_);rintro v n a6 rfl bh;rw[amn h1];refine aa ?_;refine ao (OB (a7:=λI hw=>step jS (oD r) e I fi (Df r h1).1 ?_ ⟨_,IV⟩ hw.cI) (ab:=?_))
  ·rw[<-Q0,IV];simp
  rintro v n e' a6 ⟨rfl,X2⟩;refine aa ?_;refine bt (r&&& (r-1#64),jS++[oD r],e') ⟨IV,X2⟩ ?_ (hA:=eS);dsimp only;rw[M6 r h1];simp
 simp only[amm,aq]at h1;subst h1;refine aa ?_;refine acy rfl .nil aL λI hw=>⟨rfl,?_⟩;rw[Ic,V1,amB];exact fi
abbrev js(v:Value)(xs:List b5):aA:=.own v 178 2 bz xs
theorem ac8(i:Int)(j:Nat)(eu bi:Nat)(v:Value)(xs:List b5)(w:World)(aB:xs.length<4096)(hi:gM (bB [.box eu [v] 37,js v xs]) w bi [.int .i64 i]) (hw:Mem [] [.box eu [v] 37,js v xs] w): eM prog 274 [.int .i64 j,ax eu,ax bi] [.box eu [v] 37,js v xs] w λ_ u es _=>u=.tuple #[]/\∃dL,aD dL/\es=[.box eu [dL] 37,js dL (xs++[⟨i,j⟩])]:=by refine rP func274 ntmps274 hw ?_;refine ao (eA _ _ (ab:=?_));intro v1 j6;refine aa ?_;refine ao (e6 2 (hk:=rfl) (bG:=by simp;omega) (ab:=?_));intro v2 iM;refine aa ?_;refine bQ 1 ?_;exact qF rfl .nil aL [_,_] [1,2] rfl (by decide) λI hw=>⟨rfl,v2,iM,rfl⟩
theorem ada(n:Int)(aG:Value)(rows:List W)(w:World)(h:aV an w fA 1 aG rows)(bp:lg w): eH prog 188 [.agg #[.int .i64 n,aG]] w λ_ v es _=>if fx n rows=true then ∃iQ,aD iQ/\v=.tuple #[iQ,.int .i64 0]/\es=[js iQ (nt n.toNat rows)]else v=.tuple #[U,.int .i64 10]/\es=[]:=by
 refine iY func188 ntmps188 ?_;refine ck λdS=>?_;refine ao (bw (λI hw=>zi n aG rows I (hw.now h)) ?_);rintro v bx a6 rfl cA;by_cases hok:fx n rows=true
 ·simp only[amo hok];obtain⟨m,rfl,r6,bG⟩:=uF hok;refine aa ?_;refine cK rfl (λh1=>by simp[ch]at h1) λ_=>?_;refine aa ?_;refine ao (ft ?_);intro eu;refine dZ 178 2 bz ?_;refine aa ?_;refine b9 (λs:Nat×Value×List b5=>s.1<=m/\aD s.2.1/\s.2.2=nt s.1 rows) (λs=>[(14,true,.int .i64 s.1),(13,true,.int .i64 m),(5,true,ax eu),(1,true,ax dS)]) (λs=>Mem [(w,an)] [.box eu [s.2.1] 37,js s.2.1 s.2.2,.box dS [.int .i64 m,aG] 113]) (λs=>m-s.1) (0,U,[]) ⟨by simp,⟨_,_,_,rfl⟩,rfl⟩ ?_ ⟨rfl,rfl,rfl,rfl,trivial⟩ λ_ h=>h.cI.cm [1,0,2]
  rintro⟨k,v,xs⟩ ⟨hk,aw,hxs⟩;dsimp only at hk aw hxs⊢;refine aa ?_;refine sA rfl (λh2=>?_) λh2=>?_
  ·have ng:k<rows.length:=by omega
   have nm:=Ko k rows;refine aa ?_;refine cU λbi=>?_;refine bQ 0 ?_;refine abi [1,2,0,3] (h:=?_);refine ao (en (es:=[.box eu [v] 37,js v xs]) (H:=[.box bi [.int .i64 k] 3,.box dS [.int .i64 m,aG] 113]) (a7:=λI p6=>
    WX (rows.getD k default) 274 [ax eu,ax bi] (λjS es=>∃dL,aD dL/\es=[.box eu [dL] 37,js dL (xs++vY k jS)]) _ I p6.dk.ei ⟨v,aw,by simp[vY]⟩ (p6.gw bp aL λe he=>amE _ he) ?_) (ab:=?_))
   ·rintro jS j e bX ⟨dL,yl,rfl⟩ ad hb ⟨s,ag⟩ hm;have aB:=M4 (rows.getD k default);rw[ag]at aB;simp only[ams,anr]at aB;refine(ac8 k j eu bi dL (xs++vY k jS) bX (by simp only[ams,vY,amD,hxs];omega) (hm.Hj (p6.sS aL) aL λe he=>he) hm.ei).mono ?_;rintro n u es gb ⟨rfl,v2,iM,rfl⟩;exact⟨rfl,v2,iM,by simp[vY]⟩
   rintro u n es bX ⟨rfl,v2,iM,rfl⟩;refine aa ?_;refine bt (k+1,v2,xs++vY k (bitsOf (rows.getD k default))) ⟨by dsimp only;omega,iM,by dsimp only;rw[RN,hxs]⟩ (by dsimp only;omega) (hA:=bV [0,1,3])
  refine aa ?_;refine eR rfl (.tmp rfl (.t1 rfl)) [js v xs] [1] λI hw=>?_;rw[hxs,show k=m from by omega];exact⟨v,aw,rfl,rfl⟩
 simp only[amn hok];refine aa ?_;refine cK rfl (λ_=>?_) (λh1=>by simp[ch]at h1);refine aa ?_;refine eR rfl (.tmp rfl (.t1 rfl)) [] [] λI hw=>?_;exact⟨rfl,rfl⟩
theorem OG{aQ:Type}[Inhabited aQ][DecidableEq aQ]{xs ys:List aQ}(aB:xs.length=ys.length)(h:∀i,i<xs.length->xs.getD i default=ys.getD i default):xs=ys:=by apply anw aB;intro i h1 h2;have:=h i h1;rwa[aml,aml,amp h1,amp h2]at this
theorem afQ(fI fl:Value)(xs ys:List Int)(w:World)(au:aV an w bd 1 fI xs)(hb:aV an w bd 1 fl ys): bj prog 10 [fI,fl] w λ_ v _=>v=.bool (decide (xs=ys)):=by
 have zN:=au.le;have w0:=hb.le;refine ca func10 ntmps10 ?_;refine bA (λh1=>?_) λh1=>?_
 ·refine bl λI hw=>?_;simp only[amk,ar]at h1;have:¬(xs=ys):=by rintro h3;subst h3;omega
  rw[amy this];rfl
 simp only[amm,aq]at h1;have zO:xs.length=ys.length:=by omega
 refine aa ?_;refine b9 (λk:Nat=>k<=xs.length/\∀i,i<k->xs.getD i default=ys.getD i default) (λk=>[(5,true,.int .i64 k),(0,true,fI),(1,true,fl)]) (λ_=>Mem [(w,an)] []) (λk=>xs.length-k) 0 ⟨by omega,λi hi=>by omega⟩ ?_
 rintro k ⟨hk,bS⟩;refine aa ?_;refine sA rfl (λh2=>?_) λh2=>?_
 ·have lL:k<xs.length:=by omega
  have ng:k<ys.length:=by omega
  refine aa ?_;refine cV [0,1,2,3,4,5,6,7,8] mixed ?_;refine aP ?_;refine bg (λh3=>?_) λh3=>?_
  ·refine bl λI hw=>?_;simp only[amk,ar]at h3;have:¬(xs=ys):=by rintro aC;subst aC;exact h3 rfl
   rw[amy this];rfl
  simp only[amm,aq]at h3;refine aa ?_;refine bt (k+1) ⟨by omega,λi hi=>?_⟩ (by omega);by_cases nO:i<k
  ·exact bS i nO
  obtain rfl:i=k:=by omega
  exact h3
 refine bl λI hw=>?_;rw[amq (OG zO λi hi=>bS i (by omega))];rfl
theorem JX(m:Nat)(c3:Nat)[aS prog c3](cap:List Value)(f:Nat->W)(w:World)(fH:m<=64) (hk:∀i I,i<m->Mem [(w,an)] [] I->bj prog c3 (.int .i64 (i:Nat)::cap) I λ_ v _=>v=u64 (f i)): eH prog 276 [.int .i64 m,.func (.func c3) #[] cap.toArray] w λ_ v es _=>∃aG,aD aG/\v=.agg #[.int .i64 m,aG]/\es=[et aG ((List.range m).map f)]:=by
 refine iY func276 ntmps276 ?_;refine cU λaO=>?_;refine ao (ix _ _ _ _ _ _ (ab:=?_));intro aG aw;refine aa ?_;refine cU λb=>?_;refine bQ 0 ?_;refine b9 (λs:Nat×List W=>s.1<=m/\s.2.length=m/\∀i,i<s.1->s.2.getD i default=f i) (λs=>[(12,true,.int .i64 s.1),(11,true,.int .i64 m),(5,true,ax b),(4,true,ax aO),(1,true,.func (.func c3) #[] cap.toArray)]) (λs=>Mem [(w,an)] [.box b [.int .i64 m,aG] 113,et aG s.2,.box aO [.int .i64 0,U] 113]) (λs=>m-s.1) (0,List.replicate m 0#64) ⟨by simp,by simp,λi hi=>by simp at hi⟩ ?_
 rintro⟨k,rows⟩ ⟨lL,bG,bS⟩;dsimp only at lL bG bS⊢;refine aa ?_;refine sA rfl (λh2=>?_) λh2=>?_
 ·refine aa ?_;refine cV [0,1,2,3,4,5,6,7] mixed ?_;refine aP ?_;refine bL _ (h:=iJ (a7:=λI p6=>hk k I (by omega) (p6.cm [])) (ab:=?_));rintro v cp bX rfl fq;refine aF (aP ?_) eS;refine hz (h:=fB 1 rfl _ (ab:=aa ?_));refine bt (k+1,rows.set k (f k)) ⟨by dsimp only;omega,by simp[bG],λi hi=>?_⟩ (by dsimp only;omega) (hA:=eS);dsimp only at hi⊢;rw[aml,aoC];by_cases nO:k=i
  ·subst nO;simp[show k<rows.length from by omega]
  rw[amn nO,<-aml];exact bS i (by omega)
 refine aa ?_;refine bQ 2 ?_;refine eR rfl (.c1 rfl gC rfl) [et aG rows] [1] λI hw=>?_;refine⟨aG,aw,rfl,?_⟩;rw[OG (xs:=rows) (ys:=(List.range m).map f) (by simp[bG]) λi hi=>by rw[bS i (by omega),aml,amZ,ann (by omega)];rfl]
theorem Wb(i m:Nat)(dS:Nat)(aG:Value)(rows:List W)(w:World)(hi:i<rows.length)(hb:gM an w dS [.int .i64 m,aG])(h:aV an w fA 1 aG rows): bj prog 278 [.int .i64 i,ax dS] w λ_ v _=>v=u64 (rows.getD i default):=by refine ca func278 ntmps278 ?_;exact bP rfl (.t1 rfl) λI hw=>rfl
theorem Wd(m:Nat)(aG:Value)(rows:List W)(w:World)(h:aV an w fA 1 aG rows)(fH:m<=64)(bG:rows.length=m): eH prog 194 [.agg #[.int .i64 m,aG]] w λ_ v es _=>∃Lv,aD Lv/\v=.agg #[.int .i64 m,Lv]/\es=[et Lv (tQ m rows)]:=by
 refine iY func194 ntmps194 ?_;refine ck λdS=>?_;refine cU λaO=>?_;refine ao (gS (a7:=λI hw=>JX m 278 [ax dS] (λi=>rows.getD i default) I fH λi bX hi hj=>Wb i m dS aG rows bX (by omega) ((hw.eN ds trivial).mono (hj.base _ aL) λ_=>trivial) (hj.now (hw.now h) aL)) (ab:=?_))
 rintro v n es a6 ⟨s1,fk,rfl,rfl⟩;rw[JY m rows bG];refine aa ?_;refine cU λeu=>?_;refine bQ 0 ?_;refine b9 (λs:Nat×List W=>s.1<=m/\s.2.length=m/\s.2=(List.range s.1).foldl (wL m) rows) (λs=>[(12,true,.int .i64 s.1),(11,true,.int .i64 m),(3,true,ax eu),(2,true,ax aO),(1,true,ax dS)]) (λs=>Mem [(w,an)] [.box eu [.int .i64 m,s1] 113,et s1 s.2,.box aO [.int .i64 0,U] 113,.box dS [.int .i64 m,aG] 113]) (λs=>m-s.1) (0,rows) ⟨by simp,bG,rfl⟩ ?_ ⟨rfl,rfl,rfl,rfl,rfl,trivial⟩ eS
 rintro⟨k,cur⟩ ⟨hk,eE,BR⟩;dsimp only at hk eE BR⊢;refine aa ?_;refine sA rfl (λh2=>?_) λh2=>?_
 ·refine aa ?_;refine b9 (λs:Nat×List W=>s.1<=m/\s.2.length=m/\s.2=(List.range s.1).foldl (sZ k) cur) (λs=>[(17,true,.int .i64 s.1),(16,true,.int .i64 m),(4,true,.int .i64 k),(12,true,.int .i64 k),(11,true,.int .i64 m),(3,true,ax eu),(2,true,ax aO),(1,true,ax dS)]) (λs=>Mem [(w,an)] [.box eu [.int .i64 m,s1] 113,et s1 s.2,.box aO [.int .i64 0,U] 113,.box dS [.int .i64 m,aG] 113]) (λs=>m-s.1) (0,cur) ⟨by simp,eE,rfl⟩ ?_
  rintro⟨i,c2⟩ ⟨hi,Ex,Ig⟩;dsimp only at hi Ex Ig⊢;refine aa ?_;refine sA rfl (λh3=>?_) λh3=>?_
  ·have x8:i<c2.length:=by omega
   have ng:k<c2.length:=by omega
   have I8:=foldl_succ (sZ k) cur i;rw[<-Ig]at I8;refine bg (λaC=>?_) λaC=>?_
   ·rw[ch,DJ _ k (by omega)]at aC;refine aa ?_;refine cV [0,1,2,3,4,5,6,7,8,9,10,11,12] mixed ?_;refine aP ?_;refine hz (h:=fB 1 rfl _ (ab:=aa ?_));refine bt (i+1,c2.set i (c2.getD i default||| c2.getD k default)) ⟨by dsimp only;omega,by simp[Ex],?_⟩ (by dsimp only;omega);dsimp only;rw[I8];unfold sZ;rw[amo aC]
   rw[ch,DJ _ k (by omega)]at aC;refine aa ?_;refine bt (i+1,c2) ⟨by dsimp only;omega,Ex,?_⟩ (by dsimp only;omega);dsimp only;rw[I8];unfold sZ;rw[amn (by rw[aC];simp)]
  refine aa ?_;refine bt (k+1,c2) ⟨by dsimp only;omega,Ex,?_⟩ (by dsimp only;omega);dsimp only;rw[foldl_succ,<-BR,Ig,show i=m from by omega];rfl
 refine aa ?_;refine bQ 2 ?_;refine eR rfl (.c1 rfl gC rfl) [et s1 cur] [1] λI hw=>?_;refine⟨s1,fk,rfl,?_⟩;rw[BR,show k=m from by omega];rfl
theorem Ua(m:Nat)(aG:Value)(rows:List W)(w:World)(h:aV an w fA 1 aG rows)(fH:m<=64)(bG:rows.length=m): bj prog 100 [.agg #[.int .i64 m,aG]] w λ_ v _=>v=.bool (rB m rows):=by
 refine ca func100 ntmps100 ?_;refine ck λdS=>?_;refine ao (gr (λI hw=>Wd m aG rows I (hw.now h) fH bG) ?_);rintro v cp es bX ⟨s1,fk,rfl,rfl⟩;have eE:(tQ m rows).length=m:=by rw[Wc,bG]
 refine aa ?_;refine cU λhc=>?_;refine bQ 0 ?_;refine b9 (λk:Nat=>k<=m/\∀i,i<k->((tQ m rows).getD i default).getLsbD i=false) (λk=>[(9,true,.int .i64 k),(8,true,.int .i64 m),(3,true,ax hc),(1,true,ax dS)]) (λ_=>Mem [(w,an)] [.box hc [.int .i64 m,s1] 113,et s1 (tQ m rows),.box dS [.int .i64 m,aG] 113]) (λk=>m-k) 0 ⟨by omega,λi hi=>by omega⟩ ?_ ⟨rfl,rfl,rfl,rfl,trivial⟩ eS
 rintro k ⟨hk,bS⟩;refine aa ?_;refine sA rfl (λh2=>?_) λh2=>?_
 ·have ng:k<(tQ m rows).length:=by omega
  refine bg (λaC=>?_) λaC=>?_
  ·rw[ch,DJ _ k (by omega)]at aC;refine bl λI hw=>?_;have:rB m rows=true:=by unfold rB;rw[anl];exact⟨k,by rw[amH];omega,aC⟩
   rw[this];rfl
  rw[ch,DJ _ k (by omega)]at aC;refine aa ?_;refine bt (k+1) ⟨by omega,λi hi=>?_⟩ (by omega);by_cases nO:i<k
  ·exact bS i nO
  obtain rfl:i=k:=by omega
  exact aC
 refine bl λI hw=>?_;have:rB m rows=false:=by unfold rB;rw[aoi];intro i hi;rw[amH]at hi;rw[bS i (by omega)];simp
 rw[this];rfl
abbrev Aq(v:Value)(xs:List Int):aA:=.own v 3 1 bd xs
theorem abI(n:Int)(aG:Value)(rows:List W)(w:World)(h:aV an w fA 1 aG rows): eH prog 101 [.agg #[.int .i64 n,aG]] w λ_ v es _=>
  if fx n rows=true then if rB n.toNat rows=true then v=.tuple #[U,.int .i64 12]/\es=[]else ∃iQ,aD iQ/\v=.tuple #[iQ,.int .i64 0]/\es=[Aq iQ (JO n.toNat rows)]
  else v=.tuple #[U,.int .i64 10]/\es=[]:=by
 refine iY func101 ntmps101 ?_;refine ck λdS=>?_;refine ao (bw (λI hw=>zi n aG rows I (hw.now h)) ?_);rintro v bx a6 rfl cA;by_cases hok:fx n rows=true
 ·simp only[amo hok];obtain⟨m,rfl,r6,bG⟩:=uF hok;refine aa ?_;refine cK rfl (λh1=>by simp[ch]at h1) λ_=>?_;refine aa ?_;refine ao (bw (λI hw=>Ua m aG rows I (hw.now h) r6 bG) ?_);rintro v cp bX rfl fq;refine bg (λh1=>?_) λh1=>?_
  ·refine aa ?_;refine eR rfl (.tmp rfl (.t1 rfl)) [] [] λI hw=>?_;rw[amo (by simpa using h1)];exact⟨rfl,rfl⟩
  refine aa ?_;refine dZ 3 1 bd ?_;refine aa ?_;refine b9 (λs:Nat×W×Value×List Int=>s.1<=m/\aD s.2.2.1/\(s.2.1,s.2.2.2)=rj m rows s.1) (λs=>[(19,true,.int .i64 s.1),(18,true,.int .i64 m),(5,true,u64 s.2.1),(6,true,s.2.2.1),(1,true,ax dS)]) (λs=>Mem [(w,an)] [Aq s.2.2.1 s.2.2.2,.box dS [.int .i64 m,aG] 113]) (λs=>m-s.1) (0,0#64,U,[]) ⟨by simp,⟨_,_,_,rfl⟩,rfl⟩ ?_ ⟨rfl,rfl,rfl,rfl,rfl,trivial⟩ λ_ h=>h.cI.cI
  rintro⟨k,dA,v,xs⟩ ⟨hk,aw,hF⟩;dsimp only at hk aw hF⊢;refine aa ?_;refine sA rfl (λh2=>?_) λh2=>?_
  ·have nm:xs.length<=k:=by have:=abG m rows k;rw[<-hF]at this;exact this
   have ag:=JN m rows k;rw[<-hF]at ag;refine aa ?_;refine b9 (λs:Nat×W=>s.1<=m/\s.2=u9 rows dA s.1) (λs=>[(23,true,.int .i64 s.1),(22,true,.int .i64 m),(7,true,u64 s.2),(19,true,.int .i64 k),(18,true,.int .i64 m),(5,true,u64 dA),(6,true,v),(1,true,ax dS)]) (λ_=>Mem [(w,an)] [Aq v xs,.box dS [.int .i64 m,aG] 113]) (λs=>m-s.1) (0,0#64) ⟨by simp,rfl⟩ ?_
   rintro⟨i,Bs⟩ ⟨hi,vn⟩;dsimp only at hi vn⊢;refine aa ?_;refine sA rfl (λh3=>?_) λh3=>?_
   ·have x8:i<rows.length:=by omega
    have hb:=MT rows dA i;rw[<-vn]at hb;refine bg (λaC=>?_) λaC=>?_
    ·rw[ch,Aj _ i (by omega),amk]at aC;rw[amn (by rw[aC];simp)]at hb;refine aa ?_;exact bt (i+1,Bs||| rows.getD i default) ⟨by dsimp only;omega,hb.symm⟩ (by dsimp only;omega)
    rw[ch,Aj _ i (by omega),amm]at aC;rw[amo aC]at hb;refine aa ?_;exact bt (i+1,Bs) ⟨by dsimp only;omega,hb.symm⟩ (by dsimp only;omega)
   obtain rfl:i=m:=by omega
   refine aa ?_;refine b9 (λj:Nat=>j<=i/\∀q,q<j->(dA||| Bs).getLsbD q=true) (λj=>[(42,true,.int .i64 j),(41,true,.int .i64 i),(7,true,u64 Bs),(19,true,.int .i64 k),(18,true,.int .i64 i),(5,true,u64 dA),(6,true,v),(1,true,ax dS)]) (λ_=>Mem [(w,an)] [Aq v xs,.box dS [.int .i64 i,aG] 113]) (λj=>i-j) 0 ⟨by omega,λq aZ=>by omega⟩ ?_
   rintro j ⟨ad,bS⟩;refine aa ?_;refine sA rfl (λaW=>?_) λaW=>?_
   ·refine bg (λcM=>?_) λcM=>?_
    ·rw[ch,Aj _ j (by omega),amk]at cM;have hf:=XC i _ j (by omega) cM bS;unfold yD at ag;simp only[<-vn,hf]at ag;refine aa ?_;refine ao (eA _ _ (ab:=?_));intro v4 vE;refine aa ?_;refine ao (e6 1 (hk:=rfl) (bG:=by simp;omega) (ab:=?_));intro v5 om;refine aa ?_;rw[FL j (by omega)];exact bt (k+1,dA||| 1#64<<<j,v5,xs++[(j:Int)]) ⟨by dsimp only;omega,om,ag.symm⟩ (by dsimp only;omega) (hA:=bV [1,2])
    rw[ch,Aj _ j (by omega),amm]at cM;refine aa ?_;refine bt (j+1) ⟨by omega,λq aZ=>?_⟩ (by omega);by_cases Pz:q<j
    ·exact bS q Pz
    obtain rfl:q=j:=by omega
    exact cM
   have hf:=XB i (dA||| Bs) λq aZ=>bS q (by omega);unfold yD at ag;simp only[<-vn,hf]at ag;refine aa ?_;exact bt (k+1,dA,v,xs) ⟨by dsimp only;omega,aw,ag.symm⟩ (by dsimp only;omega)
  refine aa ?_;refine eR rfl (.tmp rfl (.t1 rfl)) [Aq v xs] [0] λI hw=>?_;rw[amn (by simpa using h1)];refine⟨v,aw,rfl,?_⟩;unfold JO;obtain rfl:k=m:=by omega
  rw[amw,<-hF]
 simp only[amn hok];refine aa ?_;refine cK rfl (λ_=>?_) (λh1=>by simp[ch]at h1);refine aa ?_;refine eR rfl (.tmp rfl (.t1 rfl)) [] [] λI hw=>?_;exact⟨rfl,rfl⟩
end Go.Proofs.bK
namespace Go.cc
open Go Go.RowKit
theorem Mem.acJ{aQ:Type}{bs:List dr}{H:List aA}{w:World}(e sz:Nat)(enc:aQ->List Value)(hw:Mem bs H w):Mem bs (.own U e sz enc []::H) w:=by refine hw.new rfl rfl rfl (amK _) (λ_ _=>rfl) ⟨by simp,.inl ⟨rfl,rfl⟩⟩ (λk hk=>?_) (λk hk=>?_)<;>simp[aA.cX,Value.ownBlock]at hk
theorem eH.Kc{aQ:Type}{P:Program}{k:FuncId}{args:List Value}{w:World}{Ψ sC:Nat->Value->List aA->World->Prop}(e sz:Nat)(enc:aQ->List Value)(h:eH P k args w Ψ) (hi:∀n v es I,Ψ n v es I->sC n v es I\/(es=[]/\sC n v [.own U e sz enc []] I)):eH P k args w sC:=
 Calls.mono h λx I cr=>by
  unfold sI at cr⊢;obtain⟨v,es,h1,h2,h3⟩:=cr;rcases hi _ v es I h2 with aC | ⟨rfl,aC⟩
  ·exact⟨v,es,h1,aC,h3⟩
  exact⟨v,_,h1,aC,h3.acJ e sz enc⟩
end Go.cc
attribute [local irreducible] Go.wpList Go.Code.wp Go.bodyPost Go.Exit.then Go.Exit.inBlock Go.Calls
namespace Go.gH
def Kf(n:Int)(l:List b5):Int:=if(rl n l).isSome=true then n else 0
def Kg(n:Int)(l:List b5):List W:=(rl n l).getD []
def As(n:Int)(rows:List W):List b5:=if fx n rows=true then nt n.toNat rows else []
end Go.gH
namespace Go.Proofs.bK
def Mn(n:Int)(l:List b5):Nat->Value->List aA->World->Prop:=λ_ v es _=>∃aG,aD aG/\v=.tuple #[.agg #[.int .i64 (Kf n l),aG],.int .i64 (vf (rl n l).isSome)]/\es=[et aG (Kg n l)]
theorem kL:aD U:=⟨_,_,_,rfl⟩
theorem acN(n:Int)(lv:Value)(l:List b5)(w:World)(h:aV an w bz 2 lv l):eH prog 190 [.int .i64 n,lv] w (Mn n l):=
 (acO n lv l w h).Kc 81 1 fA λ_ v es _ ew=>by
  unfold Mn Kf Kg;cases ag:rl n l with
  | none=>rw[ag]at ew;obtain⟨rfl,rfl⟩:=ew;exact .inr ⟨rfl,_,kL,rfl,rfl⟩
  | some rows=>rw[ag]at ew;obtain⟨aG,gZ,rfl,rfl⟩:=ew;exact .inl ⟨aG,gZ,rfl,rfl⟩
def Mo(n:Int)(rows:List W):Nat->Value->List aA->World->Prop:=λ_ v es _=>∃iQ,aD iQ/\v=.tuple #[iQ,.int .i64 (vf (fx n rows))]/\es=[js iQ (As n rows)]
theorem RO(n:Int)(aG:Value)(rows:List W)(w:World)(h:aV an w fA 1 aG rows)(bp:lg w):eH prog 188 [.agg #[.int .i64 n,aG]] w (Mo n rows):=
 (ada n aG rows w h bp).Kc 178 2 bz λ_ v es _ ew=>by
  unfold Mo As vf;by_cases hok:fx n rows=true
  ·simp only[amo hok]at ew⊢;exact .inl ew
  simp only[amn hok]at ew⊢;obtain⟨rfl,rfl⟩:=ew;exact .inr ⟨rfl,_,kL,rfl,rfl⟩
theorem lg.now{w I:World}{bs:List dr}{H:List aA}(h:lg w)(hw:Mem bs H I)(hB:(w,an)∈bs:=by repeat (first | exact List.Mem.head _ | refine List.Mem.tail _ ?_)):lg I:=hw.now h hB
end Go.Proofs.bK
