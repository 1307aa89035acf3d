/- THE LAW WholeSound: its row and its tied card, whatever its arguments. -/
import Derived.Test.YtiknadellddjhaaGreatDoorS51
set_option linter.all false
open Go.Proofs.Tryz
set_option maxHeartbeats 16000000
namespace Go.Proofs.YtiknadellddjhaaGreatDoor
open Go.Proofs.bK
open Go Go.cc Go.bU Go.gH Go.wy Go.ChangeShapes Go.WideShapes Go.ChangeAt Go.RowKit Go.Joins
set_option maxRecDepth 100000 in
theorem abE(os:Os)(started:os.Started)(H:Type)(enc:TypeId×Value->H): ReturnsInHanded {} Tryz.checked os 3 .any (λw args=>(Rows.wholeSoundSpec.pre enc prog f3 [] false w args/\laidMetH prog yA w)/\sizedMet enc prog f3 (OpenSpec.ofChange Rows.wholeSoundSpec) false w args) (Rows.wholeSoundSpec.post enc prog f3 false true false false):=by
 refine returnsInHanded_of_change_and (C:=Tryz.checked) (X:=λw _=>laidMetH prog yA w) (λ_ _ _ eO h=>h.of_heap eO) own started (by kernel_rfl) func3 (ChangeSpec.witness_shaped (enc:=enc) (C:=Tryz.checked) (os:=os) (X:=λw _=>laidMetH prog yA w) false (World.laidAll prog os yA) #[.agg #[.int .i64 0,.string ByteArray.empty,.string ByteArray.empty,U,U,.int .i64 0,.int .i64 0,.int .i64 0,.int .i64 0,.string ByteArray.empty,.int .i64 0,U],U] 8 (World.laidAll_os _ _ _) (World.shaped_of_ZipB (by kernel_rfl) (by kernel_rfl)) (by kernel_rfl) (by kernel_rfl) (by kernel_rfl) (WT os _)) ?_
 intro W base args nG gs before aae wV _ ZL c6 _;have Jk:∀(j:Nat) t v,f3.params[j]?=some t->args[j]?=some v->Value.okWide prog W .any base t v:=aae;have eh:(DataW.weightsEach prog (f3.params.toList++Rows.wholeSoundSpec.plain.varTypes prog) (nG++gs)).all (· <=reachBytes)=true:=ZL;have Er:=wV;obtain⟨p,q,XV,zA,rfl,_,_⟩:=wV;have hA:DataW.TrodAll enc prog W 0 (λ_=>true) true f3.params.toList args.toList nG p:=XV;rw[params3]at hA Jk eh;obtain⟨v0,v1,d0,d1,ac6,vW,rfl,rfl,rfl,g0,g1⟩:=trodAll_two hA;obtain⟨rfl,rfl⟩:=trodVars_none zA;obtain⟨_,rfl,aaL,WJ,abj,ahV,Vj,rfl,Ya⟩:=VA underlying32 (Jk 0 32 v0 rfl rfl) g0 (TQ eh (j:=0) (t:=32) rfl rfl) (acU);have pe:=Vz (V8 underlying33 (Jk 1 33 v1 rfl rfl)) g1 (TQ eh (j:=1) (t:=33) rfl rfl) (FT (iZ:=bd) (sz:=1) underlying33 (by kernel_rfl) (acP (WZ underlying3)));obtain⟨script,afV,tH,X9,aiP,aiY⟩:=pe;obtain rfl:v1=script:=by simpa using tH
 refine Calls.mono (agl Vj aaL WJ abj v1 ahV afV W Ya X9 (agU c6)) λe l3 h=>?_;unfold qm at h;obtain⟨v,rfl,Yi,rfl⟩:=h;exact⟨_,rfl,adt laidOut (λt aE=>by rw[params3]at aE;simp at aE;rcases aE with rfl | rfl<;>exact⟨by kernel_rfl,aog (by kernel_rfl)⟩) rfl rfl underlying4 Er rfl rfl rfl Yi⟩
set_option maxRecDepth 100000
theorem JH:prog.closure 3=[3,5,19,58,59,60,130,129,131,133,217,132,135,220,296,218,294,219,295,356,391,404,357,358,359,134,61,136,221,222,223,137,224,297,360,361,225,138,227,226,298,62,139,228,229,63,140,141,230,299,362,392,393,363,300,64,22,70,146,145,147,157,243,244,232,309,310,367,311,319,320,312,368,369,395,313,314,315,316,148,233,317,370,149,69,65,142,231,301,67,144,302,364,303,304,365,366,394,305,306,307,308,143,20,66,21,68,23,24,71,150,151,234,72,152,73,74,75,153,154,76,155,25,26,77,156,235,236,318,237,238,321,322,371,239,240,241,242,78,6,27,15,45,108,109,110,111,197,283,285,349,350,292,348,203,287,353,354,288,118,112,198,284,113,115,200,201,286,351,389,402,403,390,352,48,116,202,114,199,46,47,49,117,119,204,120,205,289,355,206,207,208,209,290,291,50,51,28,79,80,81,158,245,323,246,324,372,396,325,373,159,160,29,82,7,30,83,90,161,84,162,85,163,164,247,172,261,174,262,326,327,328,329,330,173,263,331,374,332,333,264,334,335,336,375,377,397,376,337,378,338,379,339,340,341,248,86,31,87,88,165,166,249,250,170,258,167,251,168,252,256,169,257,253,255,254,89,8,32,33,91,34,92,171,260,259,175,176,93,9,35,94,177,265,266,178,267,179,180,181,182,95,96,183,189,186,270,185,268,342,269,343,380,386,401,381,398,382,383,399,400,405,384,385,387,388,184,36,10,11,37,97,187,271,190,272,188,99,274,273,344,191,98,192,275,277,276,193,38,100,194,278,12,39,40,101,41,102,103,104,13,42,43,105,195,279,106,107,196,280,345,281,346,282,347,14,44]:=by kernel_rfl
theorem Qd:prog.unfollowed 3=true:=by unfold Program.unfollowed;rw[JH];kernel_rfl
theorem aa4:(Rows.wholeSoundRow.unfollowed==prog.unfollowed 3)=true:=by rw[Qd];rfl
theorem aa0:(Rows.wholeSoundRow.inPlace==prog.inPlace 3)=true:=by unfold Program.inPlace;rw[JH];kernel_rfl
theorem aa3:(Rows.wholeSoundRow.recurses==prog.recurses 3)=true:=by unfold Program.recurses;rw[Qd,Bool.true_or];rfl
theorem aa1:(Rows.wholeSoundRow.named==prog.varsNamed 3)=true:=by unfold Program.varsNamed;rw[JH];kernel_rfl
theorem aa2:prog.funcs.any Func.goes=false:=by kernel_rfl
theorem XM{P:Program}(bh:P.funcs.any Func.goes=false)(s:String):P.goesFrom s=false:=by
 have h:∀f,P.goes f=false:=λf=>by
  unfold Program.goes;rw[bh,anM,aoU,aoi];intro g _ ay;cases aZ:P.funcs[g]? with
  | none=>rw[aZ]at ay;cases ay
  | some fn=>rw[aZ]at ay;obtain⟨dn,e⟩:=aot.1 aZ;exact(Array.any_eq_false.1 bh) g dn (by rw[e];exact ay)
 unfold Program.goesFrom;cases P.funcNamed s with
 | none=>rfl
 | some f=>exact h f
theorem aaZ:false=Rows.wholeSoundRow.goesBy Tryz.pinned.checked.prog:=by show false=(prog.goesFrom Rows.wholeSoundRow.func||false);rw[XM aa2,aoU]
theorem aaY:joinedFacts prog 3 f3 Rows.wholeSoundSpec Rows.wholeSoundRow=true:=by unfold joinedFacts;rw[aa4,aa0,aa3,aa1];kernel_rfl
theorem aim:Rows.WholeSoundSaid:=
 OpenClaim.holds_of_wide 3 f3 rfl rfl rfl rfl rfl rfl rfl ⟨rfl,rfl,rfl,rfl,rfl⟩ rfl rfl rfl rfl rfl (by kernel_rfl) func3 aaY (aog (by kernel_rfl)) (by unfold Func.isWrapper;rw[amn (of_decide_eq_false (by kernel_rfl))];exact⟨rfl,rfl⟩) λos started H enc _=>abE os started H enc
theorem wholeSoundCard_holds:Rows.WholeSoundCardSaid:=
 Claim7.holds_tied_plain_at .later [] [.data,.data,.pinned] true (true, "9adbbf5923800d4c51fbbcff5e0d5b5d00886db3dab14f3d973ce77f18c20e6a") true aim (λ_ h=>by cases h) (by kernel_rfl) (λ_ h=>by cases h) wholeSound_row_tie rfl ⟨rfl,rfl⟩ (by kernel_rfl) rfl (λf fn hf Iv=>by
   obtain rfl:f=3:=Option.some.inj ((show prog.funcNamed "alembic/alembictop.WholeSound" =some 3 by kernel_rfl).symm.trans hf) |>.symm;obtain rfl:fn=f3:=(Option.some.inj (func3.symm.trans Iv)).symm;exact⟨by kernel_rfl,λj t aE=>by
    rw[params3]at aE;have hm:=Array.mem_of_getElem? aE;simp at hm;rcases hm with rfl | rfl
    ·exact(show prog.wantsStandIn 32=false by kernel_rfl)
    exact(show prog.wantsStandIn 33=false by kernel_rfl)⟩)
  aaZ
#print axioms wholeSoundCard_holds
end Go.Proofs.YtiknadellddjhaaGreatDoor
