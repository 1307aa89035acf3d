/- THE LAW WholeComplete: its row and its tied card, whatever its arguments. -/
import Derived.Test.YtiknadellddjhaaGreatDoorC48
set_option linter.all false
open Go.Proofs.Tryz
set_option maxHeartbeats 16000000
namespace Go.Proofs.YtiknadellddjhaaGreatDoor
open Go.Proofs.bA
open Go Go.b9 Go.bM Go.gG Go.w4 Go.ChangeShapes Go.WideShapes Go.ChangeAt Go.RowKit Go.Joins
set_option maxRecDepth 100000 in
theorem ac0(os:Os)(started:os.Started)(H:Type)(enc:TypeId×Value->H): ReturnsInHanded {} Tryz.checked os 4 .any (λw args=>(Rows.wholeCompleteSpec.pre enc prog f4 [] false w args/\laidMetH prog zc w)/\sizedMet enc prog f4 (OpenSpec.ofChange Rows.wholeCompleteSpec) false w args) (Rows.wholeCompleteSpec.post enc prog f4 false true false false):=by
 refine returnsInHanded_of_change_and (C:=Tryz.checked) (X:=λw _=>laidMetH prog zc w) (λ_ _ _ eC h=>h.of_heap eC) own started (by kernel_rfl) func4 (ChangeSpec.witness_shaped (enc:=enc) (C:=Tryz.checked) (os:=os) (X:=λw _=>laidMetH prog zc w) false (World.laidAll prog os zc) #[.agg #[.int .i64 0,.string ByteArray.empty,.string ByteArray.empty,aa,aa,.int .i64 0,.int .i64 0,.int .i64 0,.int .i64 0,.string ByteArray.empty,.int .i64 0,aa],.int .i64 0] 8 (World.laidAll_os _ _ _) (World.shaped_of_ZipB (by kernel_rfl) (by kernel_rfl)) (by kernel_rfl) (by kernel_rfl) (by kernel_rfl) (X5 os _)) ?_
 intro W base args n0 gs before abu xt _ aa1 c0 _;have JY:∀(j:Nat) t v,f4.params[j]?=some t->args[j]?=some v->Value.okWide prog W .any base t v:=abu;have ej:(DataW.weightsEach prog (f4.params.toList++Rows.wholeCompleteSpec.plain.varTypes prog) (n0++gs)).all (· <=reachBytes)=true:=aa1;have E5:=xt;obtain⟨p,q,Y9,Ap,rfl,_,_⟩:=xt;have hA:DataW.TrodAll enc prog W 0 (λ_=>true) true f4.params.toList args.toList n0 p:=Y9;rw[params4]at hA JY ej;obtain⟨v0,v1,d0,d1,aes,wJ,rfl,rfl,rfl,g0,g1⟩:=trodAll_two hA;obtain⟨rfl,rfl⟩:=trodVars_none Ap;obtain⟨_,rfl,abY,XW,acz,ajF,Wd,rfl,Zn⟩:=Wu underlying32 (JY 0 32 v0 rfl rfl) g0 (UL ej (j:=0) (t:=32) rfl rfl) (aeb);have pv:=Wt (Xi underlying3 (JY 1 3 v1 rfl rfl)) g1 (UL ej (j:=1) (t:=3) rfl rfl) (pQ underlying3);obtain⟨n,uc,amh,anD⟩:=pv;obtain rfl:v1=_:=by simpa using uc
 refine Calls.mono (XM Wd abY XW acz ajF n W Zn (aiE c0)) λe mw h=>?_;unfold qy at h;obtain⟨v,rfl,Zv,rfl⟩:=h;exact⟨_,rfl,aeN laidOut (λt aJ=>by rw[params4]at aJ;simp at aJ;rcases aJ with rfl | rfl<;>exact⟨by kernel_rfl,aqn (by kernel_rfl)⟩) rfl rfl underlying4 E5 rfl rfl rfl Zv⟩
set_option maxRecDepth 100000
theorem Km:prog.closure 4=[4,5,19,58,59,60,130,129,131,133,217,132,135,220,296,218,294,219,295,356,391,404,357,358,359,134,61,136,221,222,223,137,224,297,360,361,225,138,227,226,298,62,139,228,229,63,140,141,230,299,362,392,393,363,300,64,22,70,146,145,147,157,243,244,232,309,310,367,311,319,320,312,368,369,395,313,314,315,316,148,233,317,370,149,69,65,142,231,301,67,144,302,364,303,304,365,366,394,305,306,307,308,143,20,66,21,68,23,24,71,150,151,234,72,152,73,74,75,153,154,76,155,25,26,77,156,235,236,318,237,238,321,322,371,239,240,241,242,78,15,45,108,109,110,111,197,283,285,349,350,292,348,203,287,353,354,288,118,112,198,284,113,115,200,201,286,351,389,402,403,390,352,48,116,202,114,199,46,47,49,117,119,204,120,205,289,355,206,207,208,209,290,291,50,51,16,52,10,53,17,54,94,177,265,266,178,267,179,180,181,182,95,121,210,122,55,123,90,211,18,56,124,212,293,213,214,215,216,125,126,57,127,128,9,35,96,183,189,186,270,185,268,342,269,343,380,386,401,381,398,382,383,399,400,405,384,385,387,388,184,36,11,37,97,187,271,190,272,188,99,274,273,344,191,98,192,275,277,276,193,38,100,194,278,13,42,43,105,195,279,106,107,196,280,345,170,258,281,346,282,347,12,39,40,101,41,32,102,33,91,103,34,92,171,260,259,172,261,174,262,326,327,328,329,330,173,263,331,374,332,333,264,334,335,336,375,377,397,376,337,378,338,379,339,340,341,175,176,93,104,14,44,7,30,83,161,84,162,85,163,164,247,248,86,31,87,88,165,166,249,250,167,251,168,252,256,169,257,253,255,254,89]:=by kernel_rfl
theorem Rb:prog.unfollowed 4=true:=by unfold Program.unfollowed;rw[Km];kernel_rfl
theorem aci:(Rows.wholeCompleteRow.unfollowed==prog.unfollowed 4)=true:=by rw[Rb];rfl
theorem ace:(Rows.wholeCompleteRow.inPlace==prog.inPlace 4)=true:=by unfold Program.inPlace;rw[Km];kernel_rfl
theorem ach:(Rows.wholeCompleteRow.recurses==prog.recurses 4)=true:=by unfold Program.recurses;rw[Rb,Bool.true_or];rfl
theorem acf:(Rows.wholeCompleteRow.named==prog.varsNamed 4)=true:=by unfold Program.varsNamed;rw[Km];kernel_rfl
theorem acg:prog.funcs.any Func.goes=false:=by kernel_rfl
theorem Y1{P:Program}(bd:P.funcs.any Func.goes=false)(s:String):P.goesFrom s=false:=by
 have h:∀f,P.goes f=false:=λf=>by
  unfold Program.goes;rw[bd,apu,aq1,aqp];intro g _ az;cases ba:P.funcs[g]? with
  | none=>rw[ba]at az;cases az
  | some fn=>rw[ba]at az;obtain⟨dq,e⟩:=aqe.1 ba;exact(Array.any_eq_false.1 bd) g dq (by rw[e];exact az)
 unfold Program.goesFrom;cases P.funcNamed s with
 | none=>rfl
 | some f=>exact h f
theorem acd:false=Rows.wholeCompleteRow.goesBy Tryz.pinned.checked.prog:=by show false=(prog.goesFrom Rows.wholeCompleteRow.func||false);rw[Y1 acg,aq1]
theorem acb:joinedFacts prog 4 f4 Rows.wholeCompleteSpec Rows.wholeCompleteRow=true:=by unfold joinedFacts;rw[aci,ace,ach,acf];kernel_rfl
theorem aj7:Rows.WholeCompleteSaid:=
 OpenClaim.holds_of_wide 4 f4 rfl rfl rfl rfl rfl rfl rfl ⟨rfl,rfl,rfl,rfl,rfl⟩ rfl rfl rfl rfl rfl (by kernel_rfl) func4 acb (aqn (by kernel_rfl)) (by unfold Func.isWrapper;rw[aot (of_decide_eq_false (by kernel_rfl))];exact⟨rfl,rfl⟩) λos started H enc _=>ac0 os started H enc
theorem wholeCompleteCard_holds:Rows.WholeCompleteCardSaid:=
 Claim7.holds_tied_plain_at .later [] [.data,.data,.pinned] true (true, "9adbbf5923800d4c51fbbcff5e0d5b5d00886db3dab14f3d973ce77f18c20e6a") true aj7 (λ_ h=>by cases h) (by kernel_rfl) (λ_ h=>by cases h) wholeComplete_row_tie rfl ⟨rfl,rfl⟩ (by kernel_rfl) rfl (λf fn hf I8=>by
   obtain rfl:f=4:=aqW ((show prog.funcNamed "alembic/alembictop.WholeComplete" =some 4 by kernel_rfl).symm.trans hf) |>.symm;obtain rfl:fn=f4:=(aqW (func4.symm.trans I8)).symm;exact⟨by kernel_rfl,λj t aJ=>by
    rw[params4]at aJ;have hm:=Array.mem_of_getElem? aJ;simp at hm;rcases hm with rfl | rfl
    ·exact(show prog.wantsStandIn 32=false by kernel_rfl)
    exact(show prog.wantsStandIn 3=false by kernel_rfl)⟩)
  acd
#print axioms wholeCompleteCard_holds
end Go.Proofs.YtiknadellddjhaaGreatDoor
