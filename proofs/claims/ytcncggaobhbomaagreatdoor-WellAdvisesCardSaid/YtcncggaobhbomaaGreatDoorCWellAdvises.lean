/- WellAdvises returns true at every input, and leaves its arguments as they were: the card of the law, tied to the program's text. -/
import Derived.Test.YtcncggaobhbomaaGreatDoorPartAC
import Derived.Test.YtcncggaobhbomaaGreatDoorPartAG
set_option linter.unusedSimpArgs false
set_option linter.unusedVariables false
namespace Go.Proofs.YtcncggaobhbomaaGreatDoor
open Go Go.Ev Go.ChangeShapes Go.WideShapes Go.ChangeAt Go.RowKit
set_option maxRecDepth 100000
set_option maxHeartbeats 16000000
theorem mH(call:∀avs,aiQ Tryz.prog 7 Tryz.f4.params.toList avs→Ub.call (.fn 4) avs []=some (.ret (.bool true),[]))(os:Os)(started:os.Started)(H:Type)(enc:TypeId × Value→H):
 ReturnsInHanded {} Tryz.checked os 4 .any (fun w args=>(Rows.wellAdvisesSpec.pre enc Tryz.prog Tryz.f4 [] false w args∧laidMetH Tryz.prog laid w)∧sizedMet enc Tryz.prog Tryz.f4 (OpenSpec.ofChange Rows.wellAdvisesSpec) false w args)
  (Rows.wellAdvisesSpec.post enc Tryz.prog Tryz.f4 false true false false):=by
 refine returnsInHanded_of_change_and (C:=Tryz.checked) (X:=fun w _=>laidMetH Tryz.prog laid w) (fun _ _ _ hh h=>h.of_heap hh) own started (by kernel_rfl) Tryz.func4
  (ChangeSpec.witness_shaped (enc:=enc) (C:=Tryz.checked) (os:=os) (X:=fun w _=>laidMetH Tryz.prog laid w) false (World.doorLaid Tryz.prog 400 os) #[.agg #[.int .i64 0,.int .i64 0,.slice none 0 0],.int .i64 0,.slice none 0 0,.int .i64 0] 8 rfl (World.shaped_of_RefB (by kernel_rfl) (by kernel_rfl)) (by kernel_rfl) (by kernel_rfl) (by kernel_rfl) (ap8 os _)) ?_
 intro W base args ds gs before hval hW _ _ hL _
 exact anT (n:=7) (tb:=4) rfl (fun ds hds=>by
  have hl:ds.length=4:=hds
  match ds,hl with
  | [_,_,_,_],_=>exact⟨rfl,rfl,rfl⟩) rfl (by kernel_rfl) aQD (by kernel_rfl) hval hW (aqY hL) awR call
theorem sQ(call:∀avs,aiQ Tryz.prog 7 Tryz.f4.params.toList avs→Ub.call (.fn 4) avs []=some (.ret (.bool true),[])):Rows.WellAdvisesSaid:=
 OpenClaim.holds_of_wide 4 Tryz.f4 rfl rfl rfl rfl rfl rfl rfl ⟨rfl,rfl,rfl,rfl,rfl⟩ rfl rfl rfl rfl rfl (by kernel_rfl) Tryz.func4 (by kernel_rfl)
  (of_decide_eq_true (by kernel_rfl)) (by unfold Func.isWrapper;first|(rw[if_pos (by decide+kernel)];kernel_rfl)|(rw[if_neg (by decide+kernel)];exact⟨rfl,rfl⟩))
  (fun os started H enc _=>mH call os started H enc)
theorem pU(call:∀avs,aiQ Tryz.prog 7 Tryz.f4.params.toList avs→Ub.call (.fn 4) avs []=some (.ret (.bool true),[])):Rows.WellAdvisesCardSaid:=
 Claim7.holds_tied_plain_at .later [] [.data,.data,.data] true (true, "6fd1ae060c567321a4aae65f844d6a2854be61fc426d57c09e4bd106137f1ea4") false
  (sQ call) (fun _ h=>by cases h) (by kernel_rfl) (fun _ h=>by cases h) wellAdvises_row_tie rfl ⟨rfl,rfl⟩ (by kernel_rfl) rfl
  (fun f fn hf hfn=>by
    obtain rfl:f=4:=Option.some.inj ((show Tryz.prog.funcNamed "saltdome/saltdomelaw04.WellAdvises" =some 4 by kernel_rfl).symm.trans hf) |>.symm
    obtain rfl:fn=Tryz.f4:=(Option.some.inj (Tryz.func4.symm.trans hfn)).symm
    exact⟨by kernel_rfl,fun j t ht=>by
     have hm:t∈Tryz.f4.params.toList:=by simpa using Array.mem_of_getElem? ht
     have hall:(Tryz.f4.params.toList.all fun u=> !Tryz.prog.wantsStandIn u)=true:=by kernel_rfl
     exact(show Tryz.prog.wantsStandIn t=false by simpa using List.all_eq_true.1 hall t hm)⟩)
  (by kernel_rfl)
theorem wellAdvises_holds:Rows.WellAdvisesCardSaid:=pU (yD ar4)
#print axioms wellAdvises_holds
end Go.Proofs.YtcncggaobhbomaaGreatDoor
