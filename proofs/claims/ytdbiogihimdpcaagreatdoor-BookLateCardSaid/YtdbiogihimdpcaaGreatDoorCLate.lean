/- BookLate returns true at every input, and leaves its arguments as they were: the card of the law, tied to the program's text. -/
import Derived.Test.YtdbiogihimdpcaaGreatDoorPartAJ
set_option linter.unusedSimpArgs false
set_option linter.unusedVariables false
namespace Go.Proofs.YtdbiogihimdpcaaGreatDoor
open Go Go.Ev Go.ChangeShapes Go.WideShapes Go.ChangeAt Go.RowKit
set_option maxRecDepth 100000
set_option maxHeartbeats 16000000
theorem hY(call:∀avs,vK Tryz.prog 7 Tryz.f7.params.toList avs→Bl.call (.fn 7) avs []=some (.ret (.bool true),[]))(os:Os)(started:os.Started)(H:Type)(enc:TypeId × Value→H):
 ReturnsInHanded {} Tryz.checked os 7 .any (fun w args=>(Rows.bookLateSpec.pre enc Tryz.prog Tryz.f7 [] false w args∧laidMetH Tryz.prog laid w)∧sizedMet enc Tryz.prog Tryz.f7 (OpenSpec.ofChange Rows.bookLateSpec) false w args)
  (Rows.bookLateSpec.post enc Tryz.prog Tryz.f7 false true false false):=by
 refine returnsInHanded_of_change_and (C:=Tryz.checked) (X:=fun w _=>laidMetH Tryz.prog laid w) (fun _ _ _ hh h=>h.of_heap hh) own started (by kernel_rfl) Tryz.func7
  (ChangeSpec.witness_shaped (enc:=enc) (C:=Tryz.checked) (os:=os) (X:=fun w _=>laidMetH Tryz.prog laid w) false (World.doorLaid Tryz.prog 400 os) #[.agg #[.int .i64 0,.int .i64 0,.int .i64 0,.int .i64 0,.int .i64 0,.slice none 0 0],.agg #[.slice none 0 0,.slice none 0 0,.slice none 0 0],.agg #[.int .i64 0,.int .i64 0,.int .i64 0,.int .i64 0],.int .i64 0] 8 rfl (World.shaped_of_RefB (by kernel_rfl) (by kernel_rfl)) (by kernel_rfl) (by kernel_rfl) (by kernel_rfl) (ai5 os _)) ?_
 intro W base args ds gs before hval hW _ _ hL _
 exact abN (n:=7) (tb:=4) rfl (fun ds hds=>by
  have hl:ds.length=4:=hds
  match ds,hl with
  | [_,_,_,_],_=>exact⟨rfl,rfl,rfl⟩) rfl (by kernel_rfl) aj3 (by kernel_rfl) hval hW (ajR hL) ahV call
theorem pU(call:∀avs,vK Tryz.prog 7 Tryz.f7.params.toList avs→Bl.call (.fn 7) avs []=some (.ret (.bool true),[])):Rows.BookLateSaid:=
 OpenClaim.holds_of_wide 7 Tryz.f7 rfl rfl rfl rfl rfl rfl rfl ⟨rfl,rfl,rfl,rfl,rfl⟩ rfl rfl rfl rfl rfl (by kernel_rfl) Tryz.func7 (by kernel_rfl)
  (of_decide_eq_true (by kernel_rfl)) (by unfold Func.isWrapper;first|(rw[if_pos (by decide+kernel)];kernel_rfl)|(rw[if_neg (by decide+kernel)];exact⟨rfl,rfl⟩))
  (fun os started H enc _=>hY call os started H enc)
theorem mA(call:∀avs,vK Tryz.prog 7 Tryz.f7.params.toList avs→Bl.call (.fn 7) avs []=some (.ret (.bool true),[])):Rows.BookLateCardSaid:=
 Claim7.holds_tied_plain_at .later [] [.data,.data,.data] true (true, "e0f3d7b89c28040518d764346e53f9dbc56316654ba417706fc713f420f111b6") false
  (pU call) (fun _ h=>by cases h) (by kernel_rfl) (fun _ h=>by cases h) bookLate_row_tie rfl ⟨rfl,rfl⟩ (by kernel_rfl) rfl
  (fun f fn hf hfn=>by
    obtain rfl:f=7:=Option.some.inj ((show Tryz.prog.funcNamed "saltdome/saltdomelaw06.BookLate" =some 7 by kernel_rfl).symm.trans hf) |>.symm
    obtain rfl:fn=Tryz.f7:=(Option.some.inj (Tryz.func7.symm.trans hfn)).symm
    exact⟨by kernel_rfl,fun j t ht=>by
     have hm:t∈Tryz.f7.params.toList:=by simpa using Array.mem_of_getElem? ht
     have hall:(Tryz.f7.params.toList.all fun u=> !Tryz.prog.wantsStandIn u)=true:=by kernel_rfl
     exact(show Tryz.prog.wantsStandIn t=false by simpa using List.all_eq_true.1 hall t hm)⟩)
  (by kernel_rfl)
theorem bookLate_holds:Rows.BookLateCardSaid:=mA (wU agI)
#print axioms bookLate_holds
end Go.Proofs.YtdbiogihimdpcaaGreatDoor
