/- TripNil returns true at every input, and leaves its argument as it was: the card of the law, tied to the program's text. -/
import Derived.Test.YtfkokgjfpojeoaaDoorPartAB
set_option linter.unusedSimpArgs false
set_option linter.unusedVariables false
namespace Go.Proofs.YtfkokgjfpojeoaaDoor
open Go Go.Ev Go.ChangeShapes Go.WideShapes Go.ChangeAt Go.RowKit
set_option maxRecDepth 100000
set_option maxHeartbeats 16000000
theorem Wp(call:∀avs,dU Tryd.prog 7 Tryd.f3.params.toList avs→En.call (.fn 3) avs []=some (.ret (.bool true),[]))(os:Os)(started:os.Started)(H:Type)(enc:TypeId × Value→H):
 ReturnsInHanded {} Tryd.checked os 3 .any (fun w args=>(Rows.tripNilSpec.pre enc Tryd.prog Tryd.f3 [] false w args∧laidMetH Tryd.prog laid w)∧sizedMet enc Tryd.prog Tryd.f3 (OpenSpec.ofChange Rows.tripNilSpec) false w args)
  (Rows.tripNilSpec.post enc Tryd.prog Tryd.f3 false true false false):=by
 refine returnsInHanded_of_change_and (C:=Tryd.checked) (X:=fun w _=>laidMetH Tryd.prog laid w) (fun _ _ _ hh h=>h.of_heap hh) own started (by kernel_rfl) Tryd.func3
  (ChangeSpec.witness_shaped (enc:=enc) (C:=Tryd.checked) (os:=os) (X:=fun w _=>laidMetH Tryd.prog laid w) false (World.doorLaid Tryd.prog 400 os) #[.agg #[.slice none 0 0,.int .i64 0]] 8 rfl (World.shaped_of_RefB (by kernel_rfl) (by kernel_rfl)) (by kernel_rfl) (by kernel_rfl) (by kernel_rfl) (nR os _)) ?_
 intro W base args ds gs before hval hW _ _ hL _
 exact iL (n:=7) (tb:=4) rfl (fun ds hds=>by
  have hl:ds.length=1:=hds
  match ds,hl with
  | [_],_=>exact⟨rfl,rfl,rfl⟩) rfl (by kernel_rfl) rJ (by kernel_rfl) hval hW (jT hL) oL call
theorem bT(call:∀avs,dU Tryd.prog 7 Tryd.f3.params.toList avs→En.call (.fn 3) avs []=some (.ret (.bool true),[])):Rows.TripNilSaid:=
 OpenClaim.holds_of_wide 3 Tryd.f3 rfl rfl rfl rfl rfl rfl rfl ⟨rfl,rfl,rfl,rfl,rfl⟩ rfl rfl rfl rfl rfl (by kernel_rfl) Tryd.func3 (by kernel_rfl)
  (of_decide_eq_true (by kernel_rfl)) (by unfold Func.isWrapper;first|(rw[if_pos (by decide+kernel)];kernel_rfl)|(rw[if_neg (by decide+kernel)];exact⟨rfl,rfl⟩))
  (fun os started H enc _=>Wp call os started H enc)
theorem Zl(call:∀avs,dU Tryd.prog 7 Tryd.f3.params.toList avs→En.call (.fn 3) avs []=some (.ret (.bool true),[])):Rows.TripNilCardSaid:=
 Claim7.holds_tied_plain_at .later [] [.data,.data,.data] true (true, "196f91750e4e7068af4a8c4adf95ca7713d67c412c4195fb40dee6cda9cd514f") false
  (bT call) (fun _ h=>by cases h) (by kernel_rfl) (fun _ h=>by cases h) tripNil_row_tie rfl ⟨rfl,rfl⟩ (by kernel_rfl) rfl
  (fun f fn hf hfn=>by
    obtain rfl:f=3:=Option.some.inj ((show Tryd.prog.funcNamed "saltdome/saltdomelaw07.TripNil" =some 3 by kernel_rfl).symm.trans hf) |>.symm
    obtain rfl:fn=Tryd.f3:=(Option.some.inj (Tryd.func3.symm.trans hfn)).symm
    exact⟨by kernel_rfl,fun j t ht=>by
     have hm:t∈Tryd.f3.params.toList:=by simpa using Array.mem_of_getElem? ht
     have hall:(Tryd.f3.params.toList.all fun u=> !Tryd.prog.wantsStandIn u)=true:=by kernel_rfl
     exact(show Tryd.prog.wantsStandIn t=false by simpa using List.all_eq_true.1 hall t hm)⟩)
  (by kernel_rfl)
theorem tripNil_holds:Rows.TripNilCardSaid:=Zl (iS kC)
#print axioms tripNil_holds
end Go.Proofs.YtfkokgjfpojeoaaDoor
