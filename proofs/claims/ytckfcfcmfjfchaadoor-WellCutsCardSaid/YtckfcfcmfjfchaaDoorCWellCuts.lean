/- WellCuts returns true at every input, and leaves its arguments as they were: the card of the law, tied to the program's text. -/
import Derived.Test.YtckfcfcmfjfchaaDoorPartAB
import Derived.Test.YtckfcfcmfjfchaaDoorPartAD
set_option linter.unusedSimpArgs false
set_option linter.unusedVariables false
namespace Go.Proofs.YtckfcfcmfjfchaaDoor
open Go Go.Ev Go.ChangeShapes Go.WideShapes Go.ChangeAt Go.RowKit
set_option maxRecDepth 100000
set_option maxHeartbeats 16000000
theorem Zi(call:∀avs,nE Tryd.prog 7 Tryd.f4.params.toList avs→Fq.call (.fn 4) avs []=some (.ret (.bool true),[]))(os:Os)(started:os.Started)(H:Type)(enc:TypeId × Value→H):
 ReturnsInHanded {} Tryd.checked os 4 .any (fun w args=>(Rows.wellCutsSpec.pre enc Tryd.prog Tryd.f4 [] false w args∧laidMetH Tryd.prog laid w)∧sizedMet enc Tryd.prog Tryd.f4 (OpenSpec.ofChange Rows.wellCutsSpec) false w args)
  (Rows.wellCutsSpec.post enc Tryd.prog Tryd.f4 false true false false):=by
 refine returnsInHanded_of_change_and (C:=Tryd.checked) (X:=fun w _=>laidMetH Tryd.prog laid w) (fun _ _ _ hh h=>h.of_heap hh) own started (by kernel_rfl) Tryd.func4
  (ChangeSpec.witness_shaped (enc:=enc) (C:=Tryd.checked) (os:=os) (X:=fun w _=>laidMetH Tryd.prog laid w) false (World.doorLaid Tryd.prog 400 os) #[.agg #[.int .i64 0,.int .i64 0,.slice none 0 0],.int .i64 0,.slice none 0 0] 8 rfl (World.shaped_of_RefB (by kernel_rfl) (by kernel_rfl)) (by kernel_rfl) (by kernel_rfl) (by kernel_rfl) (aaR os _)) ?_
 intro W base args ds gs before hval hW _ _ hL _
 exact rW (n:=7) (tb:=4) rfl (fun ds hds=>by
  have hl:ds.length=3:=hds
  match ds,hl with
  | [_,_,_],_=>exact⟨rfl,rfl,rfl⟩) rfl (by kernel_rfl) ac8 (by kernel_rfl) hval hW (aa8 hL) aaZ call
theorem fY(call:∀avs,nE Tryd.prog 7 Tryd.f4.params.toList avs→Fq.call (.fn 4) avs []=some (.ret (.bool true),[])):Rows.WellCutsSaid:=
 OpenClaim.holds_of_wide 4 Tryd.f4 rfl rfl rfl rfl rfl rfl rfl ⟨rfl,rfl,rfl,rfl,rfl⟩ rfl rfl rfl rfl rfl (by kernel_rfl) Tryd.func4 (by kernel_rfl)
  (of_decide_eq_true (by kernel_rfl)) (by unfold Func.isWrapper;first|(rw[if_pos (by decide+kernel)];kernel_rfl)|(rw[if_neg (by decide+kernel)];exact⟨rfl,rfl⟩))
  (fun os started H enc _=>Zi call os started H enc)
theorem cR(call:∀avs,nE Tryd.prog 7 Tryd.f4.params.toList avs→Fq.call (.fn 4) avs []=some (.ret (.bool true),[])):Rows.WellCutsCardSaid:=
 Claim7.holds_tied_plain_at .later [] [.data,.data,.data] true (true, "6c2eba8f93cc9e06c3abfd69a501ba9f8c4076b9de9d6e4a8f700e748b8e122f") false
  (fY call) (fun _ h=>by cases h) (by kernel_rfl) (fun _ h=>by cases h) wellCuts_row_tie rfl ⟨rfl,rfl⟩ (by kernel_rfl) rfl
  (fun f fn hf hfn=>by
    obtain rfl:f=4:=Option.some.inj ((show Tryd.prog.funcNamed "saltdome/saltdomelaw04.WellCuts" =some 4 by kernel_rfl).symm.trans hf) |>.symm
    obtain rfl:fn=Tryd.f4:=(Option.some.inj (Tryd.func4.symm.trans hfn)).symm
    exact⟨by kernel_rfl,fun j t ht=>by
     have hm:t∈Tryd.f4.params.toList:=by simpa using Array.mem_of_getElem? ht
     have hall:(Tryd.f4.params.toList.all fun u=> !Tryd.prog.wantsStandIn u)=true:=by kernel_rfl
     exact(show Tryd.prog.wantsStandIn t=false by simpa using List.all_eq_true.1 hall t hm)⟩)
  (by kernel_rfl)
theorem wellCuts_holds:Rows.WellCutsCardSaid:=cR (nR aaO)
#print axioms wellCuts_holds
end Go.Proofs.YtckfcfcmfjfchaaDoor
