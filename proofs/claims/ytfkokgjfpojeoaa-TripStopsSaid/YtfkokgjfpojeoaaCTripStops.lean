/- TripStops returns true at every input, and leaves its arguments as they were. -/
import Derived.Test.YtfkokgjfpojeoaaPartAG
set_option linter.unusedSimpArgs false
set_option linter.unusedVariables false
namespace Go.Proofs.Ytfkokgjfpojeoaa
open Go Go.Ev Go.ChangeShapes Go.WideShapes Go.ChangeAt Go.RowKit
set_option maxRecDepth 100000
set_option maxHeartbeats 16000000
theorem cX(call:∀avs,afQ Try.prog 7 Try.f11.params.toList avs→Bh.call (.fn 11) avs []=some (.ret (.bool true),[]))(os:Os)(started:os.Started)(H:Type)(enc:TypeId × Value→H):
 ReturnsInHanded {} Try.checked os 11 .any (Rows.tripStopsSpec.pre6 enc Try.prog Try.f11 Rows.tripStopsRow.domain false) (Rows.tripStopsSpec.post enc Try.prog Try.f11 false true false false):=by
 refine returnsInHanded_of_change (C:=Try.checked) own started (by kernel_rfl) Try.func11
  (ChangeSpec.witness6 (enc:=enc) (C:=Try.checked) false ⟨#[],#[.agg #[.slice none 0 0,.slice none 0 0,.slice none 0 0,.int .i64 0,.int .i64 0,.int .i64 0,.slice none 0 0],.int .i64 0,.slice none 0 0,.slice none 0 0,.int .i64 0],[]⟩ 8 (by kernel_rfl) (by kernel_rfl) (by kernel_rfl) (by kernel_rfl)) ?_
 intro W base args ds gs before hval hW _ _
 exact adD (n:=7) (tb:=4) rfl (fun ds hds=>by
  have hl:ds.length=5:=hds
  match ds,hl with
  | [_,_,_,_,_],_=>exact⟨rfl,rfl,rfl⟩) rfl (by kernel_rfl) ao5 (by kernel_rfl) hval hW calls_ok as5 call
theorem mY(call:∀avs,afQ Try.prog 7 Try.f11.params.toList avs→Bh.call (.fn 11) avs []=some (.ret (.bool true),[])):Rows.TripStopsSaid:=
 OpenClaim.holds_of_wide 11 Try.f11 rfl rfl rfl rfl rfl rfl rfl ⟨rfl,rfl,rfl,rfl,rfl⟩ rfl rfl rfl rfl rfl (by kernel_rfl) Try.func11 (by kernel_rfl)
  (of_decide_eq_true (by kernel_rfl)) (by unfold Func.isWrapper;first|(rw[if_pos (by decide+kernel)];kernel_rfl)|(rw[if_neg (by decide+kernel)];exact⟨rfl,rfl⟩))
  (fun os started H enc _=>cX call os started H enc)
theorem tripStops_holds:Rows.TripStopsSaid:=mY tJ
#print axioms tripStops_holds
end Go.Proofs.Ytfkokgjfpojeoaa
