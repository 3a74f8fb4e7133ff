/- TripResponses returns true at every input, and leaves its arguments as they were. -/
import Derived.Test.YtfkokgjfpojeoaaPartAH
set_option linter.unusedSimpArgs false
set_option linter.unusedVariables false
namespace Go.Proofs.Ytfkokgjfpojeoaa
open Go Go.Ev Go.ChangeShapes Go.WideShapes Go.ChangeAt Go.RowKit
set_option maxRecDepth 100000
set_option maxHeartbeats 16000000
theorem adX(call:∀avs,aUI Try.prog 7 Try.f5.params.toList avs→Ec.call (.fn 5) avs []=some (.ret (.bool true),[]))(os:Os)(started:os.Started)(H:Type)(enc:TypeId × Value→H):
 ReturnsInHanded {} Try.checked os 5 .any (Rows.tripResponsesSpec.pre6 enc Try.prog Try.f5 Rows.tripResponsesRow.domain false) (Rows.tripResponsesSpec.post enc Try.prog Try.f5 false true false false):=by
 refine returnsInHanded_of_change (C:=Try.checked) own started (by kernel_rfl) Try.func5
  (ChangeSpec.witness6 (enc:=enc) (C:=Try.checked) false ⟨#[],#[.agg #[.slice none 0 0,.slice none 0 0,.slice none 0 0,.int .i64 0,.int .i64 0,.int .i64 0,.slice none 0 0],.int .i64 0,.slice none 0 0],[]⟩ 8 (by kernel_rfl) (by kernel_rfl) (by kernel_rfl) (by kernel_rfl)) ?_
 intro W base args ds gs before hval hW _ _
 exact aSW (n:=7) (tb:=4) rfl (fun ds hds=>by
  have hl:ds.length=3:=hds
  match ds,hl with
  | [_,_,_],_=>exact⟨rfl,rfl,rfl⟩) rfl (by kernel_rfl) a3D (by kernel_rfl) hval hW calls_ok a9M call
theorem azB(call:∀avs,aUI Try.prog 7 Try.f5.params.toList avs→Ec.call (.fn 5) avs []=some (.ret (.bool true),[])):Rows.TripResponsesSaid:=
 OpenClaim.holds_of_wide 5 Try.f5 rfl rfl rfl rfl rfl rfl rfl ⟨rfl,rfl,rfl,rfl,rfl⟩ rfl rfl rfl rfl rfl (by kernel_rfl) Try.func5 (by kernel_rfl)
  (of_decide_eq_true (by kernel_rfl)) (by unfold Func.isWrapper;first|(rw[if_pos (by decide+kernel)];kernel_rfl)|(rw[if_neg (by decide+kernel)];exact⟨rfl,rfl⟩))
  (fun os started H enc _=>adX call os started H enc)
theorem tripResponses_holds:Rows.TripResponsesSaid:=azB aDS
#print axioms tripResponses_holds
end Go.Proofs.Ytfkokgjfpojeoaa
