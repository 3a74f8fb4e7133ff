/- TripRobust returns true at every input, and leaves its arguments as they were. -/
import Derived.Test.YtfkokgjfpojeoaaPartAB
set_option linter.unusedSimpArgs false
set_option linter.unusedVariables false
namespace Go.Proofs.Ytfkokgjfpojeoaa
open Go Go.Ev Go.ChangeShapes Go.WideShapes Go.ChangeAt Go.RowKit
set_option maxRecDepth 100000
set_option maxHeartbeats 16000000
theorem Rj(call:∀avs,jN Try.prog 7 Try.f4.params.toList avs→Fa.call (.fn 4) avs []=some (.ret (.bool true),[]))(os:Os)(started:os.Started)(H:Type)(enc:TypeId × Value→H):
 ReturnsInHanded {} Try.checked os 4 .any (Rows.tripRobustSpec.pre6 enc Try.prog Try.f4 Rows.tripRobustRow.domain false) (Rows.tripRobustSpec.post enc Try.prog Try.f4 false true false false):=by
 refine returnsInHanded_of_change (C:=Try.checked) own started (by kernel_rfl) Try.func4
  (ChangeSpec.witness6 (enc:=enc) (C:=Try.checked) false ⟨#[],#[.agg #[.slice none 0 0,.slice none 0 0,.slice none 0 0,.int .i64 0,.int .i64 0,.int .i64 0,.slice none 0 0],.int .i64 0],[]⟩ 8 (by kernel_rfl) (by kernel_rfl) (by kernel_rfl) (by kernel_rfl)) ?_
 intro W base args ds gs before hval hW _ _
 exact jI (n:=7) (tb:=4) rfl (fun ds hds=>by
  have hl:ds.length=2:=hds
  match ds,hl with
  | [_,_],_=>exact⟨rfl,rfl,rfl⟩) rfl (by kernel_rfl) pK (by kernel_rfl) hval hW kA uN call
theorem Wx(call:∀avs,jN Try.prog 7 Try.f4.params.toList avs→Fa.call (.fn 4) avs []=some (.ret (.bool true),[])):Rows.TripRobustSaid:=
 OpenClaim.holds_of_wide 4 Try.f4 rfl rfl rfl rfl rfl rfl rfl ⟨rfl,rfl,rfl,rfl,rfl⟩ rfl rfl rfl rfl rfl (by kernel_rfl) Try.func4 (by kernel_rfl)
  (of_decide_eq_true (by kernel_rfl)) (by unfold Func.isWrapper;first|(rw[if_pos (by decide+kernel)];kernel_rfl)|(rw[if_neg (by decide+kernel)];exact⟨rfl,rfl⟩))
  (fun os started H enc _=>Rj call os started H enc)
theorem tripRobust_holds:Rows.TripRobustSaid:=Wx (aH kK)
#print axioms tripRobust_holds
end Go.Proofs.Ytfkokgjfpojeoaa
