/- TripMore returns true at every input, and leaves its arguments as they were. -/
import Derived.Test.YtfkokgjfpojeoaaPartAC
set_option linter.unusedSimpArgs false
set_option linter.unusedVariables false
namespace Go.Proofs.Ytfkokgjfpojeoaa
open Go Go.Ev Go.ChangeShapes Go.WideShapes Go.ChangeAt Go.RowKit
set_option maxRecDepth 100000
set_option maxHeartbeats 16000000
theorem aRE(call:∀avs,a01 Try.prog 7 Try.f7.params.toList avs→om'.call (.fn 7) avs []=some (.ret (.bool true),[]))(os:Os)(started:os.Started)(H:Type)(enc:TypeId × Value→H):
 ReturnsInHanded {} Try.checked os 7 .any (Rows.tripMoreSpec.pre6 enc Try.prog Try.f7 Rows.tripMoreRow.domain false) (Rows.tripMoreSpec.post enc Try.prog Try.f7 false true false false):=by
 refine returnsInHanded_of_change (C:=Try.checked) own started (by kernel_rfl) Try.func7
  (ChangeSpec.witness6 (enc:=enc) (C:=Try.checked) false ⟨#[],#[.agg #[.slice none 0 0,.slice none 0 0,.slice none 0 0,.int .i64 0,.int .i64 0,.int .i64 0,.slice none 0 0],.int .i64 0,.int .i64 0,.agg #[.slice none 0 0,.int .i64 0],.int .i64 0],[]⟩ 8 (by kernel_rfl) (by kernel_rfl) (by kernel_rfl) (by kernel_rfl)) ?_
 intro W base args ds gs before hval hW _ _
 exact a00 (n:=7) (tb:=4) rfl (fun ds hds=>by
  have hl:ds.length=5:=hds
  match ds,hl with
  | [_,_,_,_,_],_=>exact⟨rfl,rfl,rfl⟩) rfl (by kernel_rfl) a8A (by kernel_rfl) hval hW a12 bcM call
theorem aUF(call:∀avs,a01 Try.prog 7 Try.f7.params.toList avs→om'.call (.fn 7) avs []=some (.ret (.bool true),[])):Rows.TripMoreSaid:=
 OpenClaim.holds_of_wide 7 Try.f7 rfl rfl rfl rfl rfl rfl rfl ⟨rfl,rfl,rfl,rfl,rfl⟩ rfl rfl rfl rfl rfl (by kernel_rfl) Try.func7 (by kernel_rfl)
  (of_decide_eq_true (by kernel_rfl)) (by unfold Func.isWrapper;first|(rw[if_pos (by decide+kernel)];kernel_rfl)|(rw[if_neg (by decide+kernel)];exact⟨rfl,rfl⟩))
  (fun os started H enc _=>aRE call os started H enc)
theorem tripMore_holds:Rows.TripMoreSaid:=aUF (aXN a40)
#print axioms tripMore_holds
end Go.Proofs.Ytfkokgjfpojeoaa
