/- TripChecks returns true at every input, and leaves its arguments as they were. -/
import Derived.Test.YtfkokgjfpojeoaaPartAB
set_option linter.unusedSimpArgs false
set_option linter.unusedVariables false
namespace Go.Proofs.Ytfkokgjfpojeoaa
open Go Go.Ev Go.ChangeShapes Go.WideShapes Go.ChangeAt Go.RowKit
set_option maxRecDepth 100000
set_option maxHeartbeats 16000000
theorem ajF(call:∀avs,au6 Try.prog 7 Try.f8.params.toList avs→om'.call (.fn 8) avs []=some (.ret (.bool true),[]))(os:Os)(started:os.Started)(H:Type)(enc:TypeId × Value→H):
 ReturnsInHanded {} Try.checked os 8 .any (Rows.tripChecksSpec.pre6 enc Try.prog Try.f8 Rows.tripChecksRow.domain false) (Rows.tripChecksSpec.post enc Try.prog Try.f8 false true false false):=by
 refine returnsInHanded_of_change (C:=Try.checked) own started (by kernel_rfl) Try.func8
  (ChangeSpec.witness6 (enc:=enc) (C:=Try.checked) false ⟨#[],#[.agg #[.slice none 0 0,.slice none 0 0,.slice none 0 0,.int .i64 0,.int .i64 0,.int .i64 0,.slice none 0 0],.slice none 0 0],[]⟩ 8 (by kernel_rfl) (by kernel_rfl) (by kernel_rfl) (by kernel_rfl)) ?_
 intro W base args ds gs before hval hW _ _
 exact avH (n:=7) (tb:=4) rfl (fun ds hds=>by
  have hl:ds.length=2:=hds
  match ds,hl with
  | [_,_],_=>exact⟨rfl,rfl,rfl⟩) rfl (by kernel_rfl) aB2 (by kernel_rfl) hval hW ayU aEJ call
theorem amY(call:∀avs,au6 Try.prog 7 Try.f8.params.toList avs→om'.call (.fn 8) avs []=some (.ret (.bool true),[])):Rows.TripChecksSaid:=
 OpenClaim.holds_of_wide 8 Try.f8 rfl rfl rfl rfl rfl rfl rfl ⟨rfl,rfl,rfl,rfl,rfl⟩ rfl rfl rfl rfl rfl (by kernel_rfl) Try.func8 (by kernel_rfl)
  (of_decide_eq_true (by kernel_rfl)) (by unfold Func.isWrapper;first|(rw[if_pos (by decide+kernel)];kernel_rfl)|(rw[if_neg (by decide+kernel)];exact⟨rfl,rfl⟩))
  (fun os started H enc _=>ajF call os started H enc)
theorem tripChecks_holds:Rows.TripChecksSaid:=amY (ap9 az6)
#print axioms tripChecks_holds
end Go.Proofs.Ytfkokgjfpojeoaa
