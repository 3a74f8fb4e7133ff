/- The seat's own: primitives, the limit oracle, from evaluations to cards. -/
import Derived.Test.YtdbiogihimdpcaaDoorLibD
import Derived.Test.YtdbiogihimdpcaaDoorRows
import Derived.Test.YtdbiogihimdpcaaDoorTie
import Derived.Test.YtdbiogihimdpcaaDoorCards
import Derived.Test.YtdbiogihimdpcaaDoorShelf
import Derived.ProofKit
import Derived.LaidMore
import Derived.OpenShut
import Derived.Stop.Joined
set_option linter.unusedSimpArgs false
set_option linter.unusedVariables false
namespace Go.Proofs.YtdbiogihimdpcaaDoor
open Go Go.Ev Go.ChangeShapes Go.WideShapes Go.ChangeAt Go.RowKit
set_option maxRecDepth 100000
set_option maxHeartbeats 1000000

def pr : Prims := prims 34 35
noncomputable def om' : Orc := om Tryd.prog pr
theorem own : ownKnob Tryd.prog.godebug = none := by kernel_rfl
theorem noNG : NoNG Tryd.prog := fun f fn hf => by
  have h : (Tryd.prog.funcs.toList.all fun fn => !(fn.name == "runtime.NumGoroutine")) = true := by kernel_rfl
  have := List.all_eq_true.1 h fn (by rw [Array.mem_toList_iff]; exact Array.mem_of_getElem? hf)
  simpa using this
theorem mixed : Tryd.prog.follows .mixedOrders = true := by kernel_rfl
theorem laidOut : laidOutB Tryd.prog = true := by kernel_rfl
def laid : List (String × DataW Unit) := [("math/bits.deBruijn32tab", Rows.laid_math_bits_deBruijn32tab), ("math/bits.deBruijn64tab", Rows.laid_math_bits_deBruijn64tab), ("internal/strconv.uint64pow10", Rows.laid_internal_strconv_uint64pow10)]
theorem gTab : Tryd.prog.globalNamed "internal/strconv.uint64pow10" = some 0 := by kernel_rfl
theorem tab {W : World} (h : laidMetH Tryd.prog laid W) : Lib.TabIs Tryd.prog W "internal/strconv.uint64pow10" .u64 Lib.pow10Tab := by
  rw [MakeChecks.laidMetH_plain _ _ _ (by kernel_rfl)] at h
  obtain ⟨ps, h, _⟩ := h
  exact tabIs_of_mem (t := 144) (e := 135) (n := 20) gTab (by kernel_rfl) (by kernel_rfl) (by kernel_rfl) (by kernel_rfl) (by kernel_rfl) h (by
    have e : (Lib.tabData .u64 Lib.pow10Tab : DataW Unit) = Rows.laid_internal_strconv_uint64pow10 := rfl
    rw [e]; simp [laid])
theorem calls_ok {W : World} (h : laidMetH Tryd.prog laid W) : CallsOK Tryd.prog (oneG W 0) om' :=
  om_ok noNG (prims_ok (itoa_ok (enters noNG Tryd.func34 rfl) (oneG_tab gTab (tab h)) (fun n w h0 h1 ht => Tryd.strconv_Itoa n h0 h1 w ht)) (join_ok (enters noNG Tryd.func35 rfl) Tryd.strings_Join_none Tryd.strings_Join)) mixed
theorem door_met (os : Os) (args : Array Value) : laidMetH Tryd.prog laid ((World.doorLaid Tryd.prog 400 os).forCall (fun _ _ => 0) ⟨#[], args, []⟩).memory :=
  laidMetH_of_parts3 (fuel := 8) (laidMet_of_run' 8 (by kernel_rfl) (by kernel_rfl)) (by kernel_rfl) (by kernel_rfl)
end Go.Proofs.YtdbiogihimdpcaaDoor
