/- The seat's own: primitives, the limit oracle, from evaluations to cards. -/
import Derived.Test.YtkonpmbcipbhbaaGreatDoorLibD
import Derived.Test.YtkonpmbcipbhbaaGreatDoorRows
import Derived.Test.YtkonpmbcipbhbaaGreatDoorTie
import Derived.Test.YtkonpmbcipbhbaaGreatDoorCards
import Derived.Test.YtkonpmbcipbhbaaGreatDoorShelf
import Derived.ProofKit
import Derived.LaidMore
import Derived.OpenShut
import Derived.Stop.Joined
set_option linter.unusedSimpArgs false
set_option linter.unusedVariables false
namespace Go.Proofs.YtkonpmbcipbhbaaGreatDoor
open Go Go.Ev Go.ChangeShapes Go.WideShapes Go.ChangeAt Go.RowKit
set_option maxRecDepth 100000
set_option maxHeartbeats 1000000

/-- Functions that work on the caller's heap. -/
def mdL : List Nat := [95, 94, 98]
def pr : Prims := prims 47 48 (mdL.contains ·)
noncomputable def om' : Orc := om Tryz.prog pr
theorem om_md (f : Nat) : om'.md f = ([95, 94, 98] : List Nat).contains f := Eq.trans rfl rfl
theorem own : ownKnob Tryz.prog.godebug = none := by kernel_rfl
theorem noNG : NoNG Tryz.prog := fun f fn hf => by
  have h : (Tryz.prog.funcs.toList.all fun fn => !(fn.name == "runtime.NumGoroutine")) = true := by kernel_rfl
  have := List.all_eq_true.1 h fn (by rw [Array.mem_toList_iff]; exact Array.mem_of_getElem? hf)
  simpa using this
theorem mixed : Tryz.prog.follows .mixedOrders = true := by kernel_rfl
theorem laidOut : laidOutB Tryz.prog = true := by kernel_rfl
def laid : List (String × DataW Unit) := [("math/bits.deBruijn32tab", Rows.laid_math_bits_deBruijn32tab), ("math/bits.deBruijn64tab", Rows.laid_math_bits_deBruijn64tab), ("internal/strconv.uint64pow10", Rows.laid_internal_strconv_uint64pow10)]
theorem gTab : Tryz.prog.globalNamed "internal/strconv.uint64pow10" = some 0 := by kernel_rfl
theorem tab {W : World} (h : laidMetH Tryz.prog laid W) : Lib.TabIs Tryz.prog W "internal/strconv.uint64pow10" .u64 Lib.pow10Tab := by
  rw [MakeChecks.laidMetH_plain _ _ _ (by kernel_rfl)] at h
  obtain ⟨ps, h, _⟩ := h
  exact tabIs_of_mem (t := 156) (e := 147) (n := 20) gTab (by kernel_rfl) (by kernel_rfl) (by kernel_rfl) (by kernel_rfl) (by kernel_rfl) h (by
    have e : (Lib.tabData .u64 Lib.pow10Tab : DataW Unit) = Rows.laid_internal_strconv_uint64pow10 := rfl
    rw [e]; simp [laid])
theorem calls_ok {W : World} (h : laidMetH Tryz.prog laid W) : CallsOK Tryz.prog (oneG W 0) om' :=
  om_ok noNG (prims_ok (itoa_ok (enters noNG Tryz.func47 rfl) (oneG_tab gTab (tab h)) (fun n w h0 h1 ht => Tryz.strconv_Itoa n h0 h1 w ht)) (join_ok (enters noNG Tryz.func48 rfl) Tryz.strings_Join_none Tryz.strings_Join)) mixed
theorem door_met (os : Os) (args : Array Value) : laidMetH Tryz.prog laid ((World.doorLaid Tryz.prog 400 os).forCall (fun _ _ => 0) ⟨#[], args, []⟩).memory :=
  laidMetH_of_parts3 (fuel := 8) (laidMet_of_run' 8 (by kernel_rfl) (by kernel_rfl)) (by kernel_rfl) (by kernel_rfl)
end Go.Proofs.YtkonpmbcipbhbaaGreatDoor
