/- Layer 6: the law BookFrees. -/
import Derived.Test.YtdbiogihimdpcaaGreatDoorB53
set_option linter.unusedSimpArgs false
set_option linter.unusedVariables false
namespace Go.Proofs.YtdbiogihimdpcaaGreatDoor
open Go.Ev Go
set_option maxRecDepth 100000
set_option maxHeartbeats 1000000
theorem pick_one (s : BStore) (c : BCon) : pickF 0 [c] 0 ([], 0, s.cons) = ([], 0, s.cons) ∧ pickF 1 [c] 0 ([], 0, s.cons) = ([0], IntKind.i64.wrap (0 + worthW c), s.cons ++ [c]) := by
  have e0 : (and1 (shrN 0 0) == 1) = false := by decide
  have e1 : (and1 (shrN 1 0) == 1) = true := by decide
  simp [pickF, e0, e1]
theorem worthW_eq {c : BCon} (C : ConOK c) : worthW c = c.fixed * (c.hi - c.lo + 1) ∧ 0 ≤ worthW c ∧ worthW c ≤ 480000 := by
  have h1 := C.fixed; have h2 := C.hours
  have h3 : 0 ≤ c.fixed * (c.hi - c.lo + 1) := Int.mul_nonneg h1.1 (by omega)
  have h4 : c.fixed * (c.hi - c.lo + 1) ≤ 10000 * 48 := Int.mul_le_mul h1.2 (by omega) (by omega) (by omega)
  have e : worthW c = c.fixed * (c.hi - c.lo + 1) := by
    unfold worthW
    rw [wrap_of (n := c.hi - c.lo) (by omega) (by omega), wrap_of (n := c.hi - c.lo + 1) (by omega) (by omega), wrap_of (by omega) (by omega)]
  rw [e]; omega
theorem sell_one {s : BStore} {c : BCon} (hs : storeB s = true) (hc : conB c = true) (h8 : s.cons.length < 8) : sellF s [c] (List.range (2 ^ [c].length)) ([], 0) = if (fitsB s c && decide (0 < worthW c)) = true then ([0], worthW c) else ([], 0) := by
  have W := worthW_eq (conOK hc)
  obtain ⟨p0, p1⟩ := pick_one s c
  have hw : IntKind.i64.wrap (0 + worthW c) = worthW c := by rw [Int.zero_add]; exact wrap_of (by omega) (by omega)
  have e : List.range (2 ^ [c].length) = [0, 1] := rfl
  rw [e]
  have s0 : sell1 s [c] ((0 : Nat) : Int) ([], 0) = ([], 0) := by
    simp only [sell1, Int.natCast_zero, p0]
    simp [cmpF]
  have s1 : sell1 s [c] ((1 : Nat) : Int) ([], 0) = if (fitsB s c && decide (0 < worthW c)) = true then ([0], worthW c) else ([], 0) := by
    have e1 : ((1 : Nat) : Int) = 1 := rfl
    simp only [sell1, e1, p1, hw, once_more hs hc]
    have n1 : decide (worthW c < 0) = false := decide_eq_false (by omega)
    have n2 : decide ((8 : Int) < ((s.cons ++ [c]).length : Int)) = false := decide_eq_false (by simp; omega)
    have n3 : decide (0 ≤ cmpF [0] []) = true := by decide
    rw [n1, n2, n3]
    by_cases hz : worthW c = 0
    · simp [hz]
    · have : (worthW c == 0) = false := by simpa using hz
      have h0 : decide (0 < worthW c) = true := decide_eq_true (by omega)
      rw [this, h0]
      cases fitsB s c <;> simp
  simp only [sellF, s0, s1]
theorem storeB_more {s : BStore} {c : BCon} (nn : Bool) (hs : storeB s = true) (hc : conB c = true) (h8 : s.cons.length < 8) : storeB ⟨s.space, s.inn, s.out, s.lead, s.fuel, nn, s.cons ++ [c]⟩ = fitsB s c := by
  rw [← once_more hs hc]
  have e : ∀ l, onceB ⟨s.space, s.inn, s.out, s.lead, s.fuel, nn, s.cons ++ [c]⟩ l = onceB s l := fun l => rfl
  have h0 := hs
  simp only [storeB, Bool.and_eq_true, List.all_cons, List.all_nil] at h0
  simp only [storeB, e, List.all_cons, List.all_nil, List.all_append, hc, h0.1.2, h0.1.1.1.2, h0.1.1.1.1.2, h0.1.1.1.1.1.1, h0.1.1.1.1.1.2.1, h0.1.1.1.1.1.2.2.1, Bool.and_true, Bool.true_and]
  have : decide ((s.cons ++ [c]).length ≤ 8) = true := decide_eq_true (by simp; omega)
  rw [this]; simp
end Go.Proofs.YtdbiogihimdpcaaGreatDoor
