/- Layer 6: the law BookGrants. -/
import Derived.Test.YtkonpmbcipbhbaaGreatDoorB30
set_option linter.unusedSimpArgs false
set_option linter.unusedVariables false
namespace Go.Proofs.YtkonpmbcipbhbaaGreatDoor
open Go.Ev Go
set_option maxRecDepth 100000
set_option maxHeartbeats 1000000
theorem ty_ints {n : Nat} {r : List AV} (h : Ty Tryz.prog (n + 2) 27 r) : ∃ (nn : Bool) (l : List Int), r = [slv 1 true nn (l.map iv)] ∧ l.length ≤ maxLen ∧ ∀ x ∈ l, i64 x := by
  unfold Ty at h
  simp only [Tryz.underlying27] at h
  obtain ⟨nn, rows, rfl, hl, hrows⟩ := h
  obtain ⟨l, rfl, hi⟩ := list_of (f := iv) (q := i64) (fun r hr => by obtain ⟨x, rfl, hx⟩ := ty_int hr; exact ⟨x, rfl, hx⟩) hrows
  have e1 : Tryz.prog.cellsOf 3 = 1 := by kernel_rfl
  have e2 : flT Tryz.prog (n + 1) 3 = true := by
    simp only [flT, Tryz.underlying3]
  rw [e1, e2]
  exact ⟨nn, l, rfl, by simpa using hl, hi⟩
theorem tv_ints {av : AV} (h : TyV Tryz.prog 7 27 av) : ∃ (nn : Bool) (l : List Int), av = slv 1 true nn (l.map iv) ∧ l.length ≤ maxLen ∧ ∀ x ∈ l, i64 x := by
  unfold TyV at h
  simp only [Tryz.underlying27] at h
  obtain ⟨nn, l, hx, hl⟩ := ty_ints h
  simp only [List.cons.injEq, and_true] at hx
  exact ⟨nn, l, hx, hl⟩
end Go.Proofs.YtkonpmbcipbhbaaGreatDoor
