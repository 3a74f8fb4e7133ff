/- Layer 6: nominations as they come. -/
import Derived.Test.YtdbiogihimdpcaaGreatDoorB10
set_option linter.unusedSimpArgs false
set_option linter.unusedVariables false
namespace Go.Proofs.YtdbiogihimdpcaaGreatDoor
open Go.Ev Go
set_option maxRecDepth 100000
set_option maxHeartbeats 1000000
theorem ty_nom {n : Nat} {r : List AV} (h : Ty Tryz.prog (n + 2) 62 r) : ∃ x : BNom, r = x.cells ∧ True := by
  unfold Ty at h
  simp only [Tryz.underlying62, TyFs] at h
  obtain ⟨a, b, rfl, h1, c, d, rfl, h2, e, f, rfl, h3, g, k, rfl, h4, rfl⟩ := h
  obtain ⟨x, rfl, _⟩ := ty_int h1
  obtain ⟨y, rfl, _⟩ := ty_int h2
  obtain ⟨z, rfl, _⟩ := ty_int h3
  obtain ⟨u, rfl, _⟩ := ty_int h4
  exact ⟨⟨x, y, z, u⟩, rfl, trivial⟩
theorem ty_noms {n : Nat} {r : List AV} (h : Ty Tryz.prog (n + 3) 45 r) : ∃ (nn : Bool) (l : List BNom), r = [slv 4 true nn (l.map BNom.cells)] ∧ l.length ≤ maxLen := by
  unfold Ty at h
  simp only [Tryz.underlying45] at h
  obtain ⟨nn, rows, rfl, hl, hrows⟩ := h
  obtain ⟨l, rfl, _⟩ := list_of (fun r hr => ty_nom hr) hrows
  have e1 : Tryz.prog.cellsOf 62 = 4 := by kernel_rfl
  have e2 : flT Tryz.prog (n + 2) 62 = true := by
    simp only [flT, Tryz.underlying62, Tryz.underlying3]; rfl
  rw [e1, e2]
  exact ⟨nn, l, rfl, by simpa using hl⟩
theorem tv_noms {av : AV} (h : TyV Tryz.prog 7 45 av) : ∃ (nn : Bool) (l : List BNom), av = slv 4 true nn (l.map BNom.cells) ∧ l.length ≤ maxLen := by
  unfold TyV at h
  simp only [Tryz.underlying45] at h
  obtain ⟨nn, l, hx, hl⟩ := ty_noms h
  simp only [List.cons.injEq, and_true] at hx
  exact ⟨nn, l, hx, hl⟩
theorem t_BookCounts (hk : om'.call (.fn 15) [] [] = some (.ret (.bool true), [])) : ∀ avs, TyVs Tryz.prog 7 Tryz.f10.params.toList avs → om'.call (.fn 10) avs [] = some (.ret (.bool true), []) := by
  intro avs h
  rw [show Tryz.f10.params.toList = [24, 45, 3, 3] from rfl] at h
  match avs, h with
  | [a, b, c, d], h =>
    obtain ⟨h1, h2, h3, h4, _⟩ := h
    obtain ⟨s, rfl, hs⟩ := tv_store h1
    obtain ⟨nn, l, rfl, hl⟩ := tv_noms h2
    obtain ⟨x, rfl, _⟩ := tv_int h3
    obtain ⟨y, rfl, _⟩ := tv_int h4
    exact w_BookCounts hk s hs l nn x y hl
  | [], h => exact h.elim
  | [_], h => exact h.2.elim
  | [_, _], h => exact h.2.2.elim
  | [_, _, _], h => exact h.2.2.2.elim
  | _ :: _ :: _ :: _ :: _ :: _, h => exact h.2.2.2.2.elim
end Go.Proofs.YtdbiogihimdpcaaGreatDoor
