/- Layer 6: arguments as they come. -/
import Derived.Test.YtkonpmbcipbhbaaGreatDoorB6
set_option linter.unusedSimpArgs false
set_option linter.unusedVariables false
namespace Go.Proofs.YtkonpmbcipbhbaaGreatDoor
open Go.Ev Go
set_option maxRecDepth 100000
set_option maxHeartbeats 1000000

theorem list_of {α : Type} {f : α → List AV} {p : List AV → Prop} {q : α → Prop} (hf : ∀ r, p r → ∃ x, r = f x ∧ q x) : ∀ {rows : List (List AV)}, (∀ r ∈ rows, p r) → ∃ l : List α, rows = l.map f ∧ ∀ x ∈ l, q x
  | [], _ => ⟨[], rfl, fun x hx => by simp at hx⟩
  | r :: rows, h => by
    obtain ⟨x, rfl, hx⟩ := hf r (h r (List.mem_cons_self ..))
    obtain ⟨l, rfl, hl⟩ := list_of hf (fun r hr => h r (List.mem_cons_of_mem _ hr))
    exact ⟨x :: l, rfl, fun y hy => by
      rcases List.mem_cons.1 hy with rfl | hy
      · exact hx
      · exact hl y hy⟩
def i64 (n : Int) : Prop := -9223372036854775808 ≤ n ∧ n ≤ 9223372036854775807
theorem ty_int {n : Nat} {r : List AV} (h : Ty Tryz.prog (n + 1) 3 r) : ∃ x, r = [.int .i64 x] ∧ i64 x := by
  simp only [Ty, Tryz.underlying3] at h
  obtain ⟨x, rfl, h1, h2⟩ := h
  exact ⟨x, rfl, h1, h2⟩
theorem ty_bool {n : Nat} {r : List AV} (h : Ty Tryz.prog (n + 1) 4 r) : ∃ x, r = [.bool x] := by
  simp only [Ty, Tryz.underlying4] at h
  exact h
theorem ty_span {n : Nat} {r : List AV} (h : Ty Tryz.prog (n + 2) 40 r) : ∃ x y, r = [.int .i64 x, .int .i64 y] ∧ i64 x ∧ i64 y := by
  unfold Ty at h
  simp only [Tryz.underlying40, TyFs] at h
  obtain ⟨a, b, rfl, h1, c, d, rfl, h2, rfl⟩ := h
  obtain ⟨x, rfl, hx⟩ := ty_int h1
  obtain ⟨y, rfl, hy⟩ := ty_int h2
  exact ⟨x, y, rfl, hx, hy⟩
theorem ty_rate {n : Nat} {r : List AV} (h : Ty Tryz.prog (n + 2) 45 r) : ∃ x : BRate, r = x.cells ∧ True := by
  unfold Ty at h
  simp only [Tryz.underlying45, TyFs] at h
  obtain ⟨a, b, rfl, h1, c, d, rfl, h2, e, f, rfl, h3, rfl⟩ := h
  obtain ⟨x, rfl, _⟩ := ty_int h1
  obtain ⟨y, rfl, _⟩ := ty_int h2
  obtain ⟨z, rfl, _⟩ := ty_int h3
  exact ⟨⟨x, y, z⟩, rfl, trivial⟩
theorem ty_con {n : Nat} {r : List AV} (h : Ty Tryz.prog (n + 4) 43 r) : ∃ x : BCon, r = x.cells ∧ x.rates.length ≤ maxLen := by
  unfold Ty at h
  simp only [Tryz.underlying43, TyFs] at h
  obtain ⟨a0, b0, rfl, h0, a1, b1, rfl, h1, a2, b2, rfl, h2, a3, b3, rfl, h3, a4, b4, rfl, h4, a5, b5, rfl, h5, a6, b6, rfl, h6, a7, b7, rfl, h7, a8, b8, rfl, h8, a9, b9, rfl, h9, rfl⟩ := h
  obtain ⟨x0, rfl⟩ := ty_bool h0
  obtain ⟨x1, rfl, _⟩ := ty_int h1
  obtain ⟨x2, y2, rfl, _⟩ := ty_span h2
  obtain ⟨x4, rfl, _⟩ := ty_int h4
  obtain ⟨x5, rfl, _⟩ := ty_int h5
  obtain ⟨x6, rfl, _⟩ := ty_int h6
  obtain ⟨x7, rfl, _⟩ := ty_int h7
  obtain ⟨x8, rfl, _⟩ := ty_int h8
  obtain ⟨x9, rfl, _⟩ := ty_int h9
  unfold Ty at h3
  simp only [Tryz.underlying41] at h3
  obtain ⟨nn, rows, rfl, hl, hrows⟩ := h3
  obtain ⟨l, rfl, _⟩ := list_of (fun r hr => ty_rate hr) hrows
  have e1 : Tryz.prog.cellsOf 45 = 3 := by kernel_rfl
  have e2 : flT Tryz.prog (n + 2) 45 = true := by
    simp only [flT, Tryz.underlying45, Tryz.underlying3]; rfl
  rw [e1, e2]
  exact ⟨⟨x0, x1, x2, y2, nn, l, x4, x5, x6, x7, x8, x9⟩, rfl, by simpa using hl⟩
theorem ty_cons {n : Nat} {r : List AV} (h : Ty Tryz.prog (n + 5) 22 r) : ∃ (nn : Bool) (l : List BCon), r = [slv 11 false nn (l.map BCon.cells)] ∧ l.length ≤ maxLen ∧ ∀ c ∈ l, c.rates.length ≤ maxLen := by
  unfold Ty at h
  simp only [Tryz.underlying22] at h
  obtain ⟨nn, rows, rfl, hl, hrows⟩ := h
  obtain ⟨l, rfl, hc⟩ := list_of (fun r hr => ty_con hr) hrows
  have e1 : Tryz.prog.cellsOf 43 = 11 := by kernel_rfl
  have e2 : flT Tryz.prog (n + 4) 43 = false := by
    simp only [flT, Tryz.underlying43, Tryz.underlying41]; simp
  rw [e1, e2]
  exact ⟨nn, l, rfl, by simpa using hl, hc⟩
theorem ty_store {n : Nat} {r : List AV} (h : Ty Tryz.prog (n + 6) 24 r) : ∃ s : BStore, r = s.cells ∧ s.small := by
  unfold Ty at h
  simp only [Tryz.underlying24, TyFs] at h
  obtain ⟨a0, b0, rfl, h0, a1, b1, rfl, h1, a2, b2, rfl, h2, a3, b3, rfl, h3, a4, b4, rfl, h4, a5, b5, rfl, h5, rfl⟩ := h
  obtain ⟨x0, rfl, _⟩ := ty_int h0
  obtain ⟨x1, rfl, _⟩ := ty_int h1
  obtain ⟨x2, rfl, _⟩ := ty_int h2
  obtain ⟨x3, rfl, _⟩ := ty_int h3
  obtain ⟨x4, rfl, _⟩ := ty_int h4
  obtain ⟨nn, l, rfl, hl, hc⟩ := ty_cons h5
  exact ⟨⟨x0, x1, x2, x3, x4, nn, l⟩, rfl, hl, hc⟩
theorem tv_store {av : AV} (h : TyV Tryz.prog 7 24 av) : ∃ s : BStore, av = .agg s.cells ∧ s.small := by
  unfold TyV at h
  simp only [Tryz.underlying24] at h
  obtain ⟨cs, rfl, h⟩ := h
  obtain ⟨s, rfl, hs⟩ := ty_store h
  exact ⟨s, rfl, hs⟩
theorem tv_int {av : AV} (h : TyV Tryz.prog 7 3 av) : ∃ x, av = .int .i64 x ∧ i64 x := by
  unfold TyV at h
  simp only [Tryz.underlying3] at h
  obtain ⟨x, hx, hi⟩ := ty_int h
  simp only [List.cons.injEq, and_true] at hx
  exact ⟨x, hx, hi⟩
end Go.Proofs.YtkonpmbcipbhbaaGreatDoor
