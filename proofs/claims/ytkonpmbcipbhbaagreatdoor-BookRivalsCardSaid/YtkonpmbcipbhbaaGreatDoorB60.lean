/- Layer 6: the law BookSells. -/
import Derived.Test.YtkonpmbcipbhbaaGreatDoorB59
set_option linter.unusedSimpArgs false
set_option linter.unusedVariables false
namespace Go.Proofs.YtkonpmbcipbhbaaGreatDoor
open Go.Ev Go
set_option maxRecDepth 100000
set_option maxHeartbeats 1000000
/-- The program's step of the search is the specification's. -/
theorem sell_best (s : BStore) (off : List BCon) (z : Int) (b : List Int) : sell1 s off z (b, togF off b 0) = (best1 s off z b, togF off (best1 s off z b) 0) := by
  unfold sell1 best1
  rw [pick_bits z off off 0 [] 0 s.cons rfl]
  simp only [List.nil_append]
  generalize withL off s.cons (bitsF z off.length 0) = q
  generalize bitsF z off.length 0 = l
  cases ho : onceB s q with
  | false => simp
  | true =>
    by_cases h8 : q.length ≤ 8
    · have h8' : ¬ ((8 : Int) < (q.length : Int)) := by omega
      rcases Int.lt_trichotomy (togF off l 0) (togF off b 0) with h | h | h
      · have h1 : ¬ togF off b 0 < togF off l 0 := by omega
        have h2 : togF off l 0 ≠ togF off b 0 := by omega
        simp [h, h1, h2]
      · by_cases hc : cmpF l b < 0
        · have : ¬ (0 ≤ cmpF l b) := by omega
          simp [hc, h8, h8', h, this]
        · have : 0 ≤ cmpF l b := by omega
          simp [hc, h8, h8', h, this]
      · have h1 : ¬ togF off l 0 < togF off b 0 := by omega
        have h2 : togF off l 0 ≠ togF off b 0 := by omega
        simp [h, h1, h2, h8, h8']
    · have h8' : (8 : Int) < (q.length : Int) := by omega
      simp [h8, h8']
theorem sells_best (s : BStore) (off : List BCon) : ∀ (l : List Nat) (b : List Int), sellF s off l (b, togF off b 0) = (bestF s off l b, togF off (bestF s off l b) 0)
  | [], _ => rfl
  | z :: l, b => by
    unfold sellF bestF
    rw [sell_best]
    exact sells_best s off l _
theorem best_mem (s : BStore) (off : List BCon) (ho : off.length ≤ 8) : ∀ (l : List Nat) (b : List Int), numB off.length b ∧ b.length ≤ 8 → numB off.length (bestF s off l b) ∧ (bestF s off l b).length ≤ 8
  | [], _, h => h
  | z :: l, b, h => by
    unfold bestF
    exact best_mem s off ho l _ (best1_mem h ho)
theorem tv_offs {av : AV} (h : TyV Tryz.prog 7 22 av) : ∃ (nn : Bool) (l : List BCon), av = slv 11 false nn (l.map BCon.cells) ∧ l.length ≤ maxLen ∧ ∀ c ∈ l, c.rates.length ≤ maxLen := by
  unfold TyV at h
  simp only [Tryz.underlying22] at h
  obtain ⟨nn, l, h1, h2, h3⟩ := ty_cons h
  simp only [List.cons.injEq, and_true] at h1
  exact ⟨nn, l, h1, h2, h3⟩
end Go.Proofs.YtkonpmbcipbhbaaGreatDoor
