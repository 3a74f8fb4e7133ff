/- Layer 6: the law BookGrants. -/
import Derived.Test.YtdbiogihimdpcaaGreatDoorB30
set_option linter.unusedSimpArgs false
set_option linter.unusedVariables false
namespace Go.Proofs.YtdbiogihimdpcaaGreatDoor
open Go.Ev Go
set_option maxRecDepth 100000
set_option maxHeartbeats 1000000
theorem oth_eq {c : BCon} {w : Int} (h : -1000000000 ≤ w ∧ w ≤ 1000000000) : othW c w = othR c w := by
  unfold othW othR firmW
  split
  · rw [Int.sub_self]; exact wrap_0
  · rw [Int.sub_zero]; exact wrap_of (by omega) (by omega)
theorem oz_eq : ∀ {cs : List BCon} {l : List Int}, (∀ w ∈ l, -1000000000 ≤ w ∧ w ≤ 1000000000) → ozL cs l = ozR cs l
  | [], _, _ => rfl
  | _ :: _, [], _ => rfl
  | c :: cs, w :: l, h => by
    have ih := oz_eq (cs := cs) (l := l) (fun x hx => h x (List.mem_cons_of_mem _ hx))
    simp only [ozL, ozR, List.zipWith_cons_cons] at ih ⊢
    rw [ih, oth_eq (h w (List.mem_cons_self ..))]
theorem grant_eq {cs : List BCon} {l : List Int} (h : ∀ w ∈ l, -1000000000 ≤ w ∧ w ≤ 1000000000) (m : Int) : grantL cs l m = grantR cs l m := by
  unfold grantL grantR
  rw [oz_eq h]
theorem pos_in {x : Int} (h : inB x (-100000000) 100000000 = true) : 0 ≤ posI x ∧ posI x ≤ 100000000 := by
  simp only [inB, Bool.and_eq_true, decide_eq_true_eq] at h
  unfold posI; split <;> omega
theorem neg_in {x : Int} (h : inB x (-100000000) 100000000 = true) : 0 ≤ negI x ∧ negI x ≤ 100000000 := by
  simp only [inB, Bool.and_eq_true, decide_eq_true_eq] at h
  unfold negI posI; rw [wrap_of (by omega) (by omega)]; split <;> omega
theorem grantAll_eq {cs : List BCon} {l : List Int} (h : wantsB l = true) (a b : Int) : grantAll grantL cs l a b = grantAll grantR cs l a b := by
  simp only [wantsB, List.all_eq_true] at h
  unfold grantAll
  rw [grant_eq (fun w hw => by
    obtain ⟨x, hx, rfl⟩ := List.mem_map.1 hw
    have := pos_in (h x hx); omega), grant_eq (fun w hw => by
    obtain ⟨x, hx, rfl⟩ := List.mem_map.1 hw
    have := neg_in (h x hx); omega)]
theorem ty_ints {n : Nat} {r : List AV} (h : Ty Tryz.prog (n + 2) 25 r) : ∃ (nn : Bool) (l : List Int), r = [slv 1 true nn (l.map iv)] ∧ l.length ≤ maxLen ∧ ∀ x ∈ l, i64 x := by
  unfold Ty at h
  simp only [Tryz.underlying25] at h
  obtain ⟨nn, rows, rfl, hl, hrows⟩ := h
  obtain ⟨l, rfl, hi⟩ := list_of (f := iv) (q := i64) (fun r hr => by obtain ⟨x, rfl, hx⟩ := ty_int hr; exact ⟨x, rfl, hx⟩) hrows
  have e1 : Tryz.prog.cellsOf 3 = 1 := by kernel_rfl
  have e2 : flT Tryz.prog (n + 1) 3 = true := by
    simp only [flT, Tryz.underlying3]
  rw [e1, e2]
  exact ⟨nn, l, rfl, by simpa using hl, hi⟩
theorem tv_ints {av : AV} (h : TyV Tryz.prog 7 25 av) : ∃ (nn : Bool) (l : List Int), av = slv 1 true nn (l.map iv) ∧ l.length ≤ maxLen ∧ ∀ x ∈ l, i64 x := by
  unfold TyV at h
  simp only [Tryz.underlying25] at h
  obtain ⟨nn, l, hx, hl⟩ := ty_ints h
  simp only [List.cons.injEq, and_true] at hx
  exact ⟨nn, l, hx, hl⟩
end Go.Proofs.YtdbiogihimdpcaaGreatDoor
