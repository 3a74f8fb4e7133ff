/- Layer 6: the law BookFrees. -/
import Derived.Test.YtdbiogihimdpcaaGreatDoorB55
set_option linter.unusedSimpArgs false
set_option linter.unusedVariables false
namespace Go.Proofs.YtdbiogihimdpcaaGreatDoor
open Go.Ev Go
set_option maxRecDepth 100000
set_option maxHeartbeats 1000000
theorem w_BookFrees (hk : om'.call (.fn 15) [] [] = some (.ret (.bool true), [])) (s : BStore) (hs : s.small) (c : BCon) (hc : c.rates.length ≤ maxLen) :
    om'.call (.fn 13) [.agg [.int .i64 s.space, .int .i64 s.inn, .int .i64 s.out, .int .i64 s.lead, .int .i64 s.fuel, slv 11 false s.nn (s.cons.map BCon.cells)], .agg [.bool c.firm, .int .i64 c.space, .int .i64 c.lo, .int .i64 c.hi, slv 3 true c.nn (c.rates.map BRate.cells), .int .i64 c.gas, .int .i64 c.fixed, .int .i64 c.inn, .int .i64 c.out, .int .i64 c.cut, .int .i64 c.lack]] [] = some (.ret (.bool true), []) := by
  cases hv : freesOK s c with
  | false => exact w_Frees0 hk s hs c hc hv
  | true =>
    cases h1 : decide (c.space ≤ s.space - spS s.cons) with
    | false => exact w_FreesA hk s hs c hc hv fun _ _ _ _ _ _ _ _ => h1
    | true =>
      rcases Bool.eq_false_or_eq_true c.firm with h2 | h2
      rotate_left
      · exact w_FreesB hk s hs c hc hv fun _ _ _ _ _ _ _ _ => ⟨h1, h2⟩
      · have hr : c.rates ≠ [] := by
          have h := hv
          simp only [freesOK, Bool.and_eq_true] at h
          exact (conOK h.1.2).rates.1
        have e0 : ∃ r, c.rates[0]? = some r := ⟨_, List.getElem?_eq_getElem (List.length_pos_iff.2 hr)⟩
        have e1 : ∃ r, c.rates[c.rates.length - 1]? = some r := ⟨_, List.getElem?_eq_getElem (by have := List.length_pos_iff.2 hr; omega)⟩
        obtain ⟨r0, e0⟩ := e0
        obtain ⟨r1, e1⟩ := e1
        cases h3 : decide (r0.inn ≤ (freeF s c.hi (c.hi - c.lo + 1).toNat (s.inn, s.out)).1) with
        | false => exact w_FreesC hk s hs c hc hv fun F1 F2 a b f1 f2 ha hb => ⟨h1, h2, by
            rw [e0] at ha; cases ha; rw [← f1]; exact h3⟩
        | true =>
          cases h4 : decide (r1.out ≤ (freeF s c.hi (c.hi - c.lo + 1).toNat (s.inn, s.out)).2) with
          | false => exact w_FreesD hk s hs c hc hv fun F1 F2 a b f1 f2 ha hb => ⟨h1, h2, by
              rw [e0] at ha; cases ha; rw [← f1]; exact h3, by rw [e1] at hb; cases hb; rw [← f2]; exact h4⟩
          | true => exact w_FreesE hk s hs c hc hv fun F1 F2 a b f1 f2 ha hb => ⟨h1, h2, by
              rw [e0] at ha; cases ha; rw [← f1]; exact h3, by rw [e1] at hb; cases hb; rw [← f2]; exact h4⟩
theorem tv_con {av : AV} (h : TyV Tryz.prog 7 42 av) : ∃ c : BCon, av = .agg c.cells ∧ c.rates.length ≤ maxLen := by
  unfold TyV at h
  simp only [Tryz.underlying42] at h
  obtain ⟨cs, rfl, h⟩ := h
  obtain ⟨s, rfl, hs⟩ := ty_con h
  exact ⟨s, rfl, hs⟩
theorem t_BookFrees (hk : om'.call (.fn 15) [] [] = some (.ret (.bool true), [])) : ∀ avs, TyVs Tryz.prog 7 Tryz.f13.params.toList avs → om'.call (.fn 13) avs [] = some (.ret (.bool true), []) := by
  intro avs h
  rw [show Tryz.f13.params.toList = [24, 42] from rfl] at h
  match avs, h with
  | [a, b], h =>
    obtain ⟨h1, h2, _⟩ := h
    obtain ⟨s, rfl, hs⟩ := tv_store h1
    obtain ⟨c, rfl, hc⟩ := tv_con h2
    exact w_BookFrees hk s hs c hc
  | [], h => exact h.elim
  | [_], h => exact h.2.elim
  | _ :: _ :: _ :: _, h => exact h.2.2.elim
end Go.Proofs.YtdbiogihimdpcaaGreatDoor
