/- Layer 6: the law BookRates, whole. -/
import Derived.Test.YtdbiogihimdpcaaDoorB21
set_option linter.unusedSimpArgs false
set_option linter.unusedVariables false
namespace Go.Proofs.YtdbiogihimdpcaaDoor
open Go.Ev Go
set_option maxRecDepth 100000
set_option maxHeartbeats 1000000
theorem w_BookRates (hk : om'.call (.fn 4) [] [] = some (.ret (.bool true), [])) (c : BCon) (gas more : Int) (hl : c.rates.length ≤ maxLen) : om'.call (.fn 3) [.agg [.bool c.firm, .int .i64 c.space, .int .i64 c.lo, .int .i64 c.hi, slv 3 true c.nn (c.rates.map BRate.cells), .int .i64 c.gas, .int .i64 c.fixed, .int .i64 c.inn, .int .i64 c.out, .int .i64 c.cut, .int .i64 c.lack], .int .i64 gas, .int .i64 more] [] = some (.ret (.bool true), []) := by
  have h1 := e_Rate c gas hl
  have h2 := e_Rate c more hl
  have h3 := r_Contract c hl
  cases hv : conB c with
  | false =>
    have hz : rateOK c gas = false := by simp [rateOK, hv]
    rw [hv] at h3
    simp only [hz, if_false, Bool.false_eq_true] at h1
    (refine ClQ.eq (stOf rfl Tryd.func3 rfl rfl ?_); simp only [Tryd.f3]; simp only [EVa.down, EVb.down, EVc.down, EVd.down, EVe.down, EVf.down, EVg.down, EVh.down, EVi.down, EVj.down, EVk.down, EVl.down, EVm.down, compO, evalO, evalOs, ofVal, ofLit, happ, happ1, setRow, setCells, bsK, oneA, Nat.reduceLT, Nat.reduceLeDiff, Nat.reduceEqDiff, Nat.reduceAdd, Nat.reduceSub, Nat.reducePow, Nat.reduceMul, ↓reduceIte, reduceCtorEq, TY3.down, h1, h3, hk, i_eqself, Int.reduceBEq]; repeat' ((first | with_reducible refine fw_rc ?_ ?_ | with_reducible refine fw_cd ?_ ?_ | with_reducible refine fw_rq ?_ ?_ | with_reducible refine fw_rw ?_ ?_ | with_reducible refine fw_rl ?_ ?_ | (with_reducible refine fw_gdT ?_ ?_; kernel_rfl) | (with_reducible refine fw_dwT ?_ ?_ ?_; (first | exact fnE_none | exact rnd_none); decide +kernel) | (with_reducible refine fw_dnT ?_ ?_ ?_; (first | exact fnE_none | exact rnd_none); decide +kernel) | (with_reducible refine fw_dlT ?_ ?_ ?_; (first | exact fnE_none | exact rnd_none); decide +kernel)) <;> (intro hb; (try simp only [hb, EVa.down, EVb.down, EVc.down, EVd.down, EVe.down, EVf.down, EVg.down, EVh.down, EVi.down, EVj.down, EVk.down, EVl.down, EVm.down, compO, evalO, evalOs, ofVal, ofLit, happ, happ1, setRow, setCells, bsK, oneA, Nat.reduceLT, Nat.reduceLeDiff, Nat.reduceEqDiff, Nat.reduceAdd, Nat.reduceSub, Nat.reducePow, Nat.reduceMul, ↓reduceIte, reduceCtorEq, TY3.down, h1, h3, hk, i_eqself, Int.reduceBEq]); try (revert hb; intro (_ : True)))))
  | true =>
    rw [hv] at h3
    obtain ⟨f1, f2, f3, f4, f5⟩ := conB_facts hv
    by_cases hg : 0 ≤ gas ∧ gas ≤ c.space
    · have hz : rateOK c gas = true := by simp [rateOK, hv, inB, hg]
      simp only [hz, if_true] at h1
      obtain ⟨r0, hr0⟩ : ∃ r0, c.rates[0]? = some r0 := ⟨c.rates[0], List.getElem?_eq_getElem (by omega)⟩
      have hfill : r0.fill = 0 := by
        cases hc : c.rates with
        | nil => rw [hc] at f4; simp at f4
        | cons r l =>
          rw [hc] at f1 hr0
          simp only [List.getElem?_cons_zero, Option.some.injEq] at hr0
          subst hr0
          simp only [ratesB, rateB, Bool.and_eq_true, decide_eq_true_eq] at f1
          exact f1.1.2
      have hq := quo_mono f2 hg.1 (Int.le_refl gas) (by omega)
      have h4 := r_Rate c gas r0 hr0 (by omega) hl (by omega)
      simp only [BRate.cells] at h4
      have g1 : decide (gas < 0) = false := by rw [decide_eq_false_iff_not]; omega
      have g2 : decide (c.space < gas) = false := by rw [decide_eq_false_iff_not]; omega
      by_cases hm : gas ≤ more ∧ more ≤ c.space
      · have hz2 : rateOK c more = true := by simp [rateOK, hv, inB]; omega
        simp only [hz2, if_true] at h2
        have g3 : decide (more < gas) = false := by rw [decide_eq_false_iff_not]; omega
        have g4 : decide (c.space < more) = false := by rw [decide_eq_false_iff_not]; omega
        have hq2 := quo_mono f2 hg.1 hm.1 (by omega)
        have hM := rateR_mono f1 hq2.2 (c.rates.length - 1) (by omega)
        simp only [rateV] at h1 h2
        have g5 : decide ((rateR (quoW c more) c.rates (c.rates.length - 1)).inn ≤ (rateR (quoW c gas) c.rates (c.rates.length - 1)).inn) = true := by rw [decide_eq_true_eq]; exact hM.1
        have g6 : decide ((rateR (quoW c gas) c.rates (c.rates.length - 1)).out ≤ (rateR (quoW c more) c.rates (c.rates.length - 1)).out) = true := by rw [decide_eq_true_eq]; exact hM.2
        (refine ClQ.eq (stOf rfl Tryd.func3 rfl rfl ?_); simp only [Tryd.f3]; simp only [EVa.down, EVb.down, EVc.down, EVd.down, EVe.down, EVf.down, EVg.down, EVh.down, EVi.down, EVj.down, EVk.down, EVl.down, EVm.down, compO, evalO, evalOs, ofVal, ofLit, happ, happ1, setRow, setCells, bsK, oneA, Nat.reduceLT, Nat.reduceLeDiff, Nat.reduceEqDiff, Nat.reduceAdd, Nat.reduceSub, Nat.reducePow, Nat.reduceMul, ↓reduceIte, reduceCtorEq, TY3.down, h1, h2, h3, h4, hk, g1, g2, g3, g4, g5, g6, i_eqself, Int.reduceBEq]; repeat' ((first | with_reducible refine fw_rc ?_ ?_ | with_reducible refine fw_cd ?_ ?_ | with_reducible refine fw_rq ?_ ?_ | with_reducible refine fw_rw ?_ ?_ | with_reducible refine fw_rl ?_ ?_ | (with_reducible refine fw_gdT ?_ ?_; kernel_rfl) | (with_reducible refine fw_dwT ?_ ?_ ?_; (first | exact fnE_none | exact rnd_none); decide +kernel) | (with_reducible refine fw_dnT ?_ ?_ ?_; (first | exact fnE_none | exact rnd_none); decide +kernel) | (with_reducible refine fw_dlT ?_ ?_ ?_; (first | exact fnE_none | exact rnd_none); decide +kernel)) <;> (intro hb; (try simp only [hb, EVa.down, EVb.down, EVc.down, EVd.down, EVe.down, EVf.down, EVg.down, EVh.down, EVi.down, EVj.down, EVk.down, EVl.down, EVm.down, compO, evalO, evalOs, ofVal, ofLit, happ, happ1, setRow, setCells, bsK, oneA, Nat.reduceLT, Nat.reduceLeDiff, Nat.reduceEqDiff, Nat.reduceAdd, Nat.reduceSub, Nat.reducePow, Nat.reduceMul, ↓reduceIte, reduceCtorEq, TY3.down, h1, h2, h3, h4, hk, g1, g2, g3, g4, g5, g6, i_eqself, Int.reduceBEq]); try (revert hb; intro (_ : True)))))
      · have g3 : (decide (more < gas) || decide (c.space < more)) = true := by simp; omega
        simp only [rateV] at h1
        (refine ClQ.eq (stOf rfl Tryd.func3 rfl rfl ?_); simp only [Tryd.f3]; simp only [EVa.down, EVb.down, EVc.down, EVd.down, EVe.down, EVf.down, EVg.down, EVh.down, EVi.down, EVj.down, EVk.down, EVl.down, EVm.down, compO, evalO, evalOs, ofVal, ofLit, happ, happ1, setRow, setCells, bsK, oneA, Nat.reduceLT, Nat.reduceLeDiff, Nat.reduceEqDiff, Nat.reduceAdd, Nat.reduceSub, Nat.reducePow, Nat.reduceMul, ↓reduceIte, reduceCtorEq, TY3.down, h1, h3, h4, hk, g1, g2, i_eqself, Int.reduceBEq]; repeat' ((first | with_reducible refine fw_rc ?_ ?_ | with_reducible refine fw_cd ?_ ?_ | with_reducible refine fw_rq ?_ ?_ | with_reducible refine fw_rw ?_ ?_ | with_reducible refine fw_rl ?_ ?_ | (with_reducible refine fw_gdT ?_ ?_; kernel_rfl) | (with_reducible refine fw_dwT ?_ ?_ ?_; (first | exact fnE_none | exact rnd_none); decide +kernel) | (with_reducible refine fw_dnT ?_ ?_ ?_; (first | exact fnE_none | exact rnd_none); decide +kernel) | (with_reducible refine fw_dlT ?_ ?_ ?_; (first | exact fnE_none | exact rnd_none); decide +kernel)) <;> (intro hb; (try simp only [hb, EVa.down, EVb.down, EVc.down, EVd.down, EVe.down, EVf.down, EVg.down, EVh.down, EVi.down, EVj.down, EVk.down, EVl.down, EVm.down, compO, evalO, evalOs, ofVal, ofLit, happ, happ1, setRow, setCells, bsK, oneA, Nat.reduceLT, Nat.reduceLeDiff, Nat.reduceEqDiff, Nat.reduceAdd, Nat.reduceSub, Nat.reducePow, Nat.reduceMul, ↓reduceIte, reduceCtorEq, TY3.down, h1, h3, h4, hk, g1, g2, i_eqself, Int.reduceBEq]); try (revert hb; intro (_ : True)))))
        all_goals (exfalso; simp only [decide_eq_false_iff_not, decide_eq_true_eq, Bool.or_eq_true, Bool.not_eq_eq_eq_not, Bool.not_true, Bool.not_false] at *; omega)
    · have hz : rateOK c gas = false := by simp [rateOK, hv, inB]; omega
      simp only [hz, if_false, Bool.false_eq_true] at h1
      (refine ClQ.eq (stOf rfl Tryd.func3 rfl rfl ?_); simp only [Tryd.f3]; simp only [EVa.down, EVb.down, EVc.down, EVd.down, EVe.down, EVf.down, EVg.down, EVh.down, EVi.down, EVj.down, EVk.down, EVl.down, EVm.down, compO, evalO, evalOs, ofVal, ofLit, happ, happ1, setRow, setCells, bsK, oneA, Nat.reduceLT, Nat.reduceLeDiff, Nat.reduceEqDiff, Nat.reduceAdd, Nat.reduceSub, Nat.reducePow, Nat.reduceMul, ↓reduceIte, reduceCtorEq, TY3.down, h1, h3, hk, i_eqself, Int.reduceBEq]; repeat' ((first | with_reducible refine fw_rc ?_ ?_ | with_reducible refine fw_cd ?_ ?_ | with_reducible refine fw_rq ?_ ?_ | with_reducible refine fw_rw ?_ ?_ | with_reducible refine fw_rl ?_ ?_ | (with_reducible refine fw_gdT ?_ ?_; kernel_rfl) | (with_reducible refine fw_dwT ?_ ?_ ?_; (first | exact fnE_none | exact rnd_none); decide +kernel) | (with_reducible refine fw_dnT ?_ ?_ ?_; (first | exact fnE_none | exact rnd_none); decide +kernel) | (with_reducible refine fw_dlT ?_ ?_ ?_; (first | exact fnE_none | exact rnd_none); decide +kernel)) <;> (intro hb; (try simp only [hb, EVa.down, EVb.down, EVc.down, EVd.down, EVe.down, EVf.down, EVg.down, EVh.down, EVi.down, EVj.down, EVk.down, EVl.down, EVm.down, compO, evalO, evalOs, ofVal, ofLit, happ, happ1, setRow, setCells, bsK, oneA, Nat.reduceLT, Nat.reduceLeDiff, Nat.reduceEqDiff, Nat.reduceAdd, Nat.reduceSub, Nat.reducePow, Nat.reduceMul, ↓reduceIte, reduceCtorEq, TY3.down, h1, h3, hk, i_eqself, Int.reduceBEq]); try (revert hb; intro (_ : True)))))
      all_goals (exfalso; simp only [decide_eq_false_iff_not, decide_eq_true_eq, Bool.or_eq_true, Bool.not_eq_eq_eq_not, Bool.not_true, Bool.not_false] at *; omega)
theorem tv_con {av : AV} (h : TyV Tryd.prog 7 26 av) : ∃ c : BCon, av = .agg c.cells ∧ c.rates.length ≤ maxLen := by
  unfold TyV at h
  simp only [Tryd.underlying26] at h
  obtain ⟨cs, rfl, h⟩ := h
  obtain ⟨s, rfl, hs⟩ := ty_con h
  exact ⟨s, rfl, hs⟩
theorem t_BookRates (hk : om'.call (.fn 4) [] [] = some (.ret (.bool true), [])) : ∀ avs, TyVs Tryd.prog 7 Tryd.f3.params.toList avs → om'.call (.fn 3) avs [] = some (.ret (.bool true), []) := by
  intro avs h
  rw [show Tryd.f3.params.toList = [26, 3, 3] from rfl] at h
  match avs, h with
  | [a, b, c], h =>
    obtain ⟨h1, h2, h3, _⟩ := h
    obtain ⟨s, rfl, hs⟩ := tv_con h1
    obtain ⟨x, rfl, _⟩ := tv_int h2
    obtain ⟨y, rfl, _⟩ := tv_int h3
    exact w_BookRates hk s x y hs
  | [], h => exact h.elim
  | [_], h => exact h.2.elim
  | [_, _], h => exact h.2.2.elim
  | _ :: _ :: _ :: _ :: _, h => exact h.2.2.2.elim
end Go.Proofs.YtdbiogihimdpcaaDoor
