/- Layer 6: the law BookRates. -/
import Derived.Test.YtdbiogihimdpcaaDoorB20
set_option linter.unusedSimpArgs false
set_option linter.unusedVariables false
namespace Go.Proofs.YtdbiogihimdpcaaDoor
open Go.Ev Go
set_option maxRecDepth 100000
set_option maxHeartbeats 1000000
theorem ratesB_all : ∀ {l : List BRate} {q : BRate}, ratesB l (some q) = true → ∀ x ∈ l, x.inn ≤ q.inn ∧ q.out ≤ x.out
  | [], q, _, x, hx => by simp at hx
  | r :: l, q, h, x, hx => by
    simp only [ratesB, Bool.and_eq_true, rateB, decide_eq_true_eq] at h
    rcases List.mem_cons.1 hx with rfl | hx
    · omega
    · have := ratesB_all h.2 x hx
      omega
theorem ratesB_pair : ∀ {l : List BRate} {p : Option BRate}, ratesB l p = true → ∀ (i j : Nat) a b, i < j → l[i]? = some a → l[j]? = some b → b.inn ≤ a.inn ∧ a.out ≤ b.out
  | [], p, _, i, j, a, b, _, ha, _ => by simp at ha
  | r :: l, p, h, i, j, a, b, hij, ha, hb => by
    simp only [ratesB, Bool.and_eq_true] at h
    obtain ⟨j, rfl⟩ : ∃ k, j = k + 1 := ⟨j - 1, by omega⟩
    simp only [List.getElem?_cons_succ] at hb
    cases i with
    | zero =>
      simp only [List.getElem?_cons_zero, Option.some.injEq] at ha
      subst ha
      exact ratesB_all h.2 b (List.mem_of_getElem? hb)
    | succ i => exact ratesB_pair h.2 i j a b (by omega) (by simpa using ha) hb
theorem rateR_at (q : Int) (l : List BRate) : ∀ n, n < l.length → ∃ k, k ≤ n ∧ l[k]? = some (rateR q l n)
  | 0, h => ⟨0, Nat.le_refl _, by simp [rateR, rateAt, List.getElem?_eq_getElem h]⟩
  | n + 1, h => by
    simp only [rateR]
    split
    · obtain ⟨k, h1, h2⟩ := rateR_at q l n (by omega)
      exact ⟨k, by omega, h2⟩
    · exact ⟨n + 1, Nat.le_refl _, by simp [rateAt, List.getElem?_eq_getElem h]⟩
theorem rateR_mono {l : List BRate} (hB : ratesB l none = true) {q q' : Int} (hq : q ≤ q') : ∀ n, n < l.length → (rateR q' l n).inn ≤ (rateR q l n).inn ∧ (rateR q l n).out ≤ (rateR q' l n).out
  | 0, h => by simp [rateR]
  | n + 1, h => by
    have ih := rateR_mono hB hq n (by omega)
    simp only [rateR]
    by_cases h1 : q' < (rateAt l (n + 1)).fill
    · rw [if_pos h1, if_pos (by omega)]; exact ih
    · rw [if_neg h1]
      split
      · obtain ⟨k, k1, k2⟩ := rateR_at q l n (by omega)
        exact ratesB_pair hB k (n + 1) _ _ (by omega) k2 (by simp [rateAt, List.getElem?_eq_getElem h])
      · exact ⟨Int.le_refl _, Int.le_refl _⟩
theorem conB_facts {c : BCon} (h : conB c = true) : ratesB c.rates none = true ∧ 1 ≤ c.space ∧ c.space ≤ 100000000 ∧ 1 ≤ c.rates.length ∧ c.rates.length ≤ 6 := by
  simp only [conB, inB, Bool.and_eq_true, decide_eq_true_eq] at h
  obtain ⟨⟨⟨⟨⟨h1, h2, h3⟩, _⟩, h4, h5⟩, _⟩, _⟩ := h
  exact ⟨h1, h2, h3, by omega, by omega⟩
theorem quo_mono {c : BCon} (hs : 1 ≤ c.space) {a b : Int} (ha : 0 ≤ a) (hab : a ≤ b) (hb : b ≤ 100000000) : 0 ≤ quoW c a ∧ quoW c a ≤ quoW c b := by
  unfold quoW
  have e1 : IntKind.i64.wrap (1000 * a) = 1000 * a := wrap_of (by omega) (by omega)
  have e2 : IntKind.i64.wrap (1000 * b) = 1000 * b := wrap_of (by omega) (by omega)
  rw [e1, e2, Int.tdiv_eq_ediv_of_nonneg (by omega), Int.tdiv_eq_ediv_of_nonneg (by omega)]
  have h1 : 0 ≤ 1000 * a / c.space := Int.ediv_nonneg (by omega) (by omega)
  have h2 : 1000 * a / c.space ≤ 1000 * b / c.space := Int.ediv_le_ediv (by omega) (by omega)
  have h3 : 1000 * b / c.space ≤ 1000 * b := Int.ediv_le_self _ (by omega)
  rw [wrap_of (by omega) (by omega), wrap_of (by omega) (by omega)]
  exact ⟨h1, h2⟩
def rateOK (c : BCon) (gas : Int) : Bool := conB c && inB gas 0 c.space
def rateV (c : BCon) (gas : Int) : BRate := rateR (quoW c gas) c.rates (c.rates.length - 1)
theorem e_Rate (c : BCon) (gas : Int) (hl : c.rates.length ≤ maxLen) : om'.call (.fn 5) [.agg [.bool c.firm, .int .i64 c.space, .int .i64 c.lo, .int .i64 c.hi, slv 3 true c.nn (c.rates.map BRate.cells), .int .i64 c.gas, .int .i64 c.fixed, .int .i64 c.inn, .int .i64 c.out, .int .i64 c.cut, .int .i64 c.lack], .int .i64 gas] [] = some (.ret (.tup (if rateOK c gas = true then [.int .i64 (rateV c gas).inn, .int .i64 (rateV c gas).out, .int .i64 0] else [.int .i64 0, .int .i64 0, .int .i64 2])), []) := by
  have hc := e_contract c hl
  cases hv : conB c with
  | false =>
    rw [hv] at hc
    (refine ClQ.eq (stOf rfl Tryd.func5 rfl rfl ?_); simp only [Tryd.f5]; simp only [EVa.down, EVb.down, EVc.down, EVd.down, EVe.down, EVf.down, EVg.down, EVh.down, EVi.down, EVj.down, EVk.down, EVl.down, EVm.down, compO, evalO, evalOs, ofVal, ofLit, happ, happ1, setRow, setCells, bsK, oneA, Nat.reduceLT, Nat.reduceLeDiff, Nat.reduceEqDiff, Nat.reduceAdd, Nat.reduceSub, Nat.reducePow, Nat.reduceMul, ↓reduceIte, reduceCtorEq, TY5.down, hc, e_in]; repeat' ((first | with_reducible refine fw_rc ?_ ?_ | with_reducible refine fw_cd ?_ ?_ | with_reducible refine fw_rq ?_ ?_ | with_reducible refine fw_rw ?_ ?_ | with_reducible refine fw_rl ?_ ?_ | (with_reducible refine fw_gdT ?_ ?_; kernel_rfl) | (with_reducible refine fw_dwT ?_ ?_ ?_; (first | exact fnE_none | exact rnd_none); decide +kernel) | (with_reducible refine fw_dnT ?_ ?_ ?_; (first | exact fnE_none | exact rnd_none); decide +kernel) | (with_reducible refine fw_dlT ?_ ?_ ?_; (first | exact fnE_none | exact rnd_none); decide +kernel)) <;> (intro hb; (try simp only [hb, EVa.down, EVb.down, EVc.down, EVd.down, EVe.down, EVf.down, EVg.down, EVh.down, EVi.down, EVj.down, EVk.down, EVl.down, EVm.down, compO, evalO, evalOs, ofVal, ofLit, happ, happ1, setRow, setCells, bsK, oneA, Nat.reduceLT, Nat.reduceLeDiff, Nat.reduceEqDiff, Nat.reduceAdd, Nat.reduceSub, Nat.reducePow, Nat.reduceMul, ↓reduceIte, reduceCtorEq, TY5.down, hc, e_in]); try (revert hb; intro (_ : True)))))
    all_goals simp [rateOK, hv]
  | true =>
    obtain ⟨f1, f2, f3, f4, f5⟩ := conB_facts hv
    obtain ⟨r0, hr0⟩ : ∃ r0, c.rates[0]? = some r0 := ⟨c.rates[0], List.getElem?_eq_getElem (by omega)⟩
    have hr := e_rate c gas r0 hr0 hl (by omega)
    rw [rateF_all _ _ _ hr0] at hr
    simp only [BRate.cells] at hr
    rw [hv] at hc
    (refine ClQ.eq (stOf rfl Tryd.func5 rfl rfl ?_); simp only [Tryd.f5]; simp only [EVa.down, EVb.down, EVc.down, EVd.down, EVe.down, EVf.down, EVg.down, EVh.down, EVi.down, EVj.down, EVk.down, EVl.down, EVm.down, compO, evalO, evalOs, ofVal, ofLit, happ, happ1, setRow, setCells, bsK, oneA, Nat.reduceLT, Nat.reduceLeDiff, Nat.reduceEqDiff, Nat.reduceAdd, Nat.reduceSub, Nat.reducePow, Nat.reduceMul, ↓reduceIte, reduceCtorEq, TY5.down, hc, e_in, hr]; repeat' ((first | with_reducible refine fw_rc ?_ ?_ | with_reducible refine fw_cd ?_ ?_ | with_reducible refine fw_rq ?_ ?_ | with_reducible refine fw_rw ?_ ?_ | with_reducible refine fw_rl ?_ ?_ | (with_reducible refine fw_gdT ?_ ?_; kernel_rfl) | (with_reducible refine fw_dwT ?_ ?_ ?_; (first | exact fnE_none | exact rnd_none); decide +kernel) | (with_reducible refine fw_dnT ?_ ?_ ?_; (first | exact fnE_none | exact rnd_none); decide +kernel) | (with_reducible refine fw_dlT ?_ ?_ ?_; (first | exact fnE_none | exact rnd_none); decide +kernel)) <;> (intro hb; (try simp only [hb, EVa.down, EVb.down, EVc.down, EVd.down, EVe.down, EVf.down, EVg.down, EVh.down, EVi.down, EVj.down, EVk.down, EVl.down, EVm.down, compO, evalO, evalOs, ofVal, ofLit, happ, happ1, setRow, setCells, bsK, oneA, Nat.reduceLT, Nat.reduceLeDiff, Nat.reduceEqDiff, Nat.reduceAdd, Nat.reduceSub, Nat.reducePow, Nat.reduceMul, ↓reduceIte, reduceCtorEq, TY5.down, hc, e_in, hr]); try (revert hb; intro (_ : True)))))
    all_goals simp at hb
    all_goals simp [rateOK, hv, hb, rateV]
end Go.Proofs.YtdbiogihimdpcaaDoor
