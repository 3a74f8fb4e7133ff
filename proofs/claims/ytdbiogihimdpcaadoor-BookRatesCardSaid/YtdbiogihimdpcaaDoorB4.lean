/- Layer 6: stores, what is free. -/
import Derived.Test.YtdbiogihimdpcaaDoorB3
set_option linter.unusedSimpArgs false
set_option linter.unusedVariables false
namespace Go.Proofs.YtdbiogihimdpcaaDoor
open Go.Ev Go
set_option maxRecDepth 100000
set_option maxHeartbeats 1000000

theorem conB_rates {l : List BCon} (h : l.all conB = true) : ratesOK l := fun c hc => by
  have := List.all_eq_true.1 h c hc
  simp only [conB, inB, Bool.and_eq_true, decide_eq_true_eq] at this
  obtain ⟨⟨⟨_, h1, h2⟩, _⟩, _⟩ := this
  refine ⟨fun e => ?_, by omega⟩
  rw [e] at h1; simp at h1
structure BStore.small (s : BStore) : Prop where
  cons : s.cons.length ≤ maxLen
  rates : ∀ c ∈ s.cons, c.rates.length ≤ maxLen
def storeB (s : BStore) : Bool := ([s.space, s.inn, s.out].all fun x => inB x 0 800000000) && inB s.lead 0 48 && inB s.fuel 0 1000 && decide (s.cons.length ≤ 8) && s.cons.all conB && onceB s s.cons
theorem e_store1 (c : BCon) (hl : c.rates.length ≤ maxLen) : om'.call (.fn 39) [.agg [.bool c.firm, .int .i64 c.space, .int .i64 c.lo, .int .i64 c.hi, slv 3 true c.nn (c.rates.map BRate.cells), .int .i64 c.gas, .int .i64 c.fixed, .int .i64 c.inn, .int .i64 c.out, .int .i64 c.cut, .int .i64 c.lack]] [] = some (.ret (.bool (!conB c)), []) := by
  (refine ClQ.eq (stOf rfl Tryd.func39 rfl rfl ?_); simp only [Tryd.f39]; simp only [EVa.down, EVb.down, EVc.down, EVd.down, EVe.down, EVf.down, EVg.down, EVh.down, EVi.down, EVj.down, EVk.down, EVl.down, EVm.down, compO, evalO, evalOs, ofVal, ofLit, happ, happ1, setRow, setCells, bsK, oneA, Nat.reduceLT, Nat.reduceLeDiff, Nat.reduceEqDiff, Nat.reduceAdd, Nat.reduceSub, Nat.reducePow, Nat.reduceMul, ↓reduceIte, reduceCtorEq, TY39.down, e_contract c hl]; repeat' ((first | with_reducible refine fw_rc ?_ ?_ | with_reducible refine fw_cd ?_ ?_ | with_reducible refine fw_rq ?_ ?_ | with_reducible refine fw_rw ?_ ?_ | with_reducible refine fw_rl ?_ ?_ | (with_reducible refine fw_gdT ?_ ?_; kernel_rfl) | (with_reducible refine fw_dwT ?_ ?_ ?_; (first | exact fnE_none | exact rnd_none); decide +kernel) | (with_reducible refine fw_dnT ?_ ?_ ?_; (first | exact fnE_none | exact rnd_none); decide +kernel) | (with_reducible refine fw_dlT ?_ ?_ ?_; (first | exact fnE_none | exact rnd_none); decide +kernel)) <;> (intro hb; (try simp only [hb, EVa.down, EVb.down, EVc.down, EVd.down, EVe.down, EVf.down, EVg.down, EVh.down, EVi.down, EVj.down, EVk.down, EVl.down, EVm.down, compO, evalO, evalOs, ofVal, ofLit, happ, happ1, setRow, setCells, bsK, oneA, Nat.reduceLT, Nat.reduceLeDiff, Nat.reduceEqDiff, Nat.reduceAdd, Nat.reduceSub, Nat.reducePow, Nat.reduceMul, ↓reduceIte, reduceCtorEq, TY39.down, e_contract c hl]); try (revert hb; intro (_ : True)))))
theorem e_store (s : BStore) (hs : s.small) : om'.call (.fn 22) [.agg [.int .i64 s.space, .int .i64 s.inn, .int .i64 s.out, .int .i64 s.lead, .int .i64 s.fuel, slv 11 false s.nn (s.cons.map BCon.cells)]] [] = some (.ret (.bool (storeB s)), []) := by
  have hg := e_great (l := [s.space, s.inn, s.out]) (nn := true) (by simp [maxLen])
  simp only [List.map_cons, List.map_nil, iv, slv_cons] at hg
  have hc := e_contCon (l := s.cons) (nn := s.nn) (g := 39) (cap := []) (p := fun c => !conB c) rfl rfl (fun x hx => e_store1 x (hs.rates x hx)) hs.cons
  have ha : s.cons.any (fun c => !conB c) = !(s.cons.all conB) := by rw [List.all_eq_not_any_not, Bool.not_not]
  have hlen : decide ((s.cons.length : Int) ≤ 8) = decide (s.cons.length ≤ 8) := by rw [decide_eq_decide]; omega
  cases hv : s.cons.all conB with
  | false =>
    rw [ha, hv] at hc
    (refine ClQ.eq (stOf rfl Tryd.func22 rfl rfl ?_); simp only [Tryd.f22]; simp only [EVa.down, EVb.down, EVc.down, EVd.down, EVe.down, EVf.down, EVg.down, EVh.down, EVi.down, EVj.down, EVk.down, EVl.down, EVm.down, compO, evalO, evalOs, ofVal, ofLit, happ, happ1, setRow, setCells, bsK, oneA, Nat.reduceLT, Nat.reduceLeDiff, Nat.reduceEqDiff, Nat.reduceAdd, Nat.reduceSub, Nat.reducePow, Nat.reduceMul, ↓reduceIte, reduceCtorEq, TY22.down, hg, e_in, hc, hlen]; repeat' ((first | with_reducible refine fw_rc ?_ ?_ | with_reducible refine fw_cd ?_ ?_ | with_reducible refine fw_rq ?_ ?_ | with_reducible refine fw_rw ?_ ?_ | with_reducible refine fw_rl ?_ ?_ | (with_reducible refine fw_gdT ?_ ?_; kernel_rfl) | (with_reducible refine fw_dwT ?_ ?_ ?_; (first | exact fnE_none | exact rnd_none); decide +kernel) | (with_reducible refine fw_dnT ?_ ?_ ?_; (first | exact fnE_none | exact rnd_none); decide +kernel) | (with_reducible refine fw_dlT ?_ ?_ ?_; (first | exact fnE_none | exact rnd_none); decide +kernel)) <;> (intro hb; (try simp only [hb, EVa.down, EVb.down, EVc.down, EVd.down, EVe.down, EVf.down, EVg.down, EVh.down, EVi.down, EVj.down, EVk.down, EVl.down, EVm.down, compO, evalO, evalOs, ofVal, ofLit, happ, happ1, setRow, setCells, bsK, oneA, Nat.reduceLT, Nat.reduceLeDiff, Nat.reduceEqDiff, Nat.reduceAdd, Nat.reduceSub, Nat.reducePow, Nat.reduceMul, ↓reduceIte, reduceCtorEq, TY22.down, hg, e_in, hc, hlen]); try (revert hb; intro (_ : True)))))
    all_goals simp [storeB, *]
  | true =>
    rw [ha, hv] at hc
    have ho := e_once s hs.cons (conB_rates hv)
    (refine ClQ.eq (stOf rfl Tryd.func22 rfl rfl ?_); simp only [Tryd.f22]; simp only [EVa.down, EVb.down, EVc.down, EVd.down, EVe.down, EVf.down, EVg.down, EVh.down, EVi.down, EVj.down, EVk.down, EVl.down, EVm.down, compO, evalO, evalOs, ofVal, ofLit, happ, happ1, setRow, setCells, bsK, oneA, Nat.reduceLT, Nat.reduceLeDiff, Nat.reduceEqDiff, Nat.reduceAdd, Nat.reduceSub, Nat.reducePow, Nat.reduceMul, ↓reduceIte, reduceCtorEq, TY22.down, hg, e_in, hc, ho, hlen]; repeat' ((first | with_reducible refine fw_rc ?_ ?_ | with_reducible refine fw_cd ?_ ?_ | with_reducible refine fw_rq ?_ ?_ | with_reducible refine fw_rw ?_ ?_ | with_reducible refine fw_rl ?_ ?_ | (with_reducible refine fw_gdT ?_ ?_; kernel_rfl) | (with_reducible refine fw_dwT ?_ ?_ ?_; (first | exact fnE_none | exact rnd_none); decide +kernel) | (with_reducible refine fw_dnT ?_ ?_ ?_; (first | exact fnE_none | exact rnd_none); decide +kernel) | (with_reducible refine fw_dlT ?_ ?_ ?_; (first | exact fnE_none | exact rnd_none); decide +kernel)) <;> (intro hb; (try simp only [hb, EVa.down, EVb.down, EVc.down, EVd.down, EVe.down, EVf.down, EVg.down, EVh.down, EVi.down, EVj.down, EVk.down, EVl.down, EVm.down, compO, evalO, evalOs, ofVal, ofLit, happ, happ1, setRow, setCells, bsK, oneA, Nat.reduceLT, Nat.reduceLeDiff, Nat.reduceEqDiff, Nat.reduceAdd, Nat.reduceSub, Nat.reducePow, Nat.reduceMul, ↓reduceIte, reduceCtorEq, TY22.down, hg, e_in, hc, ho, hlen]); try (revert hb; intro (_ : True)))))
    all_goals simp [storeB, *]
end Go.Proofs.YtdbiogihimdpcaaDoor
