/- Layer 6: the law BookSells. -/
import Derived.Test.YtkonpmbcipbhbaaGreatDoorB59
set_option linter.unusedSimpArgs false
set_option linter.unusedVariables false
namespace Go.Proofs.YtkonpmbcipbhbaaGreatDoor
open Go.Ev Go
set_option maxRecDepth 100000
set_option maxHeartbeats 1000000
/-- The program's step of the search is the specification's. -/
theorem sell_best (s : BStore) (off : List BCon) (z : Int) (b : List Int) : sell1 s off z (b, togF off b 0) = (best1 s off z b, togF off (best1 s off z b) 0) := by
  unfold sell1 best1
  rw [pick_bits z off off 0 [] 0 s.cons rfl]
  simp only [List.nil_append]
  generalize withL off s.cons (bitsF z off.length 0) = q
  generalize bitsF z off.length 0 = l
  cases ho : onceB s q with
  | false => simp
  | true =>
    by_cases h8 : q.length ≤ 8
    · have h8' : ¬ ((8 : Int) < (q.length : Int)) := by omega
      rcases Int.lt_trichotomy (togF off l 0) (togF off b 0) with h | h | h
      · have h1 : ¬ togF off b 0 < togF off l 0 := by omega
        have h2 : togF off l 0 ≠ togF off b 0 := by omega
        simp [h, h1, h2]
      · by_cases hc : cmpF l b < 0
        · have : ¬ (0 ≤ cmpF l b) := by omega
          simp [hc, h8, h8', h, this]
        · have : 0 ≤ cmpF l b := by omega
          simp [hc, h8, h8', h, this]
      · have h1 : ¬ togF off l 0 < togF off b 0 := by omega
        have h2 : togF off l 0 ≠ togF off b 0 := by omega
        simp [h, h1, h2, h8, h8']
    · have h8' : (8 : Int) < (q.length : Int) := by omega
      simp [h8, h8']
theorem sells_best (s : BStore) (off : List BCon) : ∀ (l : List Nat) (b : List Int), sellF s off l (b, togF off b 0) = (bestF s off l b, togF off (bestF s off l b) 0)
  | [], _ => rfl
  | z :: l, b => by
    unfold sellF bestF
    rw [sell_best]
    exact sells_best s off l _
theorem best_mem (s : BStore) (off : List BCon) (ho : off.length ≤ 8) : ∀ (l : List Nat) (b : List Int), numB off.length b ∧ b.length ≤ 8 → numB off.length (bestF s off l b) ∧ (bestF s off l b).length ≤ 8
  | [], _, h => h
  | z :: l, b, h => by
    unfold bestF
    exact best_mem s off ho l _ (best1_mem h ho)
def sellsOK (s : BStore) (off : List BCon) : Bool := shortB s.cons && shortB off && !(decide (6 < off.length) && decide (off.length ≤ 8))
theorem w_Sells0 (hk : om'.call (.fn 6) [] [] = some (.ret (.bool true), [])) (s : BStore) (hs : s.small) (no : Bool) (off : List BCon) (hlo : off.length ≤ maxLen) (hv : sellsOK s off = false) :
    om'.call (.fn 3) [.agg [.int .i64 s.space, .int .i64 s.inn, .int .i64 s.out, .int .i64 s.lead, .int .i64 s.fuel, slv 11 false s.nn (s.cons.map BCon.cells)], slv 11 false no (off.map BCon.cells)] [] = some (.ret (.bool true), []) := by
  have h1 := w_short (nn := s.nn) hs.cons
  have h2 := w_short (nn := no) hlo
  have h4 : decide ((6 : Int) < (off.length : Int)) = decide (6 < off.length) := by rw [decide_eq_decide]; omega
  have h5 : decide ((off.length : Int) ≤ 8) = decide (off.length ≤ 8) := by rw [decide_eq_decide]; omega
  (refine ClQ.eq (stOf rfl Tryz.func3 rfl rfl ?_); simp only [Tryz.f3]; simp only [EVa.down, EVb.down, EVc.down, EVd.down, EVe.down, EVf.down, EVg.down, EVh.down, EVi.down, EVj.down, EVk.down, EVl.down, EVm.down, EVn.down, EVo.down, EVp.down, EVq.down, om_md, compO, evalO, evalOs, ofVal, ofLit, happ, happ1, setRow, setCells, bsK, oneA, Nat.reduceLT, Nat.reduceLeDiff, Nat.reduceEqDiff, Nat.reduceAdd, Nat.reduceSub, Nat.reducePow, Nat.reduceMul, ↓reduceIte, reduceCtorEq, decide_true, EVr.down, seP_some, Nat.reduceBEq, Bool.or_true, Bool.true_or, Bool.or_false, Bool.false_or, TY3.down, h1, h2, h4, h5, hk, List.length_map]; repeat' ((first | with_reducible refine fw_rc ?_ ?_ | with_reducible refine fw_cd ?_ ?_ | with_reducible refine fw_rq ?_ ?_ | with_reducible refine fw_rw ?_ ?_ | with_reducible refine fw_rl ?_ ?_ | (with_reducible refine fw_gdT ?_ ?_; kernel_rfl) | (with_reducible refine fw_dwT ?_ ?_ ?_; (first | exact fnE_none | exact fnS_none | exact rnd_none); decide +kernel) | (with_reducible refine fw_dnT ?_ ?_ ?_; (first | exact fnE_none | exact fnS_none | exact rnd_none); decide +kernel) | (with_reducible refine fw_dlT ?_ ?_ ?_; (first | exact fnE_none | exact fnS_none | exact rnd_none); decide +kernel)) <;> (intro hb; (try simp only [hb, EVa.down, EVb.down, EVc.down, EVd.down, EVe.down, EVf.down, EVg.down, EVh.down, EVi.down, EVj.down, EVk.down, EVl.down, EVm.down, EVn.down, EVo.down, EVp.down, EVq.down, om_md, compO, evalO, evalOs, ofVal, ofLit, happ, happ1, setRow, setCells, bsK, oneA, Nat.reduceLT, Nat.reduceLeDiff, Nat.reduceEqDiff, Nat.reduceAdd, Nat.reduceSub, Nat.reducePow, Nat.reduceMul, ↓reduceIte, reduceCtorEq, decide_true, EVr.down, seP_some, Nat.reduceBEq, Bool.or_true, Bool.true_or, Bool.or_false, Bool.false_or, TY3.down, h1, h2, h4, h5, hk, List.length_map]); try (revert hb; intro (_ : True)))))
  all_goals (exfalso; unfold sellsOK at hv; simp_all)
theorem w_SellsE (hk : om'.call (.fn 6) [] [] = some (.ret (.bool true), [])) (s : BStore) (hs : s.small) (no : Bool) (off : List BCon) (hlo : off.length ≤ maxLen) (hor : ∀ c ∈ off, c.rates.length ≤ maxLen) (hv : sellsOK s off = true) (hb : (decide (off.length ≤ 8) && storeB s && off.all conB) = false) :
    om'.call (.fn 3) [.agg [.int .i64 s.space, .int .i64 s.inn, .int .i64 s.out, .int .i64 s.lead, .int .i64 s.fuel, slv 11 false s.nn (s.cons.map BCon.cells)], slv 11 false no (off.map BCon.cells)] [] = some (.ret (.bool true), []) := by
  have h1 := w_short (nn := s.nn) hs.cons
  have h2 := w_short (nn := no) hlo
  have h3 := r_Store s hs
  have h6 := r_Offers (nn := no) hlo hor
  have h7 := e_SellE s hs off no hlo hor hb
  have h4 : decide ((6 : Int) < (off.length : Int)) = decide (6 < off.length) := by rw [decide_eq_decide]; omega
  have h5 : decide ((off.length : Int) ≤ 8) = decide (off.length ≤ 8) := by rw [decide_eq_decide]; omega
  have h8 : decide ((8 : Int) < (off.length : Int)) = decide (8 < off.length) := by rw [decide_eq_decide]; omega
  simp only [sellsOK, Bool.and_eq_true, Bool.not_eq_true'] at hv
  obtain ⟨⟨v1, v2⟩, v3⟩ := hv
  rw [v1] at h1
  rw [v2] at h2
  by_cases hl : 8 < off.length
  · have hl' : decide (8 < off.length) = true := decide_eq_true hl
    have hl2 : decide (off.length ≤ 8) = false := decide_eq_false (by omega)
    have hl3 : decide (6 < off.length) = true := decide_eq_true (by omega)
    rw [if_pos hl] at h7
    rw [hl'] at h8
    rw [hl2] at h5
    rw [hl3] at h4
    (refine ClQ.eq (stOf rfl Tryz.func3 rfl rfl ?_); simp only [Tryz.f3]; simp only [EVa.down, EVb.down, EVc.down, EVd.down, EVe.down, EVf.down, EVg.down, EVh.down, EVi.down, EVj.down, EVk.down, EVl.down, EVm.down, EVn.down, EVo.down, EVp.down, EVq.down, om_md, compO, evalO, evalOs, ofVal, ofLit, happ, happ1, setRow, setCells, bsK, oneA, Nat.reduceLT, Nat.reduceLeDiff, Nat.reduceEqDiff, Nat.reduceAdd, Nat.reduceSub, Nat.reducePow, Nat.reduceMul, ↓reduceIte, reduceCtorEq, decide_true, EVr.down, seP_some, Nat.reduceBEq, Bool.or_true, Bool.true_or, Bool.or_false, Bool.false_or, TY3.down, h1, h2, h3, h4, h5, h6, h7, h8, hk, List.length_map, i_eqself, Int.reduceBEq, beq_self_eq_true]; repeat' ((first | with_reducible refine fw_rc ?_ ?_ | with_reducible refine fw_cd ?_ ?_ | with_reducible refine fw_rq ?_ ?_ | with_reducible refine fw_rw ?_ ?_ | with_reducible refine fw_rl ?_ ?_ | (with_reducible refine fw_gdT ?_ ?_; kernel_rfl) | (with_reducible refine fw_dwT ?_ ?_ ?_; (first | exact fnE_none | exact fnS_none | exact rnd_none); decide +kernel) | (with_reducible refine fw_dnT ?_ ?_ ?_; (first | exact fnE_none | exact fnS_none | exact rnd_none); decide +kernel) | (with_reducible refine fw_dlT ?_ ?_ ?_; (first | exact fnE_none | exact fnS_none | exact rnd_none); decide +kernel)) <;> (intro hb; (try simp only [hb, EVa.down, EVb.down, EVc.down, EVd.down, EVe.down, EVf.down, EVg.down, EVh.down, EVi.down, EVj.down, EVk.down, EVl.down, EVm.down, EVn.down, EVo.down, EVp.down, EVq.down, om_md, compO, evalO, evalOs, ofVal, ofLit, happ, happ1, setRow, setCells, bsK, oneA, Nat.reduceLT, Nat.reduceLeDiff, Nat.reduceEqDiff, Nat.reduceAdd, Nat.reduceSub, Nat.reducePow, Nat.reduceMul, ↓reduceIte, reduceCtorEq, decide_true, EVr.down, seP_some, Nat.reduceBEq, Bool.or_true, Bool.true_or, Bool.or_false, Bool.false_or, TY3.down, h1, h2, h3, h4, h5, h6, h7, h8, hk, List.length_map, i_eqself, Int.reduceBEq, beq_self_eq_true]); try (revert hb; intro (_ : True)))))
  · have hl' : decide (8 < off.length) = false := decide_eq_false hl
    have hl2 : decide (off.length ≤ 8) = true := decide_eq_true (by omega)
    rw [hl2, Bool.and_true] at v3
    rw [if_neg hl] at h7
    rw [hl'] at h8
    rw [hl2] at h5 hb
    rw [v3] at h4
    cases b1 : storeB s with
    | false =>
      rw [b1] at h3
      (refine ClQ.eq (stOf rfl Tryz.func3 rfl rfl ?_); simp only [Tryz.f3]; simp only [EVa.down, EVb.down, EVc.down, EVd.down, EVe.down, EVf.down, EVg.down, EVh.down, EVi.down, EVj.down, EVk.down, EVl.down, EVm.down, EVn.down, EVo.down, EVp.down, EVq.down, om_md, compO, evalO, evalOs, ofVal, ofLit, happ, happ1, setRow, setCells, bsK, oneA, Nat.reduceLT, Nat.reduceLeDiff, Nat.reduceEqDiff, Nat.reduceAdd, Nat.reduceSub, Nat.reducePow, Nat.reduceMul, ↓reduceIte, reduceCtorEq, decide_true, EVr.down, seP_some, Nat.reduceBEq, Bool.or_true, Bool.true_or, Bool.or_false, Bool.false_or, TY3.down, h1, h2, h3, h4, h5, h6, h7, h8, hk, List.length_map, i_eqself, Int.reduceBEq, beq_self_eq_true]; repeat' ((first | with_reducible refine fw_rc ?_ ?_ | with_reducible refine fw_cd ?_ ?_ | with_reducible refine fw_rq ?_ ?_ | with_reducible refine fw_rw ?_ ?_ | with_reducible refine fw_rl ?_ ?_ | (with_reducible refine fw_gdT ?_ ?_; kernel_rfl) | (with_reducible refine fw_dwT ?_ ?_ ?_; (first | exact fnE_none | exact fnS_none | exact rnd_none); decide +kernel) | (with_reducible refine fw_dnT ?_ ?_ ?_; (first | exact fnE_none | exact fnS_none | exact rnd_none); decide +kernel) | (with_reducible refine fw_dlT ?_ ?_ ?_; (first | exact fnE_none | exact fnS_none | exact rnd_none); decide +kernel)) <;> (intro hb; (try simp only [hb, EVa.down, EVb.down, EVc.down, EVd.down, EVe.down, EVf.down, EVg.down, EVh.down, EVi.down, EVj.down, EVk.down, EVl.down, EVm.down, EVn.down, EVo.down, EVp.down, EVq.down, om_md, compO, evalO, evalOs, ofVal, ofLit, happ, happ1, setRow, setCells, bsK, oneA, Nat.reduceLT, Nat.reduceLeDiff, Nat.reduceEqDiff, Nat.reduceAdd, Nat.reduceSub, Nat.reducePow, Nat.reduceMul, ↓reduceIte, reduceCtorEq, decide_true, EVr.down, seP_some, Nat.reduceBEq, Bool.or_true, Bool.true_or, Bool.or_false, Bool.false_or, TY3.down, h1, h2, h3, h4, h5, h6, h7, h8, hk, List.length_map, i_eqself, Int.reduceBEq, beq_self_eq_true]); try (revert hb; intro (_ : True)))))
    | true =>
      have b2 : off.all conB = false := by rw [b1] at hb; simpa using hb
      rw [b1] at h3
      rw [b2] at h6
      (refine ClQ.eq (stOf rfl Tryz.func3 rfl rfl ?_); simp only [Tryz.f3]; simp only [EVa.down, EVb.down, EVc.down, EVd.down, EVe.down, EVf.down, EVg.down, EVh.down, EVi.down, EVj.down, EVk.down, EVl.down, EVm.down, EVn.down, EVo.down, EVp.down, EVq.down, om_md, compO, evalO, evalOs, ofVal, ofLit, happ, happ1, setRow, setCells, bsK, oneA, Nat.reduceLT, Nat.reduceLeDiff, Nat.reduceEqDiff, Nat.reduceAdd, Nat.reduceSub, Nat.reducePow, Nat.reduceMul, ↓reduceIte, reduceCtorEq, decide_true, EVr.down, seP_some, Nat.reduceBEq, Bool.or_true, Bool.true_or, Bool.or_false, Bool.false_or, TY3.down, h1, h2, h3, h4, h5, h6, h7, h8, hk, List.length_map, i_eqself, Int.reduceBEq, beq_self_eq_true]; repeat' ((first | with_reducible refine fw_rc ?_ ?_ | with_reducible refine fw_cd ?_ ?_ | with_reducible refine fw_rq ?_ ?_ | with_reducible refine fw_rw ?_ ?_ | with_reducible refine fw_rl ?_ ?_ | (with_reducible refine fw_gdT ?_ ?_; kernel_rfl) | (with_reducible refine fw_dwT ?_ ?_ ?_; (first | exact fnE_none | exact fnS_none | exact rnd_none); decide +kernel) | (with_reducible refine fw_dnT ?_ ?_ ?_; (first | exact fnE_none | exact fnS_none | exact rnd_none); decide +kernel) | (with_reducible refine fw_dlT ?_ ?_ ?_; (first | exact fnE_none | exact fnS_none | exact rnd_none); decide +kernel)) <;> (intro hb; (try simp only [hb, EVa.down, EVb.down, EVc.down, EVd.down, EVe.down, EVf.down, EVg.down, EVh.down, EVi.down, EVj.down, EVk.down, EVl.down, EVm.down, EVn.down, EVo.down, EVp.down, EVq.down, om_md, compO, evalO, evalOs, ofVal, ofLit, happ, happ1, setRow, setCells, bsK, oneA, Nat.reduceLT, Nat.reduceLeDiff, Nat.reduceEqDiff, Nat.reduceAdd, Nat.reduceSub, Nat.reducePow, Nat.reduceMul, ↓reduceIte, reduceCtorEq, decide_true, EVr.down, seP_some, Nat.reduceBEq, Bool.or_true, Bool.true_or, Bool.or_false, Bool.false_or, TY3.down, h1, h2, h3, h4, h5, h6, h7, h8, hk, List.length_map, i_eqself, Int.reduceBEq, beq_self_eq_true]); try (revert hb; intro (_ : True)))))
theorem w_SellsV (hk : om'.call (.fn 6) [] [] = some (.ret (.bool true), [])) (s : BStore) (hs : s.small) (no : Bool) (off : List BCon) (hlo : off.length ≤ maxLen) (hor : ∀ c ∈ off, c.rates.length ≤ maxLen) (hv : sellsOK s off = true) (hb : (decide (off.length ≤ 8) && storeB s && off.all conB) = true) :
    om'.call (.fn 3) [.agg [.int .i64 s.space, .int .i64 s.inn, .int .i64 s.out, .int .i64 s.lead, .int .i64 s.fuel, slv 11 false s.nn (s.cons.map BCon.cells)], slv 11 false no (off.map BCon.cells)] [] = some (.ret (.bool true), []) := by
  have h1 := w_short (nn := s.nn) hs.cons
  have h2 := w_short (nn := no) hlo
  have h3 := r_Store s hs
  have h6 := r_Offers (nn := no) hlo hor
  have h4 : decide ((6 : Int) < (off.length : Int)) = decide (6 < off.length) := by rw [decide_eq_decide]; omega
  have h5 : decide ((off.length : Int) ≤ 8) = decide (off.length ≤ 8) := by rw [decide_eq_decide]; omega
  have h8 : decide ((8 : Int) < (off.length : Int)) = decide (8 < off.length) := by rw [decide_eq_decide]; omega
  simp only [sellsOK, Bool.and_eq_true, Bool.not_eq_true'] at hv
  obtain ⟨⟨v1, v2⟩, v3⟩ := hv
  simp only [Bool.and_eq_true, decide_eq_true_eq] at hb
  obtain ⟨⟨hl, b1⟩, b2⟩ := hb
  have hl' : decide (8 < off.length) = false := decide_eq_false (by omega)
  have hl2 : decide (off.length ≤ 8) = true := decide_eq_true hl
  rw [v1] at h1
  rw [v2] at h2
  rw [hl2, Bool.and_true] at v3
  rw [hl'] at h8
  rw [hl2] at h5
  rw [v3] at h4
  rw [b1] at h3
  rw [b2] at h6
  obtain ⟨o, h', hsl, nn, w, hq⟩ := e_SellV s hs off no b1 b2 hl hor
  obtain ⟨hq1, rfl, rfl⟩ := hq _ rfl
  obtain ⟨o, h', hrl, nn', w', hq⟩ := r_SellV s hs off no b1 b2 hl
  obtain ⟨hq2, rfl, rfl⟩ := hq _ rfl
  have hst : sellF s off (List.range (2 ^ off.length)) ([], 0) = (bestF s off (List.range (2 ^ off.length)) [], togF off (bestF s off (List.range (2 ^ off.length)) []) 0) := sells_best s off _ []
  rw [hst] at hsl hq1
  obtain ⟨hbn, hbl⟩ := best_mem s off hl (List.range (2 ^ off.length)) [] ⟨fun x hx => (by cases hx), by simp⟩
  generalize bestF s off (List.range (2 ^ off.length)) [] = r at *
  have h9 := fun (a b : Bool) => r_Same1 (l := r) (l' := r) (nn := a) (nn' := b) (by unfold maxLen; omega) (by unfold maxLen; omega)
  have h10 := fun (a b : Bool) => r_Together (off := off) (nn := a) (nn' := b) (l := r) (by unfold maxLen; omega) hbn
  simp only [decide_true] at h9
  have htk : (r.map iv).take r.length = r.map iv := List.take_of_length_le (by simp)
  have h39 : (r.length ≤ 549755813888) = True := eq_true (by omega)
  cases nn with
  | false =>
    obtain rfl : r = [] := hq1 rfl
    cases nn' with
    | false =>
      have h9' := h9 false false
      have h10' := h10 no false
      simp only [bestV, bestH, cond_false, List.map_nil, slv_nil] at hsl hrl h9' h10'
      (refine ClQ.eq (stOf rfl Tryz.func3 rfl rfl ?_); simp only [Tryz.f3]; simp only [EVa.down, EVb.down, EVc.down, EVd.down, EVe.down, EVf.down, EVg.down, EVh.down, EVi.down, EVj.down, EVk.down, EVl.down, EVm.down, EVn.down, EVo.down, EVp.down, EVq.down, om_md, compO, evalO, evalOs, ofVal, ofLit, happ, happ1, setRow, setCells, bsK, oneA, Nat.reduceLT, Nat.reduceLeDiff, Nat.reduceEqDiff, Nat.reduceAdd, Nat.reduceSub, Nat.reducePow, Nat.reduceMul, ↓reduceIte, reduceCtorEq, decide_true, EVr.down, seP_some, Nat.reduceBEq, Bool.or_true, Bool.true_or, Bool.or_false, Bool.false_or, TY3.down, h1, h2, h3, h4, h5, h6, h8, hsl, hrl, h9', h10', hk, List.length_map, i_eqself, Int.reduceBEq, beq_self_eq_true]; repeat' ((first | with_reducible refine fw_rc ?_ ?_ | with_reducible refine fw_cd ?_ ?_ | with_reducible refine fw_rq ?_ ?_ | with_reducible refine fw_rw ?_ ?_ | with_reducible refine fw_rl ?_ ?_ | (with_reducible refine fw_gdT ?_ ?_; kernel_rfl) | (with_reducible refine fw_dwT ?_ ?_ ?_; (first | exact fnE_none | exact fnS_none | exact rnd_none); decide +kernel) | (with_reducible refine fw_dnT ?_ ?_ ?_; (first | exact fnE_none | exact fnS_none | exact rnd_none); decide +kernel) | (with_reducible refine fw_dlT ?_ ?_ ?_; (first | exact fnE_none | exact fnS_none | exact rnd_none); decide +kernel)) <;> (intro hb; (try simp only [hb, EVa.down, EVb.down, EVc.down, EVd.down, EVe.down, EVf.down, EVg.down, EVh.down, EVi.down, EVj.down, EVk.down, EVl.down, EVm.down, EVn.down, EVo.down, EVp.down, EVq.down, om_md, compO, evalO, evalOs, ofVal, ofLit, happ, happ1, setRow, setCells, bsK, oneA, Nat.reduceLT, Nat.reduceLeDiff, Nat.reduceEqDiff, Nat.reduceAdd, Nat.reduceSub, Nat.reducePow, Nat.reduceMul, ↓reduceIte, reduceCtorEq, decide_true, EVr.down, seP_some, Nat.reduceBEq, Bool.or_true, Bool.true_or, Bool.or_false, Bool.false_or, TY3.down, h1, h2, h3, h4, h5, h6, h8, hsl, hrl, h9', h10', hk, List.length_map, i_eqself, Int.reduceBEq, beq_self_eq_true]); try (revert hb; intro (_ : True)))))
    | true =>
      have h9' := h9 false true
      have h10' := h10 no true
      simp only [bestV, bestH, cond_false, cond_true, List.map_nil, List.length_nil, slv_nil, slv_true] at hsl hrl h9' h10'
      (refine ClQ.eq (stOf rfl Tryz.func3 rfl rfl ?_); simp only [Tryz.f3]; simp only [EVa.down, EVb.down, EVc.down, EVd.down, EVe.down, EVf.down, EVg.down, EVh.down, EVi.down, EVj.down, EVk.down, EVl.down, EVm.down, EVn.down, EVo.down, EVp.down, EVq.down, om_md, compO, evalO, evalOs, ofVal, ofLit, happ, happ1, setRow, setCells, bsK, oneA, Nat.reduceLT, Nat.reduceLeDiff, Nat.reduceEqDiff, Nat.reduceAdd, Nat.reduceSub, Nat.reducePow, Nat.reduceMul, ↓reduceIte, reduceCtorEq, decide_true, EVr.down, seP_some, Nat.reduceBEq, Bool.or_true, Bool.true_or, Bool.or_false, Bool.false_or, TY3.down, h1, h2, h3, h4, h5, h6, h8, hsl, hrl, h9', h10', hk, List.length_map, i_eqself, Int.reduceBEq, beq_self_eq_true, h39, htk]; repeat' ((first | with_reducible refine fw_rc ?_ ?_ | with_reducible refine fw_cd ?_ ?_ | with_reducible refine fw_rq ?_ ?_ | with_reducible refine fw_rw ?_ ?_ | with_reducible refine fw_rl ?_ ?_ | (with_reducible refine fw_gdT ?_ ?_; kernel_rfl) | (with_reducible refine fw_dwT ?_ ?_ ?_; (first | exact fnE_none | exact fnS_none | exact rnd_none); decide +kernel) | (with_reducible refine fw_dnT ?_ ?_ ?_; (first | exact fnE_none | exact fnS_none | exact rnd_none); decide +kernel) | (with_reducible refine fw_dlT ?_ ?_ ?_; (first | exact fnE_none | exact fnS_none | exact rnd_none); decide +kernel)) <;> (intro hb; (try simp only [hb, EVa.down, EVb.down, EVc.down, EVd.down, EVe.down, EVf.down, EVg.down, EVh.down, EVi.down, EVj.down, EVk.down, EVl.down, EVm.down, EVn.down, EVo.down, EVp.down, EVq.down, om_md, compO, evalO, evalOs, ofVal, ofLit, happ, happ1, setRow, setCells, bsK, oneA, Nat.reduceLT, Nat.reduceLeDiff, Nat.reduceEqDiff, Nat.reduceAdd, Nat.reduceSub, Nat.reducePow, Nat.reduceMul, ↓reduceIte, reduceCtorEq, decide_true, EVr.down, seP_some, Nat.reduceBEq, Bool.or_true, Bool.true_or, Bool.or_false, Bool.false_or, TY3.down, h1, h2, h3, h4, h5, h6, h8, hsl, hrl, h9', h10', hk, List.length_map, i_eqself, Int.reduceBEq, beq_self_eq_true, h39, htk]); try (revert hb; intro (_ : True)))))
  | true =>
    cases nn' with
    | false =>
      obtain rfl : r = [] := hq2 rfl
      have h9' := h9 true false
      have h10' := h10 no false
      simp only [bestV, bestH, cond_false, cond_true, List.map_nil, List.length_nil, slv_nil, slv_true] at hsl hrl h9' h10'
      (refine ClQ.eq (stOf rfl Tryz.func3 rfl rfl ?_); simp only [Tryz.f3]; simp only [EVa.down, EVb.down, EVc.down, EVd.down, EVe.down, EVf.down, EVg.down, EVh.down, EVi.down, EVj.down, EVk.down, EVl.down, EVm.down, EVn.down, EVo.down, EVp.down, EVq.down, om_md, compO, evalO, evalOs, ofVal, ofLit, happ, happ1, setRow, setCells, bsK, oneA, Nat.reduceLT, Nat.reduceLeDiff, Nat.reduceEqDiff, Nat.reduceAdd, Nat.reduceSub, Nat.reducePow, Nat.reduceMul, ↓reduceIte, reduceCtorEq, decide_true, EVr.down, seP_some, Nat.reduceBEq, Bool.or_true, Bool.true_or, Bool.or_false, Bool.false_or, TY3.down, h1, h2, h3, h4, h5, h6, h8, hsl, hrl, h9', h10', hk, List.length_map, i_eqself, Int.reduceBEq, beq_self_eq_true, h39, htk]; repeat' ((first | with_reducible refine fw_rc ?_ ?_ | with_reducible refine fw_cd ?_ ?_ | with_reducible refine fw_rq ?_ ?_ | with_reducible refine fw_rw ?_ ?_ | with_reducible refine fw_rl ?_ ?_ | (with_reducible refine fw_gdT ?_ ?_; kernel_rfl) | (with_reducible refine fw_dwT ?_ ?_ ?_; (first | exact fnE_none | exact fnS_none | exact rnd_none); decide +kernel) | (with_reducible refine fw_dnT ?_ ?_ ?_; (first | exact fnE_none | exact fnS_none | exact rnd_none); decide +kernel) | (with_reducible refine fw_dlT ?_ ?_ ?_; (first | exact fnE_none | exact fnS_none | exact rnd_none); decide +kernel)) <;> (intro hb; (try simp only [hb, EVa.down, EVb.down, EVc.down, EVd.down, EVe.down, EVf.down, EVg.down, EVh.down, EVi.down, EVj.down, EVk.down, EVl.down, EVm.down, EVn.down, EVo.down, EVp.down, EVq.down, om_md, compO, evalO, evalOs, ofVal, ofLit, happ, happ1, setRow, setCells, bsK, oneA, Nat.reduceLT, Nat.reduceLeDiff, Nat.reduceEqDiff, Nat.reduceAdd, Nat.reduceSub, Nat.reducePow, Nat.reduceMul, ↓reduceIte, reduceCtorEq, decide_true, EVr.down, seP_some, Nat.reduceBEq, Bool.or_true, Bool.true_or, Bool.or_false, Bool.false_or, TY3.down, h1, h2, h3, h4, h5, h6, h8, hsl, hrl, h9', h10', hk, List.length_map, i_eqself, Int.reduceBEq, beq_self_eq_true, h39, htk]); try (revert hb; intro (_ : True)))))
    | true =>
      have h9' := h9 true true
      have h10' := h10 no true
      simp only [bestV, bestH, cond_true, slv_true] at hsl hrl h9' h10'
      (refine ClQ.eq (stOf rfl Tryz.func3 rfl rfl ?_); simp only [Tryz.f3]; simp only [EVa.down, EVb.down, EVc.down, EVd.down, EVe.down, EVf.down, EVg.down, EVh.down, EVi.down, EVj.down, EVk.down, EVl.down, EVm.down, EVn.down, EVo.down, EVp.down, EVq.down, om_md, compO, evalO, evalOs, ofVal, ofLit, happ, happ1, setRow, setCells, bsK, oneA, Nat.reduceLT, Nat.reduceLeDiff, Nat.reduceEqDiff, Nat.reduceAdd, Nat.reduceSub, Nat.reducePow, Nat.reduceMul, ↓reduceIte, reduceCtorEq, decide_true, EVr.down, seP_some, Nat.reduceBEq, Bool.or_true, Bool.true_or, Bool.or_false, Bool.false_or, TY3.down, h1, h2, h3, h4, h5, h6, h8, hsl, hrl, h9', h10', hk, List.length_map, i_eqself, Int.reduceBEq, beq_self_eq_true, h39, htk]; repeat' ((first | with_reducible refine fw_rc ?_ ?_ | with_reducible refine fw_cd ?_ ?_ | with_reducible refine fw_rq ?_ ?_ | with_reducible refine fw_rw ?_ ?_ | with_reducible refine fw_rl ?_ ?_ | (with_reducible refine fw_gdT ?_ ?_; kernel_rfl) | (with_reducible refine fw_dwT ?_ ?_ ?_; (first | exact fnE_none | exact fnS_none | exact rnd_none); decide +kernel) | (with_reducible refine fw_dnT ?_ ?_ ?_; (first | exact fnE_none | exact fnS_none | exact rnd_none); decide +kernel) | (with_reducible refine fw_dlT ?_ ?_ ?_; (first | exact fnE_none | exact fnS_none | exact rnd_none); decide +kernel)) <;> (intro hb; (try simp only [hb, EVa.down, EVb.down, EVc.down, EVd.down, EVe.down, EVf.down, EVg.down, EVh.down, EVi.down, EVj.down, EVk.down, EVl.down, EVm.down, EVn.down, EVo.down, EVp.down, EVq.down, om_md, compO, evalO, evalOs, ofVal, ofLit, happ, happ1, setRow, setCells, bsK, oneA, Nat.reduceLT, Nat.reduceLeDiff, Nat.reduceEqDiff, Nat.reduceAdd, Nat.reduceSub, Nat.reducePow, Nat.reduceMul, ↓reduceIte, reduceCtorEq, decide_true, EVr.down, seP_some, Nat.reduceBEq, Bool.or_true, Bool.true_or, Bool.or_false, Bool.false_or, TY3.down, h1, h2, h3, h4, h5, h6, h8, hsl, hrl, h9', h10', hk, List.length_map, i_eqself, Int.reduceBEq, beq_self_eq_true, h39, htk]); try (revert hb; intro (_ : True)))))
theorem tv_offs {av : AV} (h : TyV Tryz.prog 7 22 av) : ∃ (nn : Bool) (l : List BCon), av = slv 11 false nn (l.map BCon.cells) ∧ l.length ≤ maxLen ∧ ∀ c ∈ l, c.rates.length ≤ maxLen := by
  unfold TyV at h
  simp only [Tryz.underlying22] at h
  obtain ⟨nn, l, h1, h2, h3⟩ := ty_cons h
  simp only [List.cons.injEq, and_true] at h1
  exact ⟨nn, l, h1, h2, h3⟩
theorem t_BookSells (hk : om'.call (.fn 6) [] [] = some (.ret (.bool true), [])) : ∀ avs, TyVs Tryz.prog 7 Tryz.f3.params.toList avs → om'.call (.fn 3) avs [] = some (.ret (.bool true), []) := by
  intro avs h
  rw [show Tryz.f3.params.toList = [24, 22] from rfl] at h
  match avs, h with
  | [a, b], h =>
    obtain ⟨h1, h2, _⟩ := h
    obtain ⟨s, rfl, hs⟩ := tv_store h1
    obtain ⟨nn, off, rfl, hl, hr⟩ := tv_offs h2
    cases hv : sellsOK s off with
    | false => exact w_Sells0 hk s hs nn off hl hv
    | true =>
      cases hb : (decide (off.length ≤ 8) && storeB s && off.all conB) with
      | false => exact w_SellsE hk s hs nn off hl hr hv hb
      | true => exact w_SellsV hk s hs nn off hl hr hv hb
  | [], h => exact h.elim
  | [_], h => exact h.2.elim
  | _ :: _ :: _ :: _, h => exact h.2.2.elim
end Go.Proofs.YtkonpmbcipbhbaaGreatDoor
