/- Layer 6: the law BookFrees, walked. -/
import Derived.Test.YtdbiogihimdpcaaGreatDoorB54
import Derived.Test.YtdbiogihimdpcaaGreatDoorB31
set_option linter.unusedSimpArgs false
set_option linter.unusedVariables false
namespace Go.Proofs.YtdbiogihimdpcaaGreatDoor
open Go.Ev Go
set_option maxRecDepth 100000
set_option maxHeartbeats 1000000
theorem inR_at {c : BCon} {r : BRate} (h : c.rates[0]? = some r) : inR c = r.inn := by simp [inR, List.head?_eq_getElem?, h]
theorem outR_at {c : BCon} {r : BRate} (h : c.rates[c.rates.length - 1]? = some r) : outR c = r.out := by simp [outR, List.getLast?_eq_getElem?, h]
theorem bneq_tt : aBin Tryz.prog .neq 4 (.bool true) (.bool true) = some (.bool false) := by simp [aBin, aEq, Tryz.underlying4]
theorem bneq_tf : aBin Tryz.prog .neq 4 (.bool true) (.bool false) = some (.bool true) := by simp [aBin, aEq, Tryz.underlying4]
theorem bneq_ft : aBin Tryz.prog .neq 4 (.bool false) (.bool true) = some (.bool true) := by simp [aBin, aEq, Tryz.underlying4]
theorem bneq_ff : aBin Tryz.prog .neq 4 (.bool false) (.bool false) = some (.bool false) := by simp [aBin, aEq, Tryz.underlying4]
def freesOK (s : BStore) (c : BCon) : Bool := shortB s.cons && !decide (10 < c.rates.length) && storeB s && conB c && !decide (8 ≤ s.cons.length)
theorem w_Frees0 (hk : om'.call (.fn 15) [] [] = some (.ret (.bool true), [])) (s : BStore) (hs : s.small) (c : BCon) (hc : c.rates.length ≤ maxLen) (hv : freesOK s c = false) :
    om'.call (.fn 13) [.agg [.int .i64 s.space, .int .i64 s.inn, .int .i64 s.out, .int .i64 s.lead, .int .i64 s.fuel, slv 11 false s.nn (s.cons.map BCon.cells)], .agg [.bool c.firm, .int .i64 c.space, .int .i64 c.lo, .int .i64 c.hi, slv 3 true c.nn (c.rates.map BRate.cells), .int .i64 c.gas, .int .i64 c.fixed, .int .i64 c.inn, .int .i64 c.out, .int .i64 c.cut, .int .i64 c.lack]] [] = some (.ret (.bool true), []) := by
  have h1 := w_short (nn := s.nn) hs.cons
  have h2 := r_Store s hs
  have h3 := r_Contract c hc
  have h4 : decide ((10 : Int) < (c.rates.length : Int)) = decide (10 < c.rates.length) := by rw [decide_eq_decide]; omega
  have h5 : decide ((8 : Int) ≤ (s.cons.length : Int)) = decide (8 ≤ s.cons.length) := by rw [decide_eq_decide]; omega
  (refine ClQ.eq (stOf rfl Tryz.func13 rfl rfl ?_); simp only [Tryz.f13]; simp only [EVa.down, EVb.down, EVc.down, EVd.down, EVe.down, EVf.down, EVg.down, EVh.down, EVi.down, EVj.down, EVk.down, EVl.down, EVm.down, EVn.down, EVo.down, EVp.down, EVq.down, om_md, compO, evalO, evalOs, ofVal, ofLit, happ, happ1, setRow, setCells, bsK, oneA, Nat.reduceLT, Nat.reduceLeDiff, Nat.reduceEqDiff, Nat.reduceAdd, Nat.reduceSub, Nat.reducePow, Nat.reduceMul, ↓reduceIte, reduceCtorEq, decide_true, EVr.down, seP_some, Nat.reduceBEq, Bool.or_true, Bool.true_or, Bool.or_false, Bool.false_or, TY13.down, h1, h2, h3, h4, h5, hk, List.length_map]; repeat' ((first | with_reducible refine fw_rc ?_ ?_ | with_reducible refine fw_cd ?_ ?_ | with_reducible refine fw_rq ?_ ?_ | with_reducible refine fw_rw ?_ ?_ | with_reducible refine fw_rl ?_ ?_ | (with_reducible refine fw_gdT ?_ ?_; kernel_rfl) | (with_reducible refine fw_dwT ?_ ?_ ?_; (first | exact fnE_none | exact fnS_none | exact rnd_none); decide +kernel) | (with_reducible refine fw_dnT ?_ ?_ ?_; (first | exact fnE_none | exact fnS_none | exact rnd_none); decide +kernel) | (with_reducible refine fw_dlT ?_ ?_ ?_; (first | exact fnE_none | exact fnS_none | exact rnd_none); decide +kernel)) <;> (intro hb; (try simp only [hb, EVa.down, EVb.down, EVc.down, EVd.down, EVe.down, EVf.down, EVg.down, EVh.down, EVi.down, EVj.down, EVk.down, EVl.down, EVm.down, EVn.down, EVo.down, EVp.down, EVq.down, om_md, compO, evalO, evalOs, ofVal, ofLit, happ, happ1, setRow, setCells, bsK, oneA, Nat.reduceLT, Nat.reduceLeDiff, Nat.reduceEqDiff, Nat.reduceAdd, Nat.reduceSub, Nat.reducePow, Nat.reduceMul, ↓reduceIte, reduceCtorEq, decide_true, EVr.down, seP_some, Nat.reduceBEq, Bool.or_true, Bool.true_or, Bool.or_false, Bool.false_or, TY13.down, h1, h2, h3, h4, h5, hk, List.length_map]); try (revert hb; intro (_ : True)))))
  all_goals (exfalso; unfold freesOK at hv; simp_all)
theorem w_FreesA (hk : om'.call (.fn 15) [] [] = some (.ret (.bool true), [])) (s : BStore) (hs : s.small) (c : BCon) (hc : c.rates.length ≤ maxLen) (hv : freesOK s c = true) (hP : ∀ (F1 F2 : Int) (r0 r1 : BRate), (freeF s c.hi (c.hi - c.lo + 1).toNat (s.inn, s.out)).1 = F1 → (freeF s c.hi (c.hi - c.lo + 1).toNat (s.inn, s.out)).2 = F2 → c.rates[0]? = some r0 → c.rates[c.rates.length - 1]? = some r1 → decide (c.space ≤ s.space - spS s.cons) = false) :
    om'.call (.fn 13) [.agg [.int .i64 s.space, .int .i64 s.inn, .int .i64 s.out, .int .i64 s.lead, .int .i64 s.fuel, slv 11 false s.nn (s.cons.map BCon.cells)], .agg [.bool c.firm, .int .i64 c.space, .int .i64 c.lo, .int .i64 c.hi, slv 3 true c.nn (c.rates.map BRate.cells), .int .i64 c.gas, .int .i64 c.fixed, .int .i64 c.inn, .int .i64 c.out, .int .i64 c.cut, .int .i64 c.lack]] [] = some (.ret (.bool true), []) := by
  have h1 := w_short (nn := s.nn) hs.cons
  have h2 := r_Store s hs
  have h3 := r_Contract c hc
  have hf := e_Free s hs c.lo c.hi
  have h4 : decide ((10 : Int) < (c.rates.length : Int)) = decide (10 < c.rates.length) := by rw [decide_eq_decide]; omega
  have h5 : decide ((8 : Int) ≤ (s.cons.length : Int)) = decide (8 ≤ s.cons.length) := by rw [decide_eq_decide]; omega
  simp only [freesOK, Bool.and_eq_true, Bool.not_eq_true', decide_eq_false_iff_not] at hv
  obtain ⟨⟨⟨⟨v1, v2⟩, v3⟩, v4⟩, v5⟩ := hv
  have C := conOK v4
  have S := storeOK v3
  have Wc := worthW_eq C
  rw [v1] at h1
  rw [v3] at h2 hf
  rw [v4] at h3
  rw [decide_eq_false v2] at h4
  rw [decide_eq_false v5] at h5
  have hh : hoursB c.lo c.hi = true := by simp only [hoursB, Bool.and_eq_true, decide_eq_true_eq]; exact ⟨⟨C.hours.1, C.hours.2.1⟩, C.hours.2.2⟩
  rw [hh] at hf
  simp only [Bool.and_self, if_true, freeV] at hf
  have hsp : spacesF s.cons 0 = spS s.cons := by rw [spacesF_eq S.cons (by omega) (by have := S.len; omega)]; simp
  have spb := spS_le S.cons
  have S1 := S.space; have S2 := S.len
  rw [hsp, wrap_of (by omega) (by omega)] at hf
  generalize hF1 : (freeF s c.hi (c.hi - c.lo + 1).toNat (s.inn, s.out)).1 = F1 at hf
  generalize hF2 : (freeF s c.hi (c.hi - c.lo + 1).toNat (s.inn, s.out)).2 = F2 at hf
  have hfit : fitsB s c = (decide (c.space ≤ s.space - spS s.cons) && (!c.firm || (decide (inR c ≤ F1) && decide (outR c ≤ F2)))) := by rw [← hF1, ← hF2]; rfl
  obtain ⟨r0, hr0⟩ : ∃ r, c.rates[0]? = some r := ⟨_, List.getElem?_eq_getElem (List.length_pos_iff.2 C.rates.1)⟩
  obtain ⟨r1, hr1⟩ : ∃ r, c.rates[c.rates.length - 1]? = some r := ⟨_, List.getElem?_eq_getElem (by have := List.length_pos_iff.2 C.rates.1; omega)⟩
  rw [inR_at hr0, outR_at hr1] at hfit
  have hlen : IntKind.i64.wrap ((c.rates.length : Int) - 1) = ((c.rates.length - 1 : Nat) : Int) := by
    have := List.length_pos_iff.2 C.rates.1
    unfold maxLen at hc
    rw [wrap_of (by omega) (by omega)]; omega
  have hl0 : (0 ≤ ((c.rates.length - 1 : Nat) : Int)) = True := eq_true (Int.natCast_nonneg _)
  have hck := e_Check ⟨s.space, s.inn, s.out, s.lead, s.fuel, true, s.cons ++ [c]⟩ ⟨by have := hs.cons; simp; unfold maxLen at *; omega, fun x hx => by
    rcases List.mem_append.1 hx with h | h
    · exact hs.rates x h
    · rw [List.mem_singleton] at h; subst h; exact hc⟩
  rw [storeB_more true v3 v4 (by omega)] at hck
  obtain ⟨o, hs', hsl, nn, w, hq⟩ := e_SellV s hs [c] true v3 (by simp [v4]) (by simp) (fun x hx => by rw [List.mem_singleton] at hx; subst hx; exact hc)
  obtain ⟨hq1, rfl, rfl⟩ := hq _ rfl
  rw [sell_one v3 v4 (by omega)] at hq1 hsl
  simp only [slv_true, List.map_cons, List.map_nil] at hsl hck
  have hWd : IntKind.i64.wrap (c.fixed * IntKind.i64.wrap (IntKind.i64.wrap (c.hi - c.lo) + 1)) = worthW c := rfl
  have hp := hP F1 F2 r0 r1 hF1 hF2 hr0 hr1
  generalize worthW c = W at *
  have hft : fitsB s c = false := by rw [hfit]; simp [hp]
  rw [hft] at hck hsl hq1
  simp only [Bool.false_and, Bool.false_eq_true, if_false] at hck hsl hq1
  have hrow : ∀ (d : Nat) (g : HF), omap (omap (immV (d + 2) g)) (s.cons.map BCon.cells ++ [c.cells]) = some (s.cons.map BCon.cells ++ [c.cells]) := fun d g => by
    have := cons_immV d g (s.cons ++ [c])
    simpa using this
  have hlvr : ∀ (b st : Nat) (w : Bool) (d : Nat) (g : HF) (r len : Nat), lvS b (some (.live st false w (s.cons.map BCon.cells ++ [c.cells]))) (lentV (d + 2) g) r len = [b] := fun b st w d g r len => by
    have := cons_lv b st w (s.cons ++ [c]) d g r len
    simpa using this
  have htk : (s.cons.map BCon.cells ++ [c.cells]).take (s.cons.length + 1) = s.cons.map BCon.cells ++ [c.cells] := List.take_of_length_le (by simp)
  have h39 : (s.cons.length + 1 ≤ 549755813888) = True := eq_true (by omega)
  by_cases hcs : s.cons = []
  · cases hnn : s.nn <;> cases nn <;> (
      simp only [hcs, hnn, slv_nil, List.map_nil, List.nil_append, List.map_cons, List.length_nil, slv_true, bestV, bestH, cond_false, cond_true, BCon.cells] at h1 h2 hf h5 hck hsl hp ⊢
      (try simp only [hp] at h3 hck hsl)
      (refine ClQ.eq (stOf rfl Tryz.func13 rfl rfl ?_); simp only [Tryz.f13]; simp only [EVa.down, EVb.down, EVc.down, EVd.down, EVe.down, EVf.down, EVg.down, EVh.down, EVi.down, EVj.down, EVk.down, EVl.down, EVm.down, EVn.down, EVo.down, EVp.down, EVq.down, om_md, compO, evalO, evalOs, ofVal, ofLit, happ, happ1, setRow, setCells, bsK, oneA, Nat.reduceLT, Nat.reduceLeDiff, Nat.reduceEqDiff, Nat.reduceAdd, Nat.reduceSub, Nat.reducePow, Nat.reduceMul, ↓reduceIte, reduceCtorEq, decide_true, EVr.down, seP_some, Nat.reduceBEq, Bool.or_true, Bool.true_or, Bool.or_false, Bool.false_or, TY13.down, h1, h2, h3, hf, h4, h5, hk, hck, hsl, hr0, hr1, hlen, BRate.cells, BCon.cells, hWd, List.length_map, List.length_nil, Int.natCast_zero, h39, i_eqself, Int.reduceBEq, bneq_tt, bneq_tf, bneq_ft, bneq_ff, hp, lvS_ff, Int.toNat_zero, Int.le_refl, Int.toNat_natCast, hl0]; repeat' ((first | with_reducible refine fw_rc ?_ ?_ | with_reducible refine fw_cd ?_ ?_ | with_reducible refine fw_rq ?_ ?_ | with_reducible refine fw_rw ?_ ?_ | with_reducible refine fw_rl ?_ ?_ | (with_reducible refine fw_gdT ?_ ?_; kernel_rfl) | (with_reducible refine fw_dwT ?_ ?_ ?_; (first | exact fnE_none | exact fnS_none | exact rnd_none); decide +kernel) | (with_reducible refine fw_dnT ?_ ?_ ?_; (first | exact fnE_none | exact fnS_none | exact rnd_none); decide +kernel) | (with_reducible refine fw_dlT ?_ ?_ ?_; (first | exact fnE_none | exact fnS_none | exact rnd_none); decide +kernel)) <;> (intro hb; (try simp only [hb, EVa.down, EVb.down, EVc.down, EVd.down, EVe.down, EVf.down, EVg.down, EVh.down, EVi.down, EVj.down, EVk.down, EVl.down, EVm.down, EVn.down, EVo.down, EVp.down, EVq.down, om_md, compO, evalO, evalOs, ofVal, ofLit, happ, happ1, setRow, setCells, bsK, oneA, Nat.reduceLT, Nat.reduceLeDiff, Nat.reduceEqDiff, Nat.reduceAdd, Nat.reduceSub, Nat.reducePow, Nat.reduceMul, ↓reduceIte, reduceCtorEq, decide_true, EVr.down, seP_some, Nat.reduceBEq, Bool.or_true, Bool.true_or, Bool.or_false, Bool.false_or, TY13.down, h1, h2, h3, hf, h4, h5, hk, hck, hsl, hr0, hr1, hlen, BRate.cells, BCon.cells, hWd, List.length_map, List.length_nil, Int.natCast_zero, h39, i_eqself, Int.reduceBEq, bneq_tt, bneq_tf, bneq_ft, bneq_ff, hp, lvS_ff, Int.toNat_zero, Int.le_refl, Int.toNat_natCast, hl0]); try (revert hb; intro (_ : True))))))
  · have hne : s.cons.map BCon.cells ≠ [] := by simpa using hcs
    have hap0 := fun (h : Heap) => apK_ne (n := 11) (h := h) (nfl := false) hne (by simp; omega)
    cases nn <;> (
      simp only [slv_ne hne, List.map_append, List.map_cons, List.map_nil, slv_true, bestV, bestH, cond_false, cond_true] at h1 h2 hf h5 hck hsl ⊢
      simp only [BCon.cells] at hck hsl hrow hlvr htk
      (try simp only [hp] at h3 hck hsl hrow hlvr htk)
      (refine ClQ.eq (stOf rfl Tryz.func13 rfl rfl ?_); simp only [Tryz.f13]; simp only [EVa.down, EVb.down, EVc.down, EVd.down, EVe.down, EVf.down, EVg.down, EVh.down, EVi.down, EVj.down, EVk.down, EVl.down, EVm.down, EVn.down, EVo.down, EVp.down, EVq.down, om_md, compO, evalO, evalOs, ofVal, ofLit, happ, happ1, setRow, setCells, bsK, oneA, Nat.reduceLT, Nat.reduceLeDiff, Nat.reduceEqDiff, Nat.reduceAdd, Nat.reduceSub, Nat.reducePow, Nat.reduceMul, ↓reduceIte, reduceCtorEq, decide_true, EVr.down, seP_some, Nat.reduceBEq, Bool.or_true, Bool.true_or, Bool.or_false, Bool.false_or, TY13.down, h1, h2, h3, hf, h4, h5, hk, hck, hsl, hr0, hr1, hlen, BRate.cells, BCon.cells, hWd, List.length_map, List.length_nil, Int.natCast_zero, h39, i_eqself, Int.reduceBEq, bneq_tt, bneq_tf, bneq_ft, bneq_ff, hp, hap0, hrow, hlvr, htk, Int.toNat_zero, Int.le_refl, Int.toNat_natCast, hl0]; repeat' ((first | with_reducible refine fw_rc ?_ ?_ | with_reducible refine fw_cd ?_ ?_ | with_reducible refine fw_rq ?_ ?_ | with_reducible refine fw_rw ?_ ?_ | with_reducible refine fw_rl ?_ ?_ | (with_reducible refine fw_gdT ?_ ?_; kernel_rfl) | (with_reducible refine fw_dwT ?_ ?_ ?_; (first | exact fnE_none | exact fnS_none | exact rnd_none); decide +kernel) | (with_reducible refine fw_dnT ?_ ?_ ?_; (first | exact fnE_none | exact fnS_none | exact rnd_none); decide +kernel) | (with_reducible refine fw_dlT ?_ ?_ ?_; (first | exact fnE_none | exact fnS_none | exact rnd_none); decide +kernel)) <;> (intro hb; (try simp only [hb, EVa.down, EVb.down, EVc.down, EVd.down, EVe.down, EVf.down, EVg.down, EVh.down, EVi.down, EVj.down, EVk.down, EVl.down, EVm.down, EVn.down, EVo.down, EVp.down, EVq.down, om_md, compO, evalO, evalOs, ofVal, ofLit, happ, happ1, setRow, setCells, bsK, oneA, Nat.reduceLT, Nat.reduceLeDiff, Nat.reduceEqDiff, Nat.reduceAdd, Nat.reduceSub, Nat.reducePow, Nat.reduceMul, ↓reduceIte, reduceCtorEq, decide_true, EVr.down, seP_some, Nat.reduceBEq, Bool.or_true, Bool.true_or, Bool.or_false, Bool.false_or, TY13.down, h1, h2, h3, hf, h4, h5, hk, hck, hsl, hr0, hr1, hlen, BRate.cells, BCon.cells, hWd, List.length_map, List.length_nil, Int.natCast_zero, h39, i_eqself, Int.reduceBEq, bneq_tt, bneq_tf, bneq_ft, bneq_ff, hp, hap0, hrow, hlvr, htk, Int.toNat_zero, Int.le_refl, Int.toNat_natCast, hl0]); try (revert hb; intro (_ : True))))))
theorem w_FreesC (hk : om'.call (.fn 15) [] [] = some (.ret (.bool true), [])) (s : BStore) (hs : s.small) (c : BCon) (hc : c.rates.length ≤ maxLen) (hv : freesOK s c = true) (hP : ∀ (F1 F2 : Int) (r0 r1 : BRate), (freeF s c.hi (c.hi - c.lo + 1).toNat (s.inn, s.out)).1 = F1 → (freeF s c.hi (c.hi - c.lo + 1).toNat (s.inn, s.out)).2 = F2 → c.rates[0]? = some r0 → c.rates[c.rates.length - 1]? = some r1 → decide (c.space ≤ s.space - spS s.cons) = true ∧ c.firm = true ∧ decide (r0.inn ≤ F1) = false) :
    om'.call (.fn 13) [.agg [.int .i64 s.space, .int .i64 s.inn, .int .i64 s.out, .int .i64 s.lead, .int .i64 s.fuel, slv 11 false s.nn (s.cons.map BCon.cells)], .agg [.bool c.firm, .int .i64 c.space, .int .i64 c.lo, .int .i64 c.hi, slv 3 true c.nn (c.rates.map BRate.cells), .int .i64 c.gas, .int .i64 c.fixed, .int .i64 c.inn, .int .i64 c.out, .int .i64 c.cut, .int .i64 c.lack]] [] = some (.ret (.bool true), []) := by
  have h1 := w_short (nn := s.nn) hs.cons
  have h2 := r_Store s hs
  have h3 := r_Contract c hc
  have hf := e_Free s hs c.lo c.hi
  have h4 : decide ((10 : Int) < (c.rates.length : Int)) = decide (10 < c.rates.length) := by rw [decide_eq_decide]; omega
  have h5 : decide ((8 : Int) ≤ (s.cons.length : Int)) = decide (8 ≤ s.cons.length) := by rw [decide_eq_decide]; omega
  simp only [freesOK, Bool.and_eq_true, Bool.not_eq_true', decide_eq_false_iff_not] at hv
  obtain ⟨⟨⟨⟨v1, v2⟩, v3⟩, v4⟩, v5⟩ := hv
  have C := conOK v4
  have S := storeOK v3
  have Wc := worthW_eq C
  rw [v1] at h1
  rw [v3] at h2 hf
  rw [v4] at h3
  rw [decide_eq_false v2] at h4
  rw [decide_eq_false v5] at h5
  have hh : hoursB c.lo c.hi = true := by simp only [hoursB, Bool.and_eq_true, decide_eq_true_eq]; exact ⟨⟨C.hours.1, C.hours.2.1⟩, C.hours.2.2⟩
  rw [hh] at hf
  simp only [Bool.and_self, if_true, freeV] at hf
  have hsp : spacesF s.cons 0 = spS s.cons := by rw [spacesF_eq S.cons (by omega) (by have := S.len; omega)]; simp
  have spb := spS_le S.cons
  have S1 := S.space; have S2 := S.len
  rw [hsp, wrap_of (by omega) (by omega)] at hf
  generalize hF1 : (freeF s c.hi (c.hi - c.lo + 1).toNat (s.inn, s.out)).1 = F1 at hf
  generalize hF2 : (freeF s c.hi (c.hi - c.lo + 1).toNat (s.inn, s.out)).2 = F2 at hf
  have hfit : fitsB s c = (decide (c.space ≤ s.space - spS s.cons) && (!c.firm || (decide (inR c ≤ F1) && decide (outR c ≤ F2)))) := by rw [← hF1, ← hF2]; rfl
  obtain ⟨r0, hr0⟩ : ∃ r, c.rates[0]? = some r := ⟨_, List.getElem?_eq_getElem (List.length_pos_iff.2 C.rates.1)⟩
  obtain ⟨r1, hr1⟩ : ∃ r, c.rates[c.rates.length - 1]? = some r := ⟨_, List.getElem?_eq_getElem (by have := List.length_pos_iff.2 C.rates.1; omega)⟩
  rw [inR_at hr0, outR_at hr1] at hfit
  have hlen : IntKind.i64.wrap ((c.rates.length : Int) - 1) = ((c.rates.length - 1 : Nat) : Int) := by
    have := List.length_pos_iff.2 C.rates.1
    unfold maxLen at hc
    rw [wrap_of (by omega) (by omega)]; omega
  have hl0 : (0 ≤ ((c.rates.length - 1 : Nat) : Int)) = True := eq_true (Int.natCast_nonneg _)
  have hck := e_Check ⟨s.space, s.inn, s.out, s.lead, s.fuel, true, s.cons ++ [c]⟩ ⟨by have := hs.cons; simp; unfold maxLen at *; omega, fun x hx => by
    rcases List.mem_append.1 hx with h | h
    · exact hs.rates x h
    · rw [List.mem_singleton] at h; subst h; exact hc⟩
  rw [storeB_more true v3 v4 (by omega)] at hck
  obtain ⟨o, hs', hsl, nn, w, hq⟩ := e_SellV s hs [c] true v3 (by simp [v4]) (by simp) (fun x hx => by rw [List.mem_singleton] at hx; subst hx; exact hc)
  obtain ⟨hq1, rfl, rfl⟩ := hq _ rfl
  rw [sell_one v3 v4 (by omega)] at hq1 hsl
  simp only [slv_true, List.map_cons, List.map_nil] at hsl hck
  have hWd : IntKind.i64.wrap (c.fixed * IntKind.i64.wrap (IntKind.i64.wrap (c.hi - c.lo) + 1)) = worthW c := rfl
  have hp := hP F1 F2 r0 r1 hF1 hF2 hr0 hr1
  generalize worthW c = W at *
  have hft : fitsB s c = false := by rw [hfit]; simp [hp.1, hp.2.1, hp.2.2]
  rw [hft] at hck hsl hq1
  simp only [Bool.false_and, Bool.false_eq_true, if_false] at hck hsl hq1
  have hrow : ∀ (d : Nat) (g : HF), omap (omap (immV (d + 2) g)) (s.cons.map BCon.cells ++ [c.cells]) = some (s.cons.map BCon.cells ++ [c.cells]) := fun d g => by
    have := cons_immV d g (s.cons ++ [c])
    simpa using this
  have hlvr : ∀ (b st : Nat) (w : Bool) (d : Nat) (g : HF) (r len : Nat), lvS b (some (.live st false w (s.cons.map BCon.cells ++ [c.cells]))) (lentV (d + 2) g) r len = [b] := fun b st w d g r len => by
    have := cons_lv b st w (s.cons ++ [c]) d g r len
    simpa using this
  have htk : (s.cons.map BCon.cells ++ [c.cells]).take (s.cons.length + 1) = s.cons.map BCon.cells ++ [c.cells] := List.take_of_length_le (by simp)
  have h39 : (s.cons.length + 1 ≤ 549755813888) = True := eq_true (by omega)
  by_cases hcs : s.cons = []
  · cases hnn : s.nn <;> cases nn <;> (
      simp only [hcs, hnn, slv_nil, List.map_nil, List.nil_append, List.map_cons, List.length_nil, slv_true, bestV, bestH, cond_false, cond_true, BCon.cells] at h1 h2 hf h5 hck hsl hp ⊢
      (try simp only [hp.2.1] at h3 hck hsl)
      (refine ClQ.eq (stOf rfl Tryz.func13 rfl rfl ?_); simp only [Tryz.f13]; simp only [EVa.down, EVb.down, EVc.down, EVd.down, EVe.down, EVf.down, EVg.down, EVh.down, EVi.down, EVj.down, EVk.down, EVl.down, EVm.down, EVn.down, EVo.down, EVp.down, EVq.down, om_md, compO, evalO, evalOs, ofVal, ofLit, happ, happ1, setRow, setCells, bsK, oneA, Nat.reduceLT, Nat.reduceLeDiff, Nat.reduceEqDiff, Nat.reduceAdd, Nat.reduceSub, Nat.reducePow, Nat.reduceMul, ↓reduceIte, reduceCtorEq, decide_true, EVr.down, seP_some, Nat.reduceBEq, Bool.or_true, Bool.true_or, Bool.or_false, Bool.false_or, TY13.down, h1, h2, h3, hf, h4, h5, hk, hck, hsl, hr0, hr1, hlen, BRate.cells, BCon.cells, hWd, List.length_map, List.length_nil, Int.natCast_zero, h39, i_eqself, Int.reduceBEq, bneq_tt, bneq_tf, bneq_ft, bneq_ff, hp.1, hp.2.1, hp.2.2, lvS_ff, Int.toNat_zero, Int.le_refl, Int.toNat_natCast, hl0]; repeat' ((first | with_reducible refine fw_rc ?_ ?_ | with_reducible refine fw_cd ?_ ?_ | with_reducible refine fw_rq ?_ ?_ | with_reducible refine fw_rw ?_ ?_ | with_reducible refine fw_rl ?_ ?_ | (with_reducible refine fw_gdT ?_ ?_; kernel_rfl) | (with_reducible refine fw_dwT ?_ ?_ ?_; (first | exact fnE_none | exact fnS_none | exact rnd_none); decide +kernel) | (with_reducible refine fw_dnT ?_ ?_ ?_; (first | exact fnE_none | exact fnS_none | exact rnd_none); decide +kernel) | (with_reducible refine fw_dlT ?_ ?_ ?_; (first | exact fnE_none | exact fnS_none | exact rnd_none); decide +kernel)) <;> (intro hb; (try simp only [hb, EVa.down, EVb.down, EVc.down, EVd.down, EVe.down, EVf.down, EVg.down, EVh.down, EVi.down, EVj.down, EVk.down, EVl.down, EVm.down, EVn.down, EVo.down, EVp.down, EVq.down, om_md, compO, evalO, evalOs, ofVal, ofLit, happ, happ1, setRow, setCells, bsK, oneA, Nat.reduceLT, Nat.reduceLeDiff, Nat.reduceEqDiff, Nat.reduceAdd, Nat.reduceSub, Nat.reducePow, Nat.reduceMul, ↓reduceIte, reduceCtorEq, decide_true, EVr.down, seP_some, Nat.reduceBEq, Bool.or_true, Bool.true_or, Bool.or_false, Bool.false_or, TY13.down, h1, h2, h3, hf, h4, h5, hk, hck, hsl, hr0, hr1, hlen, BRate.cells, BCon.cells, hWd, List.length_map, List.length_nil, Int.natCast_zero, h39, i_eqself, Int.reduceBEq, bneq_tt, bneq_tf, bneq_ft, bneq_ff, hp.1, hp.2.1, hp.2.2, lvS_ff, Int.toNat_zero, Int.le_refl, Int.toNat_natCast, hl0]); try (revert hb; intro (_ : True))))))
  · have hne : s.cons.map BCon.cells ≠ [] := by simpa using hcs
    have hap0 := fun (h : Heap) => apK_ne (n := 11) (h := h) (nfl := false) hne (by simp; omega)
    cases nn <;> (
      simp only [slv_ne hne, List.map_append, List.map_cons, List.map_nil, slv_true, bestV, bestH, cond_false, cond_true] at h1 h2 hf h5 hck hsl ⊢
      simp only [BCon.cells] at hck hsl hrow hlvr htk
      (try simp only [hp.2.1] at h3 hck hsl hrow hlvr htk)
      (refine ClQ.eq (stOf rfl Tryz.func13 rfl rfl ?_); simp only [Tryz.f13]; simp only [EVa.down, EVb.down, EVc.down, EVd.down, EVe.down, EVf.down, EVg.down, EVh.down, EVi.down, EVj.down, EVk.down, EVl.down, EVm.down, EVn.down, EVo.down, EVp.down, EVq.down, om_md, compO, evalO, evalOs, ofVal, ofLit, happ, happ1, setRow, setCells, bsK, oneA, Nat.reduceLT, Nat.reduceLeDiff, Nat.reduceEqDiff, Nat.reduceAdd, Nat.reduceSub, Nat.reducePow, Nat.reduceMul, ↓reduceIte, reduceCtorEq, decide_true, EVr.down, seP_some, Nat.reduceBEq, Bool.or_true, Bool.true_or, Bool.or_false, Bool.false_or, TY13.down, h1, h2, h3, hf, h4, h5, hk, hck, hsl, hr0, hr1, hlen, BRate.cells, BCon.cells, hWd, List.length_map, List.length_nil, Int.natCast_zero, h39, i_eqself, Int.reduceBEq, bneq_tt, bneq_tf, bneq_ft, bneq_ff, hp.1, hp.2.1, hp.2.2, hap0, hrow, hlvr, htk, Int.toNat_zero, Int.le_refl, Int.toNat_natCast, hl0]; repeat' ((first | with_reducible refine fw_rc ?_ ?_ | with_reducible refine fw_cd ?_ ?_ | with_reducible refine fw_rq ?_ ?_ | with_reducible refine fw_rw ?_ ?_ | with_reducible refine fw_rl ?_ ?_ | (with_reducible refine fw_gdT ?_ ?_; kernel_rfl) | (with_reducible refine fw_dwT ?_ ?_ ?_; (first | exact fnE_none | exact fnS_none | exact rnd_none); decide +kernel) | (with_reducible refine fw_dnT ?_ ?_ ?_; (first | exact fnE_none | exact fnS_none | exact rnd_none); decide +kernel) | (with_reducible refine fw_dlT ?_ ?_ ?_; (first | exact fnE_none | exact fnS_none | exact rnd_none); decide +kernel)) <;> (intro hb; (try simp only [hb, EVa.down, EVb.down, EVc.down, EVd.down, EVe.down, EVf.down, EVg.down, EVh.down, EVi.down, EVj.down, EVk.down, EVl.down, EVm.down, EVn.down, EVo.down, EVp.down, EVq.down, om_md, compO, evalO, evalOs, ofVal, ofLit, happ, happ1, setRow, setCells, bsK, oneA, Nat.reduceLT, Nat.reduceLeDiff, Nat.reduceEqDiff, Nat.reduceAdd, Nat.reduceSub, Nat.reducePow, Nat.reduceMul, ↓reduceIte, reduceCtorEq, decide_true, EVr.down, seP_some, Nat.reduceBEq, Bool.or_true, Bool.true_or, Bool.or_false, Bool.false_or, TY13.down, h1, h2, h3, hf, h4, h5, hk, hck, hsl, hr0, hr1, hlen, BRate.cells, BCon.cells, hWd, List.length_map, List.length_nil, Int.natCast_zero, h39, i_eqself, Int.reduceBEq, bneq_tt, bneq_tf, bneq_ft, bneq_ff, hp.1, hp.2.1, hp.2.2, hap0, hrow, hlvr, htk, Int.toNat_zero, Int.le_refl, Int.toNat_natCast, hl0]); try (revert hb; intro (_ : True))))))
theorem w_FreesD (hk : om'.call (.fn 15) [] [] = some (.ret (.bool true), [])) (s : BStore) (hs : s.small) (c : BCon) (hc : c.rates.length ≤ maxLen) (hv : freesOK s c = true) (hP : ∀ (F1 F2 : Int) (r0 r1 : BRate), (freeF s c.hi (c.hi - c.lo + 1).toNat (s.inn, s.out)).1 = F1 → (freeF s c.hi (c.hi - c.lo + 1).toNat (s.inn, s.out)).2 = F2 → c.rates[0]? = some r0 → c.rates[c.rates.length - 1]? = some r1 → decide (c.space ≤ s.space - spS s.cons) = true ∧ c.firm = true ∧ decide (r0.inn ≤ F1) = true ∧ decide (r1.out ≤ F2) = false) :
    om'.call (.fn 13) [.agg [.int .i64 s.space, .int .i64 s.inn, .int .i64 s.out, .int .i64 s.lead, .int .i64 s.fuel, slv 11 false s.nn (s.cons.map BCon.cells)], .agg [.bool c.firm, .int .i64 c.space, .int .i64 c.lo, .int .i64 c.hi, slv 3 true c.nn (c.rates.map BRate.cells), .int .i64 c.gas, .int .i64 c.fixed, .int .i64 c.inn, .int .i64 c.out, .int .i64 c.cut, .int .i64 c.lack]] [] = some (.ret (.bool true), []) := by
  have h1 := w_short (nn := s.nn) hs.cons
  have h2 := r_Store s hs
  have h3 := r_Contract c hc
  have hf := e_Free s hs c.lo c.hi
  have h4 : decide ((10 : Int) < (c.rates.length : Int)) = decide (10 < c.rates.length) := by rw [decide_eq_decide]; omega
  have h5 : decide ((8 : Int) ≤ (s.cons.length : Int)) = decide (8 ≤ s.cons.length) := by rw [decide_eq_decide]; omega
  simp only [freesOK, Bool.and_eq_true, Bool.not_eq_true', decide_eq_false_iff_not] at hv
  obtain ⟨⟨⟨⟨v1, v2⟩, v3⟩, v4⟩, v5⟩ := hv
  have C := conOK v4
  have S := storeOK v3
  have Wc := worthW_eq C
  rw [v1] at h1
  rw [v3] at h2 hf
  rw [v4] at h3
  rw [decide_eq_false v2] at h4
  rw [decide_eq_false v5] at h5
  have hh : hoursB c.lo c.hi = true := by simp only [hoursB, Bool.and_eq_true, decide_eq_true_eq]; exact ⟨⟨C.hours.1, C.hours.2.1⟩, C.hours.2.2⟩
  rw [hh] at hf
  simp only [Bool.and_self, if_true, freeV] at hf
  have hsp : spacesF s.cons 0 = spS s.cons := by rw [spacesF_eq S.cons (by omega) (by have := S.len; omega)]; simp
  have spb := spS_le S.cons
  have S1 := S.space; have S2 := S.len
  rw [hsp, wrap_of (by omega) (by omega)] at hf
  generalize hF1 : (freeF s c.hi (c.hi - c.lo + 1).toNat (s.inn, s.out)).1 = F1 at hf
  generalize hF2 : (freeF s c.hi (c.hi - c.lo + 1).toNat (s.inn, s.out)).2 = F2 at hf
  have hfit : fitsB s c = (decide (c.space ≤ s.space - spS s.cons) && (!c.firm || (decide (inR c ≤ F1) && decide (outR c ≤ F2)))) := by rw [← hF1, ← hF2]; rfl
  obtain ⟨r0, hr0⟩ : ∃ r, c.rates[0]? = some r := ⟨_, List.getElem?_eq_getElem (List.length_pos_iff.2 C.rates.1)⟩
  obtain ⟨r1, hr1⟩ : ∃ r, c.rates[c.rates.length - 1]? = some r := ⟨_, List.getElem?_eq_getElem (by have := List.length_pos_iff.2 C.rates.1; omega)⟩
  rw [inR_at hr0, outR_at hr1] at hfit
  have hlen : IntKind.i64.wrap ((c.rates.length : Int) - 1) = ((c.rates.length - 1 : Nat) : Int) := by
    have := List.length_pos_iff.2 C.rates.1
    unfold maxLen at hc
    rw [wrap_of (by omega) (by omega)]; omega
  have hl0 : (0 ≤ ((c.rates.length - 1 : Nat) : Int)) = True := eq_true (Int.natCast_nonneg _)
  have hck := e_Check ⟨s.space, s.inn, s.out, s.lead, s.fuel, true, s.cons ++ [c]⟩ ⟨by have := hs.cons; simp; unfold maxLen at *; omega, fun x hx => by
    rcases List.mem_append.1 hx with h | h
    · exact hs.rates x h
    · rw [List.mem_singleton] at h; subst h; exact hc⟩
  rw [storeB_more true v3 v4 (by omega)] at hck
  obtain ⟨o, hs', hsl, nn, w, hq⟩ := e_SellV s hs [c] true v3 (by simp [v4]) (by simp) (fun x hx => by rw [List.mem_singleton] at hx; subst hx; exact hc)
  obtain ⟨hq1, rfl, rfl⟩ := hq _ rfl
  rw [sell_one v3 v4 (by omega)] at hq1 hsl
  simp only [slv_true, List.map_cons, List.map_nil] at hsl hck
  have hWd : IntKind.i64.wrap (c.fixed * IntKind.i64.wrap (IntKind.i64.wrap (c.hi - c.lo) + 1)) = worthW c := rfl
  have hp := hP F1 F2 r0 r1 hF1 hF2 hr0 hr1
  generalize worthW c = W at *
  have hft : fitsB s c = false := by rw [hfit]; simp [hp.1, hp.2.1, hp.2.2.1, hp.2.2.2]
  rw [hft] at hck hsl hq1
  simp only [Bool.false_and, Bool.false_eq_true, if_false] at hck hsl hq1
  have hrow : ∀ (d : Nat) (g : HF), omap (omap (immV (d + 2) g)) (s.cons.map BCon.cells ++ [c.cells]) = some (s.cons.map BCon.cells ++ [c.cells]) := fun d g => by
    have := cons_immV d g (s.cons ++ [c])
    simpa using this
  have hlvr : ∀ (b st : Nat) (w : Bool) (d : Nat) (g : HF) (r len : Nat), lvS b (some (.live st false w (s.cons.map BCon.cells ++ [c.cells]))) (lentV (d + 2) g) r len = [b] := fun b st w d g r len => by
    have := cons_lv b st w (s.cons ++ [c]) d g r len
    simpa using this
  have htk : (s.cons.map BCon.cells ++ [c.cells]).take (s.cons.length + 1) = s.cons.map BCon.cells ++ [c.cells] := List.take_of_length_le (by simp)
  have h39 : (s.cons.length + 1 ≤ 549755813888) = True := eq_true (by omega)
  by_cases hcs : s.cons = []
  · cases hnn : s.nn <;> cases nn <;> (
      simp only [hcs, hnn, slv_nil, List.map_nil, List.nil_append, List.map_cons, List.length_nil, slv_true, bestV, bestH, cond_false, cond_true, BCon.cells] at h1 h2 hf h5 hck hsl hp ⊢
      (try simp only [hp.2.1] at h3 hck hsl)
      (refine ClQ.eq (stOf rfl Tryz.func13 rfl rfl ?_); simp only [Tryz.f13]; simp only [EVa.down, EVb.down, EVc.down, EVd.down, EVe.down, EVf.down, EVg.down, EVh.down, EVi.down, EVj.down, EVk.down, EVl.down, EVm.down, EVn.down, EVo.down, EVp.down, EVq.down, om_md, compO, evalO, evalOs, ofVal, ofLit, happ, happ1, setRow, setCells, bsK, oneA, Nat.reduceLT, Nat.reduceLeDiff, Nat.reduceEqDiff, Nat.reduceAdd, Nat.reduceSub, Nat.reducePow, Nat.reduceMul, ↓reduceIte, reduceCtorEq, decide_true, EVr.down, seP_some, Nat.reduceBEq, Bool.or_true, Bool.true_or, Bool.or_false, Bool.false_or, TY13.down, h1, h2, h3, hf, h4, h5, hk, hck, hsl, hr0, hr1, hlen, BRate.cells, BCon.cells, hWd, List.length_map, List.length_nil, Int.natCast_zero, h39, i_eqself, Int.reduceBEq, bneq_tt, bneq_tf, bneq_ft, bneq_ff, hp.1, hp.2.1, hp.2.2.1, hp.2.2.2, lvS_ff, Int.toNat_zero, Int.le_refl, Int.toNat_natCast, hl0]; repeat' ((first | with_reducible refine fw_rc ?_ ?_ | with_reducible refine fw_cd ?_ ?_ | with_reducible refine fw_rq ?_ ?_ | with_reducible refine fw_rw ?_ ?_ | with_reducible refine fw_rl ?_ ?_ | (with_reducible refine fw_gdT ?_ ?_; kernel_rfl) | (with_reducible refine fw_dwT ?_ ?_ ?_; (first | exact fnE_none | exact fnS_none | exact rnd_none); decide +kernel) | (with_reducible refine fw_dnT ?_ ?_ ?_; (first | exact fnE_none | exact fnS_none | exact rnd_none); decide +kernel) | (with_reducible refine fw_dlT ?_ ?_ ?_; (first | exact fnE_none | exact fnS_none | exact rnd_none); decide +kernel)) <;> (intro hb; (try simp only [hb, EVa.down, EVb.down, EVc.down, EVd.down, EVe.down, EVf.down, EVg.down, EVh.down, EVi.down, EVj.down, EVk.down, EVl.down, EVm.down, EVn.down, EVo.down, EVp.down, EVq.down, om_md, compO, evalO, evalOs, ofVal, ofLit, happ, happ1, setRow, setCells, bsK, oneA, Nat.reduceLT, Nat.reduceLeDiff, Nat.reduceEqDiff, Nat.reduceAdd, Nat.reduceSub, Nat.reducePow, Nat.reduceMul, ↓reduceIte, reduceCtorEq, decide_true, EVr.down, seP_some, Nat.reduceBEq, Bool.or_true, Bool.true_or, Bool.or_false, Bool.false_or, TY13.down, h1, h2, h3, hf, h4, h5, hk, hck, hsl, hr0, hr1, hlen, BRate.cells, BCon.cells, hWd, List.length_map, List.length_nil, Int.natCast_zero, h39, i_eqself, Int.reduceBEq, bneq_tt, bneq_tf, bneq_ft, bneq_ff, hp.1, hp.2.1, hp.2.2.1, hp.2.2.2, lvS_ff, Int.toNat_zero, Int.le_refl, Int.toNat_natCast, hl0]); try (revert hb; intro (_ : True))))))
  · have hne : s.cons.map BCon.cells ≠ [] := by simpa using hcs
    have hap0 := fun (h : Heap) => apK_ne (n := 11) (h := h) (nfl := false) hne (by simp; omega)
    cases nn <;> (
      simp only [slv_ne hne, List.map_append, List.map_cons, List.map_nil, slv_true, bestV, bestH, cond_false, cond_true] at h1 h2 hf h5 hck hsl ⊢
      simp only [BCon.cells] at hck hsl hrow hlvr htk
      (try simp only [hp.2.1] at h3 hck hsl hrow hlvr htk)
      (refine ClQ.eq (stOf rfl Tryz.func13 rfl rfl ?_); simp only [Tryz.f13]; simp only [EVa.down, EVb.down, EVc.down, EVd.down, EVe.down, EVf.down, EVg.down, EVh.down, EVi.down, EVj.down, EVk.down, EVl.down, EVm.down, EVn.down, EVo.down, EVp.down, EVq.down, om_md, compO, evalO, evalOs, ofVal, ofLit, happ, happ1, setRow, setCells, bsK, oneA, Nat.reduceLT, Nat.reduceLeDiff, Nat.reduceEqDiff, Nat.reduceAdd, Nat.reduceSub, Nat.reducePow, Nat.reduceMul, ↓reduceIte, reduceCtorEq, decide_true, EVr.down, seP_some, Nat.reduceBEq, Bool.or_true, Bool.true_or, Bool.or_false, Bool.false_or, TY13.down, h1, h2, h3, hf, h4, h5, hk, hck, hsl, hr0, hr1, hlen, BRate.cells, BCon.cells, hWd, List.length_map, List.length_nil, Int.natCast_zero, h39, i_eqself, Int.reduceBEq, bneq_tt, bneq_tf, bneq_ft, bneq_ff, hp.1, hp.2.1, hp.2.2.1, hp.2.2.2, hap0, hrow, hlvr, htk, Int.toNat_zero, Int.le_refl, Int.toNat_natCast, hl0]; repeat' ((first | with_reducible refine fw_rc ?_ ?_ | with_reducible refine fw_cd ?_ ?_ | with_reducible refine fw_rq ?_ ?_ | with_reducible refine fw_rw ?_ ?_ | with_reducible refine fw_rl ?_ ?_ | (with_reducible refine fw_gdT ?_ ?_; kernel_rfl) | (with_reducible refine fw_dwT ?_ ?_ ?_; (first | exact fnE_none | exact fnS_none | exact rnd_none); decide +kernel) | (with_reducible refine fw_dnT ?_ ?_ ?_; (first | exact fnE_none | exact fnS_none | exact rnd_none); decide +kernel) | (with_reducible refine fw_dlT ?_ ?_ ?_; (first | exact fnE_none | exact fnS_none | exact rnd_none); decide +kernel)) <;> (intro hb; (try simp only [hb, EVa.down, EVb.down, EVc.down, EVd.down, EVe.down, EVf.down, EVg.down, EVh.down, EVi.down, EVj.down, EVk.down, EVl.down, EVm.down, EVn.down, EVo.down, EVp.down, EVq.down, om_md, compO, evalO, evalOs, ofVal, ofLit, happ, happ1, setRow, setCells, bsK, oneA, Nat.reduceLT, Nat.reduceLeDiff, Nat.reduceEqDiff, Nat.reduceAdd, Nat.reduceSub, Nat.reducePow, Nat.reduceMul, ↓reduceIte, reduceCtorEq, decide_true, EVr.down, seP_some, Nat.reduceBEq, Bool.or_true, Bool.true_or, Bool.or_false, Bool.false_or, TY13.down, h1, h2, h3, hf, h4, h5, hk, hck, hsl, hr0, hr1, hlen, BRate.cells, BCon.cells, hWd, List.length_map, List.length_nil, Int.natCast_zero, h39, i_eqself, Int.reduceBEq, bneq_tt, bneq_tf, bneq_ft, bneq_ff, hp.1, hp.2.1, hp.2.2.1, hp.2.2.2, hap0, hrow, hlvr, htk, Int.toNat_zero, Int.le_refl, Int.toNat_natCast, hl0]); try (revert hb; intro (_ : True))))))
theorem w_FreesB (hk : om'.call (.fn 15) [] [] = some (.ret (.bool true), [])) (s : BStore) (hs : s.small) (c : BCon) (hc : c.rates.length ≤ maxLen) (hv : freesOK s c = true) (hP : ∀ (F1 F2 : Int) (r0 r1 : BRate), (freeF s c.hi (c.hi - c.lo + 1).toNat (s.inn, s.out)).1 = F1 → (freeF s c.hi (c.hi - c.lo + 1).toNat (s.inn, s.out)).2 = F2 → c.rates[0]? = some r0 → c.rates[c.rates.length - 1]? = some r1 → decide (c.space ≤ s.space - spS s.cons) = true ∧ c.firm = false) :
    om'.call (.fn 13) [.agg [.int .i64 s.space, .int .i64 s.inn, .int .i64 s.out, .int .i64 s.lead, .int .i64 s.fuel, slv 11 false s.nn (s.cons.map BCon.cells)], .agg [.bool c.firm, .int .i64 c.space, .int .i64 c.lo, .int .i64 c.hi, slv 3 true c.nn (c.rates.map BRate.cells), .int .i64 c.gas, .int .i64 c.fixed, .int .i64 c.inn, .int .i64 c.out, .int .i64 c.cut, .int .i64 c.lack]] [] = some (.ret (.bool true), []) := by
  have h1 := w_short (nn := s.nn) hs.cons
  have h2 := r_Store s hs
  have h3 := r_Contract c hc
  have hf := e_Free s hs c.lo c.hi
  have h4 : decide ((10 : Int) < (c.rates.length : Int)) = decide (10 < c.rates.length) := by rw [decide_eq_decide]; omega
  have h5 : decide ((8 : Int) ≤ (s.cons.length : Int)) = decide (8 ≤ s.cons.length) := by rw [decide_eq_decide]; omega
  simp only [freesOK, Bool.and_eq_true, Bool.not_eq_true', decide_eq_false_iff_not] at hv
  obtain ⟨⟨⟨⟨v1, v2⟩, v3⟩, v4⟩, v5⟩ := hv
  have C := conOK v4
  have S := storeOK v3
  have Wc := worthW_eq C
  rw [v1] at h1
  rw [v3] at h2 hf
  rw [v4] at h3
  rw [decide_eq_false v2] at h4
  rw [decide_eq_false v5] at h5
  have hh : hoursB c.lo c.hi = true := by simp only [hoursB, Bool.and_eq_true, decide_eq_true_eq]; exact ⟨⟨C.hours.1, C.hours.2.1⟩, C.hours.2.2⟩
  rw [hh] at hf
  simp only [Bool.and_self, if_true, freeV] at hf
  have hsp : spacesF s.cons 0 = spS s.cons := by rw [spacesF_eq S.cons (by omega) (by have := S.len; omega)]; simp
  have spb := spS_le S.cons
  have S1 := S.space; have S2 := S.len
  rw [hsp, wrap_of (by omega) (by omega)] at hf
  generalize hF1 : (freeF s c.hi (c.hi - c.lo + 1).toNat (s.inn, s.out)).1 = F1 at hf
  generalize hF2 : (freeF s c.hi (c.hi - c.lo + 1).toNat (s.inn, s.out)).2 = F2 at hf
  have hfit : fitsB s c = (decide (c.space ≤ s.space - spS s.cons) && (!c.firm || (decide (inR c ≤ F1) && decide (outR c ≤ F2)))) := by rw [← hF1, ← hF2]; rfl
  obtain ⟨r0, hr0⟩ : ∃ r, c.rates[0]? = some r := ⟨_, List.getElem?_eq_getElem (List.length_pos_iff.2 C.rates.1)⟩
  obtain ⟨r1, hr1⟩ : ∃ r, c.rates[c.rates.length - 1]? = some r := ⟨_, List.getElem?_eq_getElem (by have := List.length_pos_iff.2 C.rates.1; omega)⟩
  rw [inR_at hr0, outR_at hr1] at hfit
  have hlen : IntKind.i64.wrap ((c.rates.length : Int) - 1) = ((c.rates.length - 1 : Nat) : Int) := by
    have := List.length_pos_iff.2 C.rates.1
    unfold maxLen at hc
    rw [wrap_of (by omega) (by omega)]; omega
  have hl0 : (0 ≤ ((c.rates.length - 1 : Nat) : Int)) = True := eq_true (Int.natCast_nonneg _)
  have hck := e_Check ⟨s.space, s.inn, s.out, s.lead, s.fuel, true, s.cons ++ [c]⟩ ⟨by have := hs.cons; simp; unfold maxLen at *; omega, fun x hx => by
    rcases List.mem_append.1 hx with h | h
    · exact hs.rates x h
    · rw [List.mem_singleton] at h; subst h; exact hc⟩
  rw [storeB_more true v3 v4 (by omega)] at hck
  obtain ⟨o, hs', hsl, nn, w, hq⟩ := e_SellV s hs [c] true v3 (by simp [v4]) (by simp) (fun x hx => by rw [List.mem_singleton] at hx; subst hx; exact hc)
  obtain ⟨hq1, rfl, rfl⟩ := hq _ rfl
  rw [sell_one v3 v4 (by omega)] at hq1 hsl
  simp only [slv_true, List.map_cons, List.map_nil] at hsl hck
  have hWd : IntKind.i64.wrap (c.fixed * IntKind.i64.wrap (IntKind.i64.wrap (c.hi - c.lo) + 1)) = worthW c := rfl
  have hp := hP F1 F2 r0 r1 hF1 hF2 hr0 hr1
  generalize worthW c = W at *
  have hft : fitsB s c = true := by rw [hfit]; simp [hp.1, hp.2]
  rw [hft] at hck hsl hq1
  have hrow : ∀ (d : Nat) (g : HF), omap (omap (immV (d + 2) g)) (s.cons.map BCon.cells ++ [c.cells]) = some (s.cons.map BCon.cells ++ [c.cells]) := fun d g => by
    have := cons_immV d g (s.cons ++ [c])
    simpa using this
  have hlvr : ∀ (b st : Nat) (w : Bool) (d : Nat) (g : HF) (r len : Nat), lvS b (some (.live st false w (s.cons.map BCon.cells ++ [c.cells]))) (lentV (d + 2) g) r len = [b] := fun b st w d g r len => by
    have := cons_lv b st w (s.cons ++ [c]) d g r len
    simpa using this
  have htk : (s.cons.map BCon.cells ++ [c.cells]).take (s.cons.length + 1) = s.cons.map BCon.cells ++ [c.cells] := List.take_of_length_le (by simp)
  have h39 : (s.cons.length + 1 ≤ 549755813888) = True := eq_true (by omega)
  have h9 := r_Same1 (l := [0]) (l' := [0]) (nn := true) (nn' := true) (by simp [maxLen]) (by simp [maxLen])
  rw [slv_true] at h9
  simp only [decide_true, List.map_cons, List.map_nil, iv] at h9
  by_cases hW : 0 < W
  · have hWz : (W == 0) = false := by simpa using (show W ≠ 0 by omega)
    have hWp : decide (0 < W) = true := decide_eq_true hW
    rw [hWp] at hsl hq1
    simp only [Bool.and_self, if_true] at hck hsl hq1
    simp only [bestV, bestH, List.map_cons, List.map_nil, iv] at hsl
    obtain rfl : nn = true := by
      cases nn
      · exact absurd (hq1 rfl) (by simp)
      · rfl
    by_cases hcs : s.cons = []
    · cases hnn : s.nn <;> (
        simp only [hcs, hnn, slv_nil, List.map_nil, List.nil_append, List.map_cons, List.length_nil, slv_true, bestV, bestH, cond_false, cond_true, BCon.cells] at h1 h2 hf h5 hck hsl hp ⊢
        (try simp only [hp.2] at h3 hck hsl)
        (refine ClQ.eq (stOf rfl Tryz.func13 rfl rfl ?_); simp only [Tryz.f13]; simp only [EVa.down, EVb.down, EVc.down, EVd.down, EVe.down, EVf.down, EVg.down, EVh.down, EVi.down, EVj.down, EVk.down, EVl.down, EVm.down, EVn.down, EVo.down, EVp.down, EVq.down, om_md, compO, evalO, evalOs, ofVal, ofLit, happ, happ1, setRow, setCells, bsK, oneA, Nat.reduceLT, Nat.reduceLeDiff, Nat.reduceEqDiff, Nat.reduceAdd, Nat.reduceSub, Nat.reducePow, Nat.reduceMul, ↓reduceIte, reduceCtorEq, decide_true, EVr.down, seP_some, Nat.reduceBEq, Bool.or_true, Bool.true_or, Bool.or_false, Bool.false_or, TY13.down, h1, h2, h3, hf, h4, h5, hk, hck, hsl, hr0, hr1, h9, hlen, BRate.cells, BCon.cells, hWd, List.length_map, List.length_nil, Int.natCast_zero, h39, i_eqself, Int.reduceBEq, bneq_tt, bneq_tf, bneq_ft, bneq_ff, hp.1, hp.2, Int.toNat_zero, Int.le_refl, Int.toNat_natCast, hl0, hWz, hWp, lvS_ff]; repeat' ((first | with_reducible refine fw_rc ?_ ?_ | with_reducible refine fw_cd ?_ ?_ | with_reducible refine fw_rq ?_ ?_ | with_reducible refine fw_rw ?_ ?_ | with_reducible refine fw_rl ?_ ?_ | (with_reducible refine fw_gdT ?_ ?_; kernel_rfl) | (with_reducible refine fw_dwT ?_ ?_ ?_; (first | exact fnE_none | exact fnS_none | exact rnd_none); decide +kernel) | (with_reducible refine fw_dnT ?_ ?_ ?_; (first | exact fnE_none | exact fnS_none | exact rnd_none); decide +kernel) | (with_reducible refine fw_dlT ?_ ?_ ?_; (first | exact fnE_none | exact fnS_none | exact rnd_none); decide +kernel)) <;> (intro hb; (try simp only [hb, EVa.down, EVb.down, EVc.down, EVd.down, EVe.down, EVf.down, EVg.down, EVh.down, EVi.down, EVj.down, EVk.down, EVl.down, EVm.down, EVn.down, EVo.down, EVp.down, EVq.down, om_md, compO, evalO, evalOs, ofVal, ofLit, happ, happ1, setRow, setCells, bsK, oneA, Nat.reduceLT, Nat.reduceLeDiff, Nat.reduceEqDiff, Nat.reduceAdd, Nat.reduceSub, Nat.reducePow, Nat.reduceMul, ↓reduceIte, reduceCtorEq, decide_true, EVr.down, seP_some, Nat.reduceBEq, Bool.or_true, Bool.true_or, Bool.or_false, Bool.false_or, TY13.down, h1, h2, h3, hf, h4, h5, hk, hck, hsl, hr0, hr1, h9, hlen, BRate.cells, BCon.cells, hWd, List.length_map, List.length_nil, Int.natCast_zero, h39, i_eqself, Int.reduceBEq, bneq_tt, bneq_tf, bneq_ft, bneq_ff, hp.1, hp.2, Int.toNat_zero, Int.le_refl, Int.toNat_natCast, hl0, hWz, hWp, lvS_ff]); try (revert hb; intro (_ : True))))))
    · have hne : s.cons.map BCon.cells ≠ [] := by simpa using hcs
      have hap0 := fun (h : Heap) => apK_ne (n := 11) (h := h) (nfl := false) hne (by simp; omega)
      simp only [slv_ne hne, List.map_append, List.map_cons, List.map_nil, slv_true, bestV, bestH, cond_false, cond_true] at h1 h2 hf h5 hck hsl ⊢
      simp only [BCon.cells] at hck hsl hrow hlvr htk
      (try simp only [hp.2] at h3 hck hsl hrow hlvr htk)
      (refine ClQ.eq (stOf rfl Tryz.func13 rfl rfl ?_); simp only [Tryz.f13]; simp only [EVa.down, EVb.down, EVc.down, EVd.down, EVe.down, EVf.down, EVg.down, EVh.down, EVi.down, EVj.down, EVk.down, EVl.down, EVm.down, EVn.down, EVo.down, EVp.down, EVq.down, om_md, compO, evalO, evalOs, ofVal, ofLit, happ, happ1, setRow, setCells, bsK, oneA, Nat.reduceLT, Nat.reduceLeDiff, Nat.reduceEqDiff, Nat.reduceAdd, Nat.reduceSub, Nat.reducePow, Nat.reduceMul, ↓reduceIte, reduceCtorEq, decide_true, EVr.down, seP_some, Nat.reduceBEq, Bool.or_true, Bool.true_or, Bool.or_false, Bool.false_or, TY13.down, h1, h2, h3, hf, h4, h5, hk, hck, hsl, hr0, hr1, h9, hlen, BRate.cells, BCon.cells, hWd, List.length_map, List.length_nil, Int.natCast_zero, h39, i_eqself, Int.reduceBEq, bneq_tt, bneq_tf, bneq_ft, bneq_ff, hp.1, hp.2, Int.toNat_zero, Int.le_refl, Int.toNat_natCast, hl0, hWz, hWp, hap0, hrow, hlvr, htk]; repeat' ((first | with_reducible refine fw_rc ?_ ?_ | with_reducible refine fw_cd ?_ ?_ | with_reducible refine fw_rq ?_ ?_ | with_reducible refine fw_rw ?_ ?_ | with_reducible refine fw_rl ?_ ?_ | (with_reducible refine fw_gdT ?_ ?_; kernel_rfl) | (with_reducible refine fw_dwT ?_ ?_ ?_; (first | exact fnE_none | exact fnS_none | exact rnd_none); decide +kernel) | (with_reducible refine fw_dnT ?_ ?_ ?_; (first | exact fnE_none | exact fnS_none | exact rnd_none); decide +kernel) | (with_reducible refine fw_dlT ?_ ?_ ?_; (first | exact fnE_none | exact fnS_none | exact rnd_none); decide +kernel)) <;> (intro hb; (try simp only [hb, EVa.down, EVb.down, EVc.down, EVd.down, EVe.down, EVf.down, EVg.down, EVh.down, EVi.down, EVj.down, EVk.down, EVl.down, EVm.down, EVn.down, EVo.down, EVp.down, EVq.down, om_md, compO, evalO, evalOs, ofVal, ofLit, happ, happ1, setRow, setCells, bsK, oneA, Nat.reduceLT, Nat.reduceLeDiff, Nat.reduceEqDiff, Nat.reduceAdd, Nat.reduceSub, Nat.reducePow, Nat.reduceMul, ↓reduceIte, reduceCtorEq, decide_true, EVr.down, seP_some, Nat.reduceBEq, Bool.or_true, Bool.true_or, Bool.or_false, Bool.false_or, TY13.down, h1, h2, h3, hf, h4, h5, hk, hck, hsl, hr0, hr1, h9, hlen, BRate.cells, BCon.cells, hWd, List.length_map, List.length_nil, Int.natCast_zero, h39, i_eqself, Int.reduceBEq, bneq_tt, bneq_tf, bneq_ft, bneq_ff, hp.1, hp.2, Int.toNat_zero, Int.le_refl, Int.toNat_natCast, hl0, hWz, hWp, hap0, hrow, hlvr, htk]); try (revert hb; intro (_ : True)))))
  · obtain rfl : W = 0 := by omega
    have hWz : ((0 : Int) == 0) = true := rfl
    have hWp : decide ((0 : Int) < 0) = false := rfl
    rw [hWp] at hsl hq1
    simp only [Bool.and_false, Bool.false_eq_true, if_true, if_false] at hck hsl hq1
    by_cases hcs : s.cons = [] <;> cases nn
    · cases hnn : s.nn <;> (
        simp only [hcs, hnn, slv_nil, List.map_nil, List.nil_append, List.map_cons, List.length_nil, slv_true, bestV, bestH, cond_false, cond_true, BCon.cells] at h1 h2 hf h5 hck hsl hp ⊢
        (try simp only [hp.2] at h3 hck hsl)
        (refine ClQ.eq (stOf rfl Tryz.func13 rfl rfl ?_); simp only [Tryz.f13]; simp only [EVa.down, EVb.down, EVc.down, EVd.down, EVe.down, EVf.down, EVg.down, EVh.down, EVi.down, EVj.down, EVk.down, EVl.down, EVm.down, EVn.down, EVo.down, EVp.down, EVq.down, om_md, compO, evalO, evalOs, ofVal, ofLit, happ, happ1, setRow, setCells, bsK, oneA, Nat.reduceLT, Nat.reduceLeDiff, Nat.reduceEqDiff, Nat.reduceAdd, Nat.reduceSub, Nat.reducePow, Nat.reduceMul, ↓reduceIte, reduceCtorEq, decide_true, EVr.down, seP_some, Nat.reduceBEq, Bool.or_true, Bool.true_or, Bool.or_false, Bool.false_or, TY13.down, h1, h2, h3, hf, h4, h5, hk, hck, hsl, hr0, hr1, h9, hlen, BRate.cells, BCon.cells, hWd, List.length_map, List.length_nil, Int.natCast_zero, h39, i_eqself, Int.reduceBEq, bneq_tt, bneq_tf, bneq_ft, bneq_ff, hp.1, hp.2, Int.toNat_zero, Int.le_refl, Int.toNat_natCast, hl0, hWz, hWp, lvS_ff]; repeat' ((first | with_reducible refine fw_rc ?_ ?_ | with_reducible refine fw_cd ?_ ?_ | with_reducible refine fw_rq ?_ ?_ | with_reducible refine fw_rw ?_ ?_ | with_reducible refine fw_rl ?_ ?_ | (with_reducible refine fw_gdT ?_ ?_; kernel_rfl) | (with_reducible refine fw_dwT ?_ ?_ ?_; (first | exact fnE_none | exact fnS_none | exact rnd_none); decide +kernel) | (with_reducible refine fw_dnT ?_ ?_ ?_; (first | exact fnE_none | exact fnS_none | exact rnd_none); decide +kernel) | (with_reducible refine fw_dlT ?_ ?_ ?_; (first | exact fnE_none | exact fnS_none | exact rnd_none); decide +kernel)) <;> (intro hb; (try simp only [hb, EVa.down, EVb.down, EVc.down, EVd.down, EVe.down, EVf.down, EVg.down, EVh.down, EVi.down, EVj.down, EVk.down, EVl.down, EVm.down, EVn.down, EVo.down, EVp.down, EVq.down, om_md, compO, evalO, evalOs, ofVal, ofLit, happ, happ1, setRow, setCells, bsK, oneA, Nat.reduceLT, Nat.reduceLeDiff, Nat.reduceEqDiff, Nat.reduceAdd, Nat.reduceSub, Nat.reducePow, Nat.reduceMul, ↓reduceIte, reduceCtorEq, decide_true, EVr.down, seP_some, Nat.reduceBEq, Bool.or_true, Bool.true_or, Bool.or_false, Bool.false_or, TY13.down, h1, h2, h3, hf, h4, h5, hk, hck, hsl, hr0, hr1, h9, hlen, BRate.cells, BCon.cells, hWd, List.length_map, List.length_nil, Int.natCast_zero, h39, i_eqself, Int.reduceBEq, bneq_tt, bneq_tf, bneq_ft, bneq_ff, hp.1, hp.2, Int.toNat_zero, Int.le_refl, Int.toNat_natCast, hl0, hWz, hWp, lvS_ff]); try (revert hb; intro (_ : True))))))
    · cases hnn : s.nn <;> (
        simp only [hcs, hnn, slv_nil, List.map_nil, List.nil_append, List.map_cons, List.length_nil, slv_true, bestV, bestH, cond_false, cond_true, BCon.cells] at h1 h2 hf h5 hck hsl hp ⊢
        (try simp only [hp.2] at h3 hck hsl)
        (refine ClQ.eq (stOf rfl Tryz.func13 rfl rfl ?_); simp only [Tryz.f13]; simp only [EVa.down, EVb.down, EVc.down, EVd.down, EVe.down, EVf.down, EVg.down, EVh.down, EVi.down, EVj.down, EVk.down, EVl.down, EVm.down, EVn.down, EVo.down, EVp.down, EVq.down, om_md, compO, evalO, evalOs, ofVal, ofLit, happ, happ1, setRow, setCells, bsK, oneA, Nat.reduceLT, Nat.reduceLeDiff, Nat.reduceEqDiff, Nat.reduceAdd, Nat.reduceSub, Nat.reducePow, Nat.reduceMul, ↓reduceIte, reduceCtorEq, decide_true, EVr.down, seP_some, Nat.reduceBEq, Bool.or_true, Bool.true_or, Bool.or_false, Bool.false_or, TY13.down, h1, h2, h3, hf, h4, h5, hk, hck, hsl, hr0, hr1, h9, hlen, BRate.cells, BCon.cells, hWd, List.length_map, List.length_nil, Int.natCast_zero, h39, i_eqself, Int.reduceBEq, bneq_tt, bneq_tf, bneq_ft, bneq_ff, hp.1, hp.2, Int.toNat_zero, Int.le_refl, Int.toNat_natCast, hl0, hWz, hWp, lvS_ff]; repeat' ((first | with_reducible refine fw_rc ?_ ?_ | with_reducible refine fw_cd ?_ ?_ | with_reducible refine fw_rq ?_ ?_ | with_reducible refine fw_rw ?_ ?_ | with_reducible refine fw_rl ?_ ?_ | (with_reducible refine fw_gdT ?_ ?_; kernel_rfl) | (with_reducible refine fw_dwT ?_ ?_ ?_; (first | exact fnE_none | exact fnS_none | exact rnd_none); decide +kernel) | (with_reducible refine fw_dnT ?_ ?_ ?_; (first | exact fnE_none | exact fnS_none | exact rnd_none); decide +kernel) | (with_reducible refine fw_dlT ?_ ?_ ?_; (first | exact fnE_none | exact fnS_none | exact rnd_none); decide +kernel)) <;> (intro hb; (try simp only [hb, EVa.down, EVb.down, EVc.down, EVd.down, EVe.down, EVf.down, EVg.down, EVh.down, EVi.down, EVj.down, EVk.down, EVl.down, EVm.down, EVn.down, EVo.down, EVp.down, EVq.down, om_md, compO, evalO, evalOs, ofVal, ofLit, happ, happ1, setRow, setCells, bsK, oneA, Nat.reduceLT, Nat.reduceLeDiff, Nat.reduceEqDiff, Nat.reduceAdd, Nat.reduceSub, Nat.reducePow, Nat.reduceMul, ↓reduceIte, reduceCtorEq, decide_true, EVr.down, seP_some, Nat.reduceBEq, Bool.or_true, Bool.true_or, Bool.or_false, Bool.false_or, TY13.down, h1, h2, h3, hf, h4, h5, hk, hck, hsl, hr0, hr1, h9, hlen, BRate.cells, BCon.cells, hWd, List.length_map, List.length_nil, Int.natCast_zero, h39, i_eqself, Int.reduceBEq, bneq_tt, bneq_tf, bneq_ft, bneq_ff, hp.1, hp.2, Int.toNat_zero, Int.le_refl, Int.toNat_natCast, hl0, hWz, hWp, lvS_ff]); try (revert hb; intro (_ : True))))))
    · have hne : s.cons.map BCon.cells ≠ [] := by simpa using hcs
      have hap0 := fun (h : Heap) => apK_ne (n := 11) (h := h) (nfl := false) hne (by simp; omega)
      simp only [slv_ne hne, List.map_append, List.map_cons, List.map_nil, slv_true, bestV, bestH, cond_false, cond_true] at h1 h2 hf h5 hck hsl ⊢
      simp only [BCon.cells] at hck hsl hrow hlvr htk
      (try simp only [hp.2] at h3 hck hsl hrow hlvr htk)
      (refine ClQ.eq (stOf rfl Tryz.func13 rfl rfl ?_); simp only [Tryz.f13]; simp only [EVa.down, EVb.down, EVc.down, EVd.down, EVe.down, EVf.down, EVg.down, EVh.down, EVi.down, EVj.down, EVk.down, EVl.down, EVm.down, EVn.down, EVo.down, EVp.down, EVq.down, om_md, compO, evalO, evalOs, ofVal, ofLit, happ, happ1, setRow, setCells, bsK, oneA, Nat.reduceLT, Nat.reduceLeDiff, Nat.reduceEqDiff, Nat.reduceAdd, Nat.reduceSub, Nat.reducePow, Nat.reduceMul, ↓reduceIte, reduceCtorEq, decide_true, EVr.down, seP_some, Nat.reduceBEq, Bool.or_true, Bool.true_or, Bool.or_false, Bool.false_or, TY13.down, h1, h2, h3, hf, h4, h5, hk, hck, hsl, hr0, hr1, h9, hlen, BRate.cells, BCon.cells, hWd, List.length_map, List.length_nil, Int.natCast_zero, h39, i_eqself, Int.reduceBEq, bneq_tt, bneq_tf, bneq_ft, bneq_ff, hp.1, hp.2, Int.toNat_zero, Int.le_refl, Int.toNat_natCast, hl0, hWz, hWp, hap0, hrow, hlvr, htk]; repeat' ((first | with_reducible refine fw_rc ?_ ?_ | with_reducible refine fw_cd ?_ ?_ | with_reducible refine fw_rq ?_ ?_ | with_reducible refine fw_rw ?_ ?_ | with_reducible refine fw_rl ?_ ?_ | (with_reducible refine fw_gdT ?_ ?_; kernel_rfl) | (with_reducible refine fw_dwT ?_ ?_ ?_; (first | exact fnE_none | exact fnS_none | exact rnd_none); decide +kernel) | (with_reducible refine fw_dnT ?_ ?_ ?_; (first | exact fnE_none | exact fnS_none | exact rnd_none); decide +kernel) | (with_reducible refine fw_dlT ?_ ?_ ?_; (first | exact fnE_none | exact fnS_none | exact rnd_none); decide +kernel)) <;> (intro hb; (try simp only [hb, EVa.down, EVb.down, EVc.down, EVd.down, EVe.down, EVf.down, EVg.down, EVh.down, EVi.down, EVj.down, EVk.down, EVl.down, EVm.down, EVn.down, EVo.down, EVp.down, EVq.down, om_md, compO, evalO, evalOs, ofVal, ofLit, happ, happ1, setRow, setCells, bsK, oneA, Nat.reduceLT, Nat.reduceLeDiff, Nat.reduceEqDiff, Nat.reduceAdd, Nat.reduceSub, Nat.reducePow, Nat.reduceMul, ↓reduceIte, reduceCtorEq, decide_true, EVr.down, seP_some, Nat.reduceBEq, Bool.or_true, Bool.true_or, Bool.or_false, Bool.false_or, TY13.down, h1, h2, h3, hf, h4, h5, hk, hck, hsl, hr0, hr1, h9, hlen, BRate.cells, BCon.cells, hWd, List.length_map, List.length_nil, Int.natCast_zero, h39, i_eqself, Int.reduceBEq, bneq_tt, bneq_tf, bneq_ft, bneq_ff, hp.1, hp.2, Int.toNat_zero, Int.le_refl, Int.toNat_natCast, hl0, hWz, hWp, hap0, hrow, hlvr, htk]); try (revert hb; intro (_ : True)))))
    · have hne : s.cons.map BCon.cells ≠ [] := by simpa using hcs
      have hap0 := fun (h : Heap) => apK_ne (n := 11) (h := h) (nfl := false) hne (by simp; omega)
      simp only [slv_ne hne, List.map_append, List.map_cons, List.map_nil, slv_true, bestV, bestH, cond_false, cond_true] at h1 h2 hf h5 hck hsl ⊢
      simp only [BCon.cells] at hck hsl hrow hlvr htk
      (try simp only [hp.2] at h3 hck hsl hrow hlvr htk)
      (refine ClQ.eq (stOf rfl Tryz.func13 rfl rfl ?_); simp only [Tryz.f13]; simp only [EVa.down, EVb.down, EVc.down, EVd.down, EVe.down, EVf.down, EVg.down, EVh.down, EVi.down, EVj.down, EVk.down, EVl.down, EVm.down, EVn.down, EVo.down, EVp.down, EVq.down, om_md, compO, evalO, evalOs, ofVal, ofLit, happ, happ1, setRow, setCells, bsK, oneA, Nat.reduceLT, Nat.reduceLeDiff, Nat.reduceEqDiff, Nat.reduceAdd, Nat.reduceSub, Nat.reducePow, Nat.reduceMul, ↓reduceIte, reduceCtorEq, decide_true, EVr.down, seP_some, Nat.reduceBEq, Bool.or_true, Bool.true_or, Bool.or_false, Bool.false_or, TY13.down, h1, h2, h3, hf, h4, h5, hk, hck, hsl, hr0, hr1, h9, hlen, BRate.cells, BCon.cells, hWd, List.length_map, List.length_nil, Int.natCast_zero, h39, i_eqself, Int.reduceBEq, bneq_tt, bneq_tf, bneq_ft, bneq_ff, hp.1, hp.2, Int.toNat_zero, Int.le_refl, Int.toNat_natCast, hl0, hWz, hWp, hap0, hrow, hlvr, htk]; repeat' ((first | with_reducible refine fw_rc ?_ ?_ | with_reducible refine fw_cd ?_ ?_ | with_reducible refine fw_rq ?_ ?_ | with_reducible refine fw_rw ?_ ?_ | with_reducible refine fw_rl ?_ ?_ | (with_reducible refine fw_gdT ?_ ?_; kernel_rfl) | (with_reducible refine fw_dwT ?_ ?_ ?_; (first | exact fnE_none | exact fnS_none | exact rnd_none); decide +kernel) | (with_reducible refine fw_dnT ?_ ?_ ?_; (first | exact fnE_none | exact fnS_none | exact rnd_none); decide +kernel) | (with_reducible refine fw_dlT ?_ ?_ ?_; (first | exact fnE_none | exact fnS_none | exact rnd_none); decide +kernel)) <;> (intro hb; (try simp only [hb, EVa.down, EVb.down, EVc.down, EVd.down, EVe.down, EVf.down, EVg.down, EVh.down, EVi.down, EVj.down, EVk.down, EVl.down, EVm.down, EVn.down, EVo.down, EVp.down, EVq.down, om_md, compO, evalO, evalOs, ofVal, ofLit, happ, happ1, setRow, setCells, bsK, oneA, Nat.reduceLT, Nat.reduceLeDiff, Nat.reduceEqDiff, Nat.reduceAdd, Nat.reduceSub, Nat.reducePow, Nat.reduceMul, ↓reduceIte, reduceCtorEq, decide_true, EVr.down, seP_some, Nat.reduceBEq, Bool.or_true, Bool.true_or, Bool.or_false, Bool.false_or, TY13.down, h1, h2, h3, hf, h4, h5, hk, hck, hsl, hr0, hr1, h9, hlen, BRate.cells, BCon.cells, hWd, List.length_map, List.length_nil, Int.natCast_zero, h39, i_eqself, Int.reduceBEq, bneq_tt, bneq_tf, bneq_ft, bneq_ff, hp.1, hp.2, Int.toNat_zero, Int.le_refl, Int.toNat_natCast, hl0, hWz, hWp, hap0, hrow, hlvr, htk]); try (revert hb; intro (_ : True)))))
theorem w_FreesE (hk : om'.call (.fn 15) [] [] = some (.ret (.bool true), [])) (s : BStore) (hs : s.small) (c : BCon) (hc : c.rates.length ≤ maxLen) (hv : freesOK s c = true) (hP : ∀ (F1 F2 : Int) (r0 r1 : BRate), (freeF s c.hi (c.hi - c.lo + 1).toNat (s.inn, s.out)).1 = F1 → (freeF s c.hi (c.hi - c.lo + 1).toNat (s.inn, s.out)).2 = F2 → c.rates[0]? = some r0 → c.rates[c.rates.length - 1]? = some r1 → decide (c.space ≤ s.space - spS s.cons) = true ∧ c.firm = true ∧ decide (r0.inn ≤ F1) = true ∧ decide (r1.out ≤ F2) = true) :
    om'.call (.fn 13) [.agg [.int .i64 s.space, .int .i64 s.inn, .int .i64 s.out, .int .i64 s.lead, .int .i64 s.fuel, slv 11 false s.nn (s.cons.map BCon.cells)], .agg [.bool c.firm, .int .i64 c.space, .int .i64 c.lo, .int .i64 c.hi, slv 3 true c.nn (c.rates.map BRate.cells), .int .i64 c.gas, .int .i64 c.fixed, .int .i64 c.inn, .int .i64 c.out, .int .i64 c.cut, .int .i64 c.lack]] [] = some (.ret (.bool true), []) := by
  have h1 := w_short (nn := s.nn) hs.cons
  have h2 := r_Store s hs
  have h3 := r_Contract c hc
  have hf := e_Free s hs c.lo c.hi
  have h4 : decide ((10 : Int) < (c.rates.length : Int)) = decide (10 < c.rates.length) := by rw [decide_eq_decide]; omega
  have h5 : decide ((8 : Int) ≤ (s.cons.length : Int)) = decide (8 ≤ s.cons.length) := by rw [decide_eq_decide]; omega
  simp only [freesOK, Bool.and_eq_true, Bool.not_eq_true', decide_eq_false_iff_not] at hv
  obtain ⟨⟨⟨⟨v1, v2⟩, v3⟩, v4⟩, v5⟩ := hv
  have C := conOK v4
  have S := storeOK v3
  have Wc := worthW_eq C
  rw [v1] at h1
  rw [v3] at h2 hf
  rw [v4] at h3
  rw [decide_eq_false v2] at h4
  rw [decide_eq_false v5] at h5
  have hh : hoursB c.lo c.hi = true := by simp only [hoursB, Bool.and_eq_true, decide_eq_true_eq]; exact ⟨⟨C.hours.1, C.hours.2.1⟩, C.hours.2.2⟩
  rw [hh] at hf
  simp only [Bool.and_self, if_true, freeV] at hf
  have hsp : spacesF s.cons 0 = spS s.cons := by rw [spacesF_eq S.cons (by omega) (by have := S.len; omega)]; simp
  have spb := spS_le S.cons
  have S1 := S.space; have S2 := S.len
  rw [hsp, wrap_of (by omega) (by omega)] at hf
  generalize hF1 : (freeF s c.hi (c.hi - c.lo + 1).toNat (s.inn, s.out)).1 = F1 at hf
  generalize hF2 : (freeF s c.hi (c.hi - c.lo + 1).toNat (s.inn, s.out)).2 = F2 at hf
  have hfit : fitsB s c = (decide (c.space ≤ s.space - spS s.cons) && (!c.firm || (decide (inR c ≤ F1) && decide (outR c ≤ F2)))) := by rw [← hF1, ← hF2]; rfl
  obtain ⟨r0, hr0⟩ : ∃ r, c.rates[0]? = some r := ⟨_, List.getElem?_eq_getElem (List.length_pos_iff.2 C.rates.1)⟩
  obtain ⟨r1, hr1⟩ : ∃ r, c.rates[c.rates.length - 1]? = some r := ⟨_, List.getElem?_eq_getElem (by have := List.length_pos_iff.2 C.rates.1; omega)⟩
  rw [inR_at hr0, outR_at hr1] at hfit
  have hlen : IntKind.i64.wrap ((c.rates.length : Int) - 1) = ((c.rates.length - 1 : Nat) : Int) := by
    have := List.length_pos_iff.2 C.rates.1
    unfold maxLen at hc
    rw [wrap_of (by omega) (by omega)]; omega
  have hl0 : (0 ≤ ((c.rates.length - 1 : Nat) : Int)) = True := eq_true (Int.natCast_nonneg _)
  have hck := e_Check ⟨s.space, s.inn, s.out, s.lead, s.fuel, true, s.cons ++ [c]⟩ ⟨by have := hs.cons; simp; unfold maxLen at *; omega, fun x hx => by
    rcases List.mem_append.1 hx with h | h
    · exact hs.rates x h
    · rw [List.mem_singleton] at h; subst h; exact hc⟩
  rw [storeB_more true v3 v4 (by omega)] at hck
  obtain ⟨o, hs', hsl, nn, w, hq⟩ := e_SellV s hs [c] true v3 (by simp [v4]) (by simp) (fun x hx => by rw [List.mem_singleton] at hx; subst hx; exact hc)
  obtain ⟨hq1, rfl, rfl⟩ := hq _ rfl
  rw [sell_one v3 v4 (by omega)] at hq1 hsl
  simp only [slv_true, List.map_cons, List.map_nil] at hsl hck
  have hWd : IntKind.i64.wrap (c.fixed * IntKind.i64.wrap (IntKind.i64.wrap (c.hi - c.lo) + 1)) = worthW c := rfl
  have hp := hP F1 F2 r0 r1 hF1 hF2 hr0 hr1
  generalize worthW c = W at *
  have hft : fitsB s c = true := by rw [hfit]; simp [hp.1, hp.2.1, hp.2.2.1, hp.2.2.2]
  rw [hft] at hck hsl hq1
  have hrow : ∀ (d : Nat) (g : HF), omap (omap (immV (d + 2) g)) (s.cons.map BCon.cells ++ [c.cells]) = some (s.cons.map BCon.cells ++ [c.cells]) := fun d g => by
    have := cons_immV d g (s.cons ++ [c])
    simpa using this
  have hlvr : ∀ (b st : Nat) (w : Bool) (d : Nat) (g : HF) (r len : Nat), lvS b (some (.live st false w (s.cons.map BCon.cells ++ [c.cells]))) (lentV (d + 2) g) r len = [b] := fun b st w d g r len => by
    have := cons_lv b st w (s.cons ++ [c]) d g r len
    simpa using this
  have htk : (s.cons.map BCon.cells ++ [c.cells]).take (s.cons.length + 1) = s.cons.map BCon.cells ++ [c.cells] := List.take_of_length_le (by simp)
  have h39 : (s.cons.length + 1 ≤ 549755813888) = True := eq_true (by omega)
  have h9 := r_Same1 (l := [0]) (l' := [0]) (nn := true) (nn' := true) (by simp [maxLen]) (by simp [maxLen])
  rw [slv_true] at h9
  simp only [decide_true, List.map_cons, List.map_nil, iv] at h9
  by_cases hW : 0 < W
  · have hWz : (W == 0) = false := by simpa using (show W ≠ 0 by omega)
    have hWp : decide (0 < W) = true := decide_eq_true hW
    rw [hWp] at hsl hq1
    simp only [Bool.and_self, if_true] at hck hsl hq1
    simp only [bestV, bestH, List.map_cons, List.map_nil, iv] at hsl
    obtain rfl : nn = true := by
      cases nn
      · exact absurd (hq1 rfl) (by simp)
      · rfl
    by_cases hcs : s.cons = []
    · cases hnn : s.nn <;> (
        simp only [hcs, hnn, slv_nil, List.map_nil, List.nil_append, List.map_cons, List.length_nil, slv_true, bestV, bestH, cond_false, cond_true, BCon.cells] at h1 h2 hf h5 hck hsl hp ⊢
        (try simp only [hp.2.1] at h3 hck hsl)
        (refine ClQ.eq (stOf rfl Tryz.func13 rfl rfl ?_); simp only [Tryz.f13]; simp only [EVa.down, EVb.down, EVc.down, EVd.down, EVe.down, EVf.down, EVg.down, EVh.down, EVi.down, EVj.down, EVk.down, EVl.down, EVm.down, EVn.down, EVo.down, EVp.down, EVq.down, om_md, compO, evalO, evalOs, ofVal, ofLit, happ, happ1, setRow, setCells, bsK, oneA, Nat.reduceLT, Nat.reduceLeDiff, Nat.reduceEqDiff, Nat.reduceAdd, Nat.reduceSub, Nat.reducePow, Nat.reduceMul, ↓reduceIte, reduceCtorEq, decide_true, EVr.down, seP_some, Nat.reduceBEq, Bool.or_true, Bool.true_or, Bool.or_false, Bool.false_or, TY13.down, h1, h2, h3, hf, h4, h5, hk, hck, hsl, hr0, hr1, h9, hlen, BRate.cells, BCon.cells, hWd, List.length_map, List.length_nil, Int.natCast_zero, h39, i_eqself, Int.reduceBEq, bneq_tt, bneq_tf, bneq_ft, bneq_ff, hp.1, hp.2.1, hp.2.2.1, hp.2.2.2, Int.toNat_zero, Int.le_refl, Int.toNat_natCast, hl0, hWz, hWp, lvS_ff]; repeat' ((first | with_reducible refine fw_rc ?_ ?_ | with_reducible refine fw_cd ?_ ?_ | with_reducible refine fw_rq ?_ ?_ | with_reducible refine fw_rw ?_ ?_ | with_reducible refine fw_rl ?_ ?_ | (with_reducible refine fw_gdT ?_ ?_; kernel_rfl) | (with_reducible refine fw_dwT ?_ ?_ ?_; (first | exact fnE_none | exact fnS_none | exact rnd_none); decide +kernel) | (with_reducible refine fw_dnT ?_ ?_ ?_; (first | exact fnE_none | exact fnS_none | exact rnd_none); decide +kernel) | (with_reducible refine fw_dlT ?_ ?_ ?_; (first | exact fnE_none | exact fnS_none | exact rnd_none); decide +kernel)) <;> (intro hb; (try simp only [hb, EVa.down, EVb.down, EVc.down, EVd.down, EVe.down, EVf.down, EVg.down, EVh.down, EVi.down, EVj.down, EVk.down, EVl.down, EVm.down, EVn.down, EVo.down, EVp.down, EVq.down, om_md, compO, evalO, evalOs, ofVal, ofLit, happ, happ1, setRow, setCells, bsK, oneA, Nat.reduceLT, Nat.reduceLeDiff, Nat.reduceEqDiff, Nat.reduceAdd, Nat.reduceSub, Nat.reducePow, Nat.reduceMul, ↓reduceIte, reduceCtorEq, decide_true, EVr.down, seP_some, Nat.reduceBEq, Bool.or_true, Bool.true_or, Bool.or_false, Bool.false_or, TY13.down, h1, h2, h3, hf, h4, h5, hk, hck, hsl, hr0, hr1, h9, hlen, BRate.cells, BCon.cells, hWd, List.length_map, List.length_nil, Int.natCast_zero, h39, i_eqself, Int.reduceBEq, bneq_tt, bneq_tf, bneq_ft, bneq_ff, hp.1, hp.2.1, hp.2.2.1, hp.2.2.2, Int.toNat_zero, Int.le_refl, Int.toNat_natCast, hl0, hWz, hWp, lvS_ff]); try (revert hb; intro (_ : True))))))
    · have hne : s.cons.map BCon.cells ≠ [] := by simpa using hcs
      have hap0 := fun (h : Heap) => apK_ne (n := 11) (h := h) (nfl := false) hne (by simp; omega)
      simp only [slv_ne hne, List.map_append, List.map_cons, List.map_nil, slv_true, bestV, bestH, cond_false, cond_true] at h1 h2 hf h5 hck hsl ⊢
      simp only [BCon.cells] at hck hsl hrow hlvr htk
      (try simp only [hp.2.1] at h3 hck hsl hrow hlvr htk)
      (refine ClQ.eq (stOf rfl Tryz.func13 rfl rfl ?_); simp only [Tryz.f13]; simp only [EVa.down, EVb.down, EVc.down, EVd.down, EVe.down, EVf.down, EVg.down, EVh.down, EVi.down, EVj.down, EVk.down, EVl.down, EVm.down, EVn.down, EVo.down, EVp.down, EVq.down, om_md, compO, evalO, evalOs, ofVal, ofLit, happ, happ1, setRow, setCells, bsK, oneA, Nat.reduceLT, Nat.reduceLeDiff, Nat.reduceEqDiff, Nat.reduceAdd, Nat.reduceSub, Nat.reducePow, Nat.reduceMul, ↓reduceIte, reduceCtorEq, decide_true, EVr.down, seP_some, Nat.reduceBEq, Bool.or_true, Bool.true_or, Bool.or_false, Bool.false_or, TY13.down, h1, h2, h3, hf, h4, h5, hk, hck, hsl, hr0, hr1, h9, hlen, BRate.cells, BCon.cells, hWd, List.length_map, List.length_nil, Int.natCast_zero, h39, i_eqself, Int.reduceBEq, bneq_tt, bneq_tf, bneq_ft, bneq_ff, hp.1, hp.2.1, hp.2.2.1, hp.2.2.2, Int.toNat_zero, Int.le_refl, Int.toNat_natCast, hl0, hWz, hWp, hap0, hrow, hlvr, htk]; repeat' ((first | with_reducible refine fw_rc ?_ ?_ | with_reducible refine fw_cd ?_ ?_ | with_reducible refine fw_rq ?_ ?_ | with_reducible refine fw_rw ?_ ?_ | with_reducible refine fw_rl ?_ ?_ | (with_reducible refine fw_gdT ?_ ?_; kernel_rfl) | (with_reducible refine fw_dwT ?_ ?_ ?_; (first | exact fnE_none | exact fnS_none | exact rnd_none); decide +kernel) | (with_reducible refine fw_dnT ?_ ?_ ?_; (first | exact fnE_none | exact fnS_none | exact rnd_none); decide +kernel) | (with_reducible refine fw_dlT ?_ ?_ ?_; (first | exact fnE_none | exact fnS_none | exact rnd_none); decide +kernel)) <;> (intro hb; (try simp only [hb, EVa.down, EVb.down, EVc.down, EVd.down, EVe.down, EVf.down, EVg.down, EVh.down, EVi.down, EVj.down, EVk.down, EVl.down, EVm.down, EVn.down, EVo.down, EVp.down, EVq.down, om_md, compO, evalO, evalOs, ofVal, ofLit, happ, happ1, setRow, setCells, bsK, oneA, Nat.reduceLT, Nat.reduceLeDiff, Nat.reduceEqDiff, Nat.reduceAdd, Nat.reduceSub, Nat.reducePow, Nat.reduceMul, ↓reduceIte, reduceCtorEq, decide_true, EVr.down, seP_some, Nat.reduceBEq, Bool.or_true, Bool.true_or, Bool.or_false, Bool.false_or, TY13.down, h1, h2, h3, hf, h4, h5, hk, hck, hsl, hr0, hr1, h9, hlen, BRate.cells, BCon.cells, hWd, List.length_map, List.length_nil, Int.natCast_zero, h39, i_eqself, Int.reduceBEq, bneq_tt, bneq_tf, bneq_ft, bneq_ff, hp.1, hp.2.1, hp.2.2.1, hp.2.2.2, Int.toNat_zero, Int.le_refl, Int.toNat_natCast, hl0, hWz, hWp, hap0, hrow, hlvr, htk]); try (revert hb; intro (_ : True)))))
  · obtain rfl : W = 0 := by omega
    have hWz : ((0 : Int) == 0) = true := rfl
    have hWp : decide ((0 : Int) < 0) = false := rfl
    rw [hWp] at hsl hq1
    simp only [Bool.and_false, Bool.false_eq_true, if_true, if_false] at hck hsl hq1
    by_cases hcs : s.cons = [] <;> cases nn
    · cases hnn : s.nn <;> (
        simp only [hcs, hnn, slv_nil, List.map_nil, List.nil_append, List.map_cons, List.length_nil, slv_true, bestV, bestH, cond_false, cond_true, BCon.cells] at h1 h2 hf h5 hck hsl hp ⊢
        (try simp only [hp.2.1] at h3 hck hsl)
        (refine ClQ.eq (stOf rfl Tryz.func13 rfl rfl ?_); simp only [Tryz.f13]; simp only [EVa.down, EVb.down, EVc.down, EVd.down, EVe.down, EVf.down, EVg.down, EVh.down, EVi.down, EVj.down, EVk.down, EVl.down, EVm.down, EVn.down, EVo.down, EVp.down, EVq.down, om_md, compO, evalO, evalOs, ofVal, ofLit, happ, happ1, setRow, setCells, bsK, oneA, Nat.reduceLT, Nat.reduceLeDiff, Nat.reduceEqDiff, Nat.reduceAdd, Nat.reduceSub, Nat.reducePow, Nat.reduceMul, ↓reduceIte, reduceCtorEq, decide_true, EVr.down, seP_some, Nat.reduceBEq, Bool.or_true, Bool.true_or, Bool.or_false, Bool.false_or, TY13.down, h1, h2, h3, hf, h4, h5, hk, hck, hsl, hr0, hr1, h9, hlen, BRate.cells, BCon.cells, hWd, List.length_map, List.length_nil, Int.natCast_zero, h39, i_eqself, Int.reduceBEq, bneq_tt, bneq_tf, bneq_ft, bneq_ff, hp.1, hp.2.1, hp.2.2.1, hp.2.2.2, Int.toNat_zero, Int.le_refl, Int.toNat_natCast, hl0, hWz, hWp, lvS_ff]; repeat' ((first | with_reducible refine fw_rc ?_ ?_ | with_reducible refine fw_cd ?_ ?_ | with_reducible refine fw_rq ?_ ?_ | with_reducible refine fw_rw ?_ ?_ | with_reducible refine fw_rl ?_ ?_ | (with_reducible refine fw_gdT ?_ ?_; kernel_rfl) | (with_reducible refine fw_dwT ?_ ?_ ?_; (first | exact fnE_none | exact fnS_none | exact rnd_none); decide +kernel) | (with_reducible refine fw_dnT ?_ ?_ ?_; (first | exact fnE_none | exact fnS_none | exact rnd_none); decide +kernel) | (with_reducible refine fw_dlT ?_ ?_ ?_; (first | exact fnE_none | exact fnS_none | exact rnd_none); decide +kernel)) <;> (intro hb; (try simp only [hb, EVa.down, EVb.down, EVc.down, EVd.down, EVe.down, EVf.down, EVg.down, EVh.down, EVi.down, EVj.down, EVk.down, EVl.down, EVm.down, EVn.down, EVo.down, EVp.down, EVq.down, om_md, compO, evalO, evalOs, ofVal, ofLit, happ, happ1, setRow, setCells, bsK, oneA, Nat.reduceLT, Nat.reduceLeDiff, Nat.reduceEqDiff, Nat.reduceAdd, Nat.reduceSub, Nat.reducePow, Nat.reduceMul, ↓reduceIte, reduceCtorEq, decide_true, EVr.down, seP_some, Nat.reduceBEq, Bool.or_true, Bool.true_or, Bool.or_false, Bool.false_or, TY13.down, h1, h2, h3, hf, h4, h5, hk, hck, hsl, hr0, hr1, h9, hlen, BRate.cells, BCon.cells, hWd, List.length_map, List.length_nil, Int.natCast_zero, h39, i_eqself, Int.reduceBEq, bneq_tt, bneq_tf, bneq_ft, bneq_ff, hp.1, hp.2.1, hp.2.2.1, hp.2.2.2, Int.toNat_zero, Int.le_refl, Int.toNat_natCast, hl0, hWz, hWp, lvS_ff]); try (revert hb; intro (_ : True))))))
    · cases hnn : s.nn <;> (
        simp only [hcs, hnn, slv_nil, List.map_nil, List.nil_append, List.map_cons, List.length_nil, slv_true, bestV, bestH, cond_false, cond_true, BCon.cells] at h1 h2 hf h5 hck hsl hp ⊢
        (try simp only [hp.2.1] at h3 hck hsl)
        (refine ClQ.eq (stOf rfl Tryz.func13 rfl rfl ?_); simp only [Tryz.f13]; simp only [EVa.down, EVb.down, EVc.down, EVd.down, EVe.down, EVf.down, EVg.down, EVh.down, EVi.down, EVj.down, EVk.down, EVl.down, EVm.down, EVn.down, EVo.down, EVp.down, EVq.down, om_md, compO, evalO, evalOs, ofVal, ofLit, happ, happ1, setRow, setCells, bsK, oneA, Nat.reduceLT, Nat.reduceLeDiff, Nat.reduceEqDiff, Nat.reduceAdd, Nat.reduceSub, Nat.reducePow, Nat.reduceMul, ↓reduceIte, reduceCtorEq, decide_true, EVr.down, seP_some, Nat.reduceBEq, Bool.or_true, Bool.true_or, Bool.or_false, Bool.false_or, TY13.down, h1, h2, h3, hf, h4, h5, hk, hck, hsl, hr0, hr1, h9, hlen, BRate.cells, BCon.cells, hWd, List.length_map, List.length_nil, Int.natCast_zero, h39, i_eqself, Int.reduceBEq, bneq_tt, bneq_tf, bneq_ft, bneq_ff, hp.1, hp.2.1, hp.2.2.1, hp.2.2.2, Int.toNat_zero, Int.le_refl, Int.toNat_natCast, hl0, hWz, hWp, lvS_ff]; repeat' ((first | with_reducible refine fw_rc ?_ ?_ | with_reducible refine fw_cd ?_ ?_ | with_reducible refine fw_rq ?_ ?_ | with_reducible refine fw_rw ?_ ?_ | with_reducible refine fw_rl ?_ ?_ | (with_reducible refine fw_gdT ?_ ?_; kernel_rfl) | (with_reducible refine fw_dwT ?_ ?_ ?_; (first | exact fnE_none | exact fnS_none | exact rnd_none); decide +kernel) | (with_reducible refine fw_dnT ?_ ?_ ?_; (first | exact fnE_none | exact fnS_none | exact rnd_none); decide +kernel) | (with_reducible refine fw_dlT ?_ ?_ ?_; (first | exact fnE_none | exact fnS_none | exact rnd_none); decide +kernel)) <;> (intro hb; (try simp only [hb, EVa.down, EVb.down, EVc.down, EVd.down, EVe.down, EVf.down, EVg.down, EVh.down, EVi.down, EVj.down, EVk.down, EVl.down, EVm.down, EVn.down, EVo.down, EVp.down, EVq.down, om_md, compO, evalO, evalOs, ofVal, ofLit, happ, happ1, setRow, setCells, bsK, oneA, Nat.reduceLT, Nat.reduceLeDiff, Nat.reduceEqDiff, Nat.reduceAdd, Nat.reduceSub, Nat.reducePow, Nat.reduceMul, ↓reduceIte, reduceCtorEq, decide_true, EVr.down, seP_some, Nat.reduceBEq, Bool.or_true, Bool.true_or, Bool.or_false, Bool.false_or, TY13.down, h1, h2, h3, hf, h4, h5, hk, hck, hsl, hr0, hr1, h9, hlen, BRate.cells, BCon.cells, hWd, List.length_map, List.length_nil, Int.natCast_zero, h39, i_eqself, Int.reduceBEq, bneq_tt, bneq_tf, bneq_ft, bneq_ff, hp.1, hp.2.1, hp.2.2.1, hp.2.2.2, Int.toNat_zero, Int.le_refl, Int.toNat_natCast, hl0, hWz, hWp, lvS_ff]); try (revert hb; intro (_ : True))))))
    · have hne : s.cons.map BCon.cells ≠ [] := by simpa using hcs
      have hap0 := fun (h : Heap) => apK_ne (n := 11) (h := h) (nfl := false) hne (by simp; omega)
      simp only [slv_ne hne, List.map_append, List.map_cons, List.map_nil, slv_true, bestV, bestH, cond_false, cond_true] at h1 h2 hf h5 hck hsl ⊢
      simp only [BCon.cells] at hck hsl hrow hlvr htk
      (try simp only [hp.2.1] at h3 hck hsl hrow hlvr htk)
      (refine ClQ.eq (stOf rfl Tryz.func13 rfl rfl ?_); simp only [Tryz.f13]; simp only [EVa.down, EVb.down, EVc.down, EVd.down, EVe.down, EVf.down, EVg.down, EVh.down, EVi.down, EVj.down, EVk.down, EVl.down, EVm.down, EVn.down, EVo.down, EVp.down, EVq.down, om_md, compO, evalO, evalOs, ofVal, ofLit, happ, happ1, setRow, setCells, bsK, oneA, Nat.reduceLT, Nat.reduceLeDiff, Nat.reduceEqDiff, Nat.reduceAdd, Nat.reduceSub, Nat.reducePow, Nat.reduceMul, ↓reduceIte, reduceCtorEq, decide_true, EVr.down, seP_some, Nat.reduceBEq, Bool.or_true, Bool.true_or, Bool.or_false, Bool.false_or, TY13.down, h1, h2, h3, hf, h4, h5, hk, hck, hsl, hr0, hr1, h9, hlen, BRate.cells, BCon.cells, hWd, List.length_map, List.length_nil, Int.natCast_zero, h39, i_eqself, Int.reduceBEq, bneq_tt, bneq_tf, bneq_ft, bneq_ff, hp.1, hp.2.1, hp.2.2.1, hp.2.2.2, Int.toNat_zero, Int.le_refl, Int.toNat_natCast, hl0, hWz, hWp, hap0, hrow, hlvr, htk]; repeat' ((first | with_reducible refine fw_rc ?_ ?_ | with_reducible refine fw_cd ?_ ?_ | with_reducible refine fw_rq ?_ ?_ | with_reducible refine fw_rw ?_ ?_ | with_reducible refine fw_rl ?_ ?_ | (with_reducible refine fw_gdT ?_ ?_; kernel_rfl) | (with_reducible refine fw_dwT ?_ ?_ ?_; (first | exact fnE_none | exact fnS_none | exact rnd_none); decide +kernel) | (with_reducible refine fw_dnT ?_ ?_ ?_; (first | exact fnE_none | exact fnS_none | exact rnd_none); decide +kernel) | (with_reducible refine fw_dlT ?_ ?_ ?_; (first | exact fnE_none | exact fnS_none | exact rnd_none); decide +kernel)) <;> (intro hb; (try simp only [hb, EVa.down, EVb.down, EVc.down, EVd.down, EVe.down, EVf.down, EVg.down, EVh.down, EVi.down, EVj.down, EVk.down, EVl.down, EVm.down, EVn.down, EVo.down, EVp.down, EVq.down, om_md, compO, evalO, evalOs, ofVal, ofLit, happ, happ1, setRow, setCells, bsK, oneA, Nat.reduceLT, Nat.reduceLeDiff, Nat.reduceEqDiff, Nat.reduceAdd, Nat.reduceSub, Nat.reducePow, Nat.reduceMul, ↓reduceIte, reduceCtorEq, decide_true, EVr.down, seP_some, Nat.reduceBEq, Bool.or_true, Bool.true_or, Bool.or_false, Bool.false_or, TY13.down, h1, h2, h3, hf, h4, h5, hk, hck, hsl, hr0, hr1, h9, hlen, BRate.cells, BCon.cells, hWd, List.length_map, List.length_nil, Int.natCast_zero, h39, i_eqself, Int.reduceBEq, bneq_tt, bneq_tf, bneq_ft, bneq_ff, hp.1, hp.2.1, hp.2.2.1, hp.2.2.2, Int.toNat_zero, Int.le_refl, Int.toNat_natCast, hl0, hWz, hWp, hap0, hrow, hlvr, htk]); try (revert hb; intro (_ : True)))))
    · have hne : s.cons.map BCon.cells ≠ [] := by simpa using hcs
      have hap0 := fun (h : Heap) => apK_ne (n := 11) (h := h) (nfl := false) hne (by simp; omega)
      simp only [slv_ne hne, List.map_append, List.map_cons, List.map_nil, slv_true, bestV, bestH, cond_false, cond_true] at h1 h2 hf h5 hck hsl ⊢
      simp only [BCon.cells] at hck hsl hrow hlvr htk
      (try simp only [hp.2.1] at h3 hck hsl hrow hlvr htk)
      (refine ClQ.eq (stOf rfl Tryz.func13 rfl rfl ?_); simp only [Tryz.f13]; simp only [EVa.down, EVb.down, EVc.down, EVd.down, EVe.down, EVf.down, EVg.down, EVh.down, EVi.down, EVj.down, EVk.down, EVl.down, EVm.down, EVn.down, EVo.down, EVp.down, EVq.down, om_md, compO, evalO, evalOs, ofVal, ofLit, happ, happ1, setRow, setCells, bsK, oneA, Nat.reduceLT, Nat.reduceLeDiff, Nat.reduceEqDiff, Nat.reduceAdd, Nat.reduceSub, Nat.reducePow, Nat.reduceMul, ↓reduceIte, reduceCtorEq, decide_true, EVr.down, seP_some, Nat.reduceBEq, Bool.or_true, Bool.true_or, Bool.or_false, Bool.false_or, TY13.down, h1, h2, h3, hf, h4, h5, hk, hck, hsl, hr0, hr1, h9, hlen, BRate.cells, BCon.cells, hWd, List.length_map, List.length_nil, Int.natCast_zero, h39, i_eqself, Int.reduceBEq, bneq_tt, bneq_tf, bneq_ft, bneq_ff, hp.1, hp.2.1, hp.2.2.1, hp.2.2.2, Int.toNat_zero, Int.le_refl, Int.toNat_natCast, hl0, hWz, hWp, hap0, hrow, hlvr, htk]; repeat' ((first | with_reducible refine fw_rc ?_ ?_ | with_reducible refine fw_cd ?_ ?_ | with_reducible refine fw_rq ?_ ?_ | with_reducible refine fw_rw ?_ ?_ | with_reducible refine fw_rl ?_ ?_ | (with_reducible refine fw_gdT ?_ ?_; kernel_rfl) | (with_reducible refine fw_dwT ?_ ?_ ?_; (first | exact fnE_none | exact fnS_none | exact rnd_none); decide +kernel) | (with_reducible refine fw_dnT ?_ ?_ ?_; (first | exact fnE_none | exact fnS_none | exact rnd_none); decide +kernel) | (with_reducible refine fw_dlT ?_ ?_ ?_; (first | exact fnE_none | exact fnS_none | exact rnd_none); decide +kernel)) <;> (intro hb; (try simp only [hb, EVa.down, EVb.down, EVc.down, EVd.down, EVe.down, EVf.down, EVg.down, EVh.down, EVi.down, EVj.down, EVk.down, EVl.down, EVm.down, EVn.down, EVo.down, EVp.down, EVq.down, om_md, compO, evalO, evalOs, ofVal, ofLit, happ, happ1, setRow, setCells, bsK, oneA, Nat.reduceLT, Nat.reduceLeDiff, Nat.reduceEqDiff, Nat.reduceAdd, Nat.reduceSub, Nat.reducePow, Nat.reduceMul, ↓reduceIte, reduceCtorEq, decide_true, EVr.down, seP_some, Nat.reduceBEq, Bool.or_true, Bool.true_or, Bool.or_false, Bool.false_or, TY13.down, h1, h2, h3, hf, h4, h5, hk, hck, hsl, hr0, hr1, h9, hlen, BRate.cells, BCon.cells, hWd, List.length_map, List.length_nil, Int.natCast_zero, h39, i_eqself, Int.reduceBEq, bneq_tt, bneq_tf, bneq_ft, bneq_ff, hp.1, hp.2.1, hp.2.2.1, hp.2.2.2, Int.toNat_zero, Int.le_refl, Int.toNat_natCast, hl0, hWz, hWp, hap0, hrow, hlvr, htk]); try (revert hb; intro (_ : True)))))
end Go.Proofs.YtdbiogihimdpcaaGreatDoor
