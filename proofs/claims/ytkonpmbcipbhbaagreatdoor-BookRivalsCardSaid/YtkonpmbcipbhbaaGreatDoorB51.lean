/- Layer 6: the best sale. -/
import Derived.Test.YtkonpmbcipbhbaaGreatDoorB50
set_option linter.unusedSimpArgs false
set_option linter.unusedVariables false
namespace Go.Proofs.YtkonpmbcipbhbaaGreatDoor
open Go.Ev Go
set_option maxRecDepth 100000
set_option maxHeartbeats 1000000
def worthW (c : BCon) : Int := IntKind.i64.wrap (c.fixed * IntKind.i64.wrap (IntKind.i64.wrap (c.hi - c.lo) + 1))
/-- The offers that bits choose: which, what they are worth, and all contracts with them. -/
def pickF (bits : Int) : List BCon → Nat → List Int × Int × List BCon → List Int × Int × List BCon
  | [], _, a => a
  | c :: rest, i, (l, w, cs) => if (and1 (shrN bits i) == 1) = true then pickF bits rest (i + 1) (l ++ [(i : Int)], IntKind.i64.wrap (w + worthW c), cs ++ [c]) else pickF bits rest (i + 1) (l, w, cs)
theorem cells_immV (d : Nat) (g : HF) (c : BCon) : ∀ x ∈ c.cells, immV (d + 2) g x = some x := by
  intro x hx
  simp only [BCon.cells, List.mem_cons, List.not_mem_nil, or_false] at hx
  have hs : ∀ n fl nn rows, immV (d + 2) g (slv n fl nn rows) = some (slv n fl nn rows) := fun n fl nn rows => by
    cases rows with
    | nil => cases nn <;> rfl
    | cons r rs => rfl
  rcases hx with rfl | rfl | rfl | rfl | rfl | rfl | rfl | rfl | rfl | rfl | rfl <;> first | rfl | exact hs _ _ _ _
theorem cons_immV (d : Nat) (g : HF) (l : List BCon) : omap (omap (immV (d + 2) g)) (l.map BCon.cells) = some (l.map BCon.cells) :=
  omap_id fun r hr => omap_id fun x hx => by
    obtain ⟨c, _, rfl⟩ := List.mem_map.1 hr
    exact cells_immV d g c x hx
theorem cons_lv (b st : Nat) (w : Bool) (l : List BCon) (d : Nat) (g : HF) (r len : Nat) : lvS b (some (.live st false w (l.map BCon.cells))) (lentV (d + 2) g) r len = [b] := lvS_lf _ _ _ _ _ _ _ fun cs hc x hx => by
  obtain ⟨c, _, rfl⟩ := List.mem_map.1 hc
  simp only [BCon.cells, List.mem_cons, List.not_mem_nil, or_false] at hx
  rcases hx with rfl | rfl | rfl | rfl | rfl | rfl | rfl | rfl | rfl | rfl | rfl <;> first | rfl | exact lv_slv _ _ _ _ _ _
theorem cells_pure (c : BCon) : c.cells.all (pureV 8) = true := by
  simp [BCon.cells, slv_pure, pv_bool, pv_int]
theorem refL_pure (m : List Nat) : ∀ {l : List AV}, l.all (pureV 8) = true → refV.refL (refV 8) m l = some (l, m)
  | [], _ => rfl
  | v :: l, h => by
    simp only [List.all_cons, Bool.and_eq_true] at h
    rw [rfL_cons, refV_pure m h.1, rfC_some, refL_pure m h.2, rfD_some]
theorem cells_ref (m : List Nat) (c : BCon) : refV.refL (refV 8) m c.cells = some (c.cells, m) := refL_pure m (cells_pure c)
theorem cons_ref (m : List Nat) : ∀ l : List BCon, refRows m (l.map BCon.cells) = some (l.map BCon.cells, m)
  | [] => rfl
  | c :: l => by simp only [List.map_cons, rr_cons, cells_ref, rrC_some, cons_ref m l, rrD_some]
theorem cells_ren (f : Nat → Nat) (c : BCon) : omap (renV 8 f) c.cells = some c.cells := omap_id fun x hx => renV_pure f (List.all_eq_true.1 (cells_pure c) x hx)
theorem cons_ren (f : Nat → Nat) (l : List BCon) : omap (omap (renV 8 f)) (l.map BCon.cells) = some (l.map BCon.cells) := omap_id fun r hr => by
  obtain ⟨c, _, rfl⟩ := List.mem_map.1 hr
  exact cells_ren f c
theorem e_cloneCon {l : List BCon} {nn : Bool} (hl : l.length ≤ 1000) (hne : ¬ (l = [] ∧ nn = false)) : om'.call (.fn 28) [slv 11 false nn (l.map BCon.cells)] [] = some (.ret (.slr 11 0 0 l.length), [.live 11 false false (l.map BCon.cells)]) := by
  cases l with
  | nil =>
    cases nn with
    | false => exact (hne ⟨rfl, rfl⟩).elim
    | true =>
      (refine ClQ.eq (stOf rfl Tryz.func28 rfl rfl ?_); simp only [Tryz.f28]; simp only [EVa.down, EVb.down, EVc.down, EVd.down, EVe.down, EVf.down, EVg.down, EVh.down, EVi.down, EVj.down, EVk.down, EVl.down, EVm.down, EVn.down, EVo.down, EVp.down, EVq.down, om_md, compO, evalO, evalOs, ofVal, ofLit, happ, happ1, setRow, setCells, bsK, oneA, Nat.reduceLT, Nat.reduceLeDiff, Nat.reduceEqDiff, Nat.reduceAdd, Nat.reduceSub, Nat.reducePow, Nat.reduceMul, ↓reduceIte, reduceCtorEq, decide_true, EVr.down, seP_some, Nat.reduceBEq, Bool.or_true, Bool.true_or, Bool.or_false, Bool.false_or, TY28.down, List.map_nil, slv_true]; repeat' ((first | with_reducible refine fw_rc ?_ ?_ | with_reducible refine fw_cd ?_ ?_ | with_reducible refine fw_rq ?_ ?_ | with_reducible refine fw_rw ?_ ?_ | with_reducible refine fw_rl ?_ ?_ | (with_reducible refine fw_gdT ?_ ?_; kernel_rfl) | (with_reducible refine fw_dwT ?_ ?_ ?_; (first | exact fnE_none | exact fnS_none | exact rnd_none); decide +kernel) | (with_reducible refine fw_dnT ?_ ?_ ?_; (first | exact fnE_none | exact fnS_none | exact rnd_none); decide +kernel) | (with_reducible refine fw_dlT ?_ ?_ ?_; (first | exact fnE_none | exact fnS_none | exact rnd_none); decide +kernel)) <;> (intro hb; (try simp only [hb, EVa.down, EVb.down, EVc.down, EVd.down, EVe.down, EVf.down, EVg.down, EVh.down, EVi.down, EVj.down, EVk.down, EVl.down, EVm.down, EVn.down, EVo.down, EVp.down, EVq.down, om_md, compO, evalO, evalOs, ofVal, ofLit, happ, happ1, setRow, setCells, bsK, oneA, Nat.reduceLT, Nat.reduceLeDiff, Nat.reduceEqDiff, Nat.reduceAdd, Nat.reduceSub, Nat.reducePow, Nat.reduceMul, ↓reduceIte, reduceCtorEq, decide_true, EVr.down, seP_some, Nat.reduceBEq, Bool.or_true, Bool.true_or, Bool.or_false, Bool.false_or, TY28.down, List.map_nil, slv_true]); try (revert hb; intro (_ : True)))))
  | cons x l =>
    have h39 : (l.length + 1 ≤ 549755813888) = True := eq_true (by simp at hl; omega)
    (refine ClQ.eq (stOf rfl Tryz.func28 rfl rfl ?_); simp only [Tryz.f28]; simp only [EVa.down, EVb.down, EVc.down, EVd.down, EVe.down, EVf.down, EVg.down, EVh.down, EVi.down, EVj.down, EVk.down, EVl.down, EVm.down, EVn.down, EVo.down, EVp.down, EVq.down, om_md, compO, evalO, evalOs, ofVal, ofLit, happ, happ1, setRow, setCells, bsK, oneA, Nat.reduceLT, Nat.reduceLeDiff, Nat.reduceEqDiff, Nat.reduceAdd, Nat.reduceSub, Nat.reducePow, Nat.reduceMul, ↓reduceIte, reduceCtorEq, decide_true, EVr.down, seP_some, Nat.reduceBEq, Bool.or_true, Bool.true_or, Bool.or_false, Bool.false_or, TY28.down, List.length_map, h39, cells_ref, cons_ref]; repeat' ((first | with_reducible refine fw_rc ?_ ?_ | with_reducible refine fw_cd ?_ ?_ | with_reducible refine fw_rq ?_ ?_ | with_reducible refine fw_rw ?_ ?_ | with_reducible refine fw_rl ?_ ?_ | (with_reducible refine fw_gdT ?_ ?_; kernel_rfl) | (with_reducible refine fw_dwT ?_ ?_ ?_; (first | exact fnE_none | exact fnS_none | exact rnd_none); decide +kernel) | (with_reducible refine fw_dnT ?_ ?_ ?_; (first | exact fnE_none | exact fnS_none | exact rnd_none); decide +kernel) | (with_reducible refine fw_dlT ?_ ?_ ?_; (first | exact fnE_none | exact fnS_none | exact rnd_none); decide +kernel)) <;> (intro hb; (try simp only [hb, EVa.down, EVb.down, EVc.down, EVd.down, EVe.down, EVf.down, EVg.down, EVh.down, EVi.down, EVj.down, EVk.down, EVl.down, EVm.down, EVn.down, EVo.down, EVp.down, EVq.down, om_md, compO, evalO, evalOs, ofVal, ofLit, happ, happ1, setRow, setCells, bsK, oneA, Nat.reduceLT, Nat.reduceLeDiff, Nat.reduceEqDiff, Nat.reduceAdd, Nat.reduceSub, Nat.reducePow, Nat.reduceMul, ↓reduceIte, reduceCtorEq, decide_true, EVr.down, seP_some, Nat.reduceBEq, Bool.or_true, Bool.true_or, Bool.or_false, Bool.false_or, TY28.down, List.length_map, h39, cells_ref, cons_ref]); try (revert hb; intro (_ : True)))))
theorem e_cloneConN : om'.call (.fn 28) [slv 11 false false []] [] = some (.ret .nils, []) := by
  (refine ClQ.eq (stOf rfl Tryz.func28 rfl rfl ?_); simp only [Tryz.f28]; simp only [EVa.down, EVb.down, EVc.down, EVd.down, EVe.down, EVf.down, EVg.down, EVh.down, EVi.down, EVj.down, EVk.down, EVl.down, EVm.down, EVn.down, EVo.down, EVp.down, EVq.down, om_md, compO, evalO, evalOs, ofVal, ofLit, happ, happ1, setRow, setCells, bsK, oneA, Nat.reduceLT, Nat.reduceLeDiff, Nat.reduceEqDiff, Nat.reduceAdd, Nat.reduceSub, Nat.reducePow, Nat.reduceMul, ↓reduceIte, reduceCtorEq, decide_true, EVr.down, seP_some, Nat.reduceBEq, Bool.or_true, Bool.true_or, Bool.or_false, Bool.false_or, TY28.down, slv_nil]; repeat' ((first | with_reducible refine fw_rc ?_ ?_ | with_reducible refine fw_cd ?_ ?_ | with_reducible refine fw_rq ?_ ?_ | with_reducible refine fw_rw ?_ ?_ | with_reducible refine fw_rl ?_ ?_ | (with_reducible refine fw_gdT ?_ ?_; kernel_rfl) | (with_reducible refine fw_dwT ?_ ?_ ?_; (first | exact fnE_none | exact fnS_none | exact rnd_none); decide +kernel) | (with_reducible refine fw_dnT ?_ ?_ ?_; (first | exact fnE_none | exact fnS_none | exact rnd_none); decide +kernel) | (with_reducible refine fw_dlT ?_ ?_ ?_; (first | exact fnE_none | exact fnS_none | exact rnd_none); decide +kernel)) <;> (intro hb; (try simp only [hb, EVa.down, EVb.down, EVc.down, EVd.down, EVe.down, EVf.down, EVg.down, EVh.down, EVi.down, EVj.down, EVk.down, EVl.down, EVm.down, EVn.down, EVo.down, EVp.down, EVq.down, om_md, compO, evalO, evalOs, ofVal, ofLit, happ, happ1, setRow, setCells, bsK, oneA, Nat.reduceLT, Nat.reduceLeDiff, Nat.reduceEqDiff, Nat.reduceAdd, Nat.reduceSub, Nat.reducePow, Nat.reduceMul, ↓reduceIte, reduceCtorEq, decide_true, EVr.down, seP_some, Nat.reduceBEq, Bool.or_true, Bool.true_or, Bool.or_false, Bool.false_or, TY28.down, slv_nil]); try (revert hb; intro (_ : True)))))
theorem e_Sell1 (c : BCon) (hl : c.rates.length ≤ maxLen) : om'.call (.fn 26) [.agg [.bool c.firm, .int .i64 c.space, .int .i64 c.lo, .int .i64 c.hi, slv 3 true c.nn (c.rates.map BRate.cells), .int .i64 c.gas, .int .i64 c.fixed, .int .i64 c.inn, .int .i64 c.out, .int .i64 c.cut, .int .i64 c.lack]] [] = some (.ret (.bool (!conB c)), []) := by
  (refine ClQ.eq (stOf rfl Tryz.func26 rfl rfl ?_); simp only [Tryz.f26]; simp only [EVa.down, EVb.down, EVc.down, EVd.down, EVe.down, EVf.down, EVg.down, EVh.down, EVi.down, EVj.down, EVk.down, EVl.down, EVm.down, EVn.down, EVo.down, EVp.down, EVq.down, om_md, compO, evalO, evalOs, ofVal, ofLit, happ, happ1, setRow, setCells, bsK, oneA, Nat.reduceLT, Nat.reduceLeDiff, Nat.reduceEqDiff, Nat.reduceAdd, Nat.reduceSub, Nat.reducePow, Nat.reduceMul, ↓reduceIte, reduceCtorEq, decide_true, EVr.down, seP_some, Nat.reduceBEq, Bool.or_true, Bool.true_or, Bool.or_false, Bool.false_or, TY26.down, e_contract c hl]; repeat' ((first | with_reducible refine fw_rc ?_ ?_ | with_reducible refine fw_cd ?_ ?_ | with_reducible refine fw_rq ?_ ?_ | with_reducible refine fw_rw ?_ ?_ | with_reducible refine fw_rl ?_ ?_ | (with_reducible refine fw_gdT ?_ ?_; kernel_rfl) | (with_reducible refine fw_dwT ?_ ?_ ?_; (first | exact fnE_none | exact fnS_none | exact rnd_none); decide +kernel) | (with_reducible refine fw_dnT ?_ ?_ ?_; (first | exact fnE_none | exact fnS_none | exact rnd_none); decide +kernel) | (with_reducible refine fw_dlT ?_ ?_ ?_; (first | exact fnE_none | exact fnS_none | exact rnd_none); decide +kernel)) <;> (intro hb; (try simp only [hb, EVa.down, EVb.down, EVc.down, EVd.down, EVe.down, EVf.down, EVg.down, EVh.down, EVi.down, EVj.down, EVk.down, EVl.down, EVm.down, EVn.down, EVo.down, EVp.down, EVq.down, om_md, compO, evalO, evalOs, ofVal, ofLit, happ, happ1, setRow, setCells, bsK, oneA, Nat.reduceLT, Nat.reduceLeDiff, Nat.reduceEqDiff, Nat.reduceAdd, Nat.reduceSub, Nat.reducePow, Nat.reduceMul, ↓reduceIte, reduceCtorEq, decide_true, EVr.down, seP_some, Nat.reduceBEq, Bool.or_true, Bool.true_or, Bool.or_false, Bool.false_or, TY26.down, e_contract c hl]); try (revert hb; intro (_ : True)))))
/-- Behind the bits of one sale: what is best so far, and what it is worth. -/
def sell1 (s : BStore) (off : List BCon) (bits : Int) (b : List Int × Int) : List Int × Int :=
  match pickF bits off 0 ([], 0, s.cons) with
  | (l, w, cs) => if (decide (w < b.2) || ((w == b.2) && decide (0 ≤ cmpF l b.1)) || decide (8 < (cs.length : Int)) || !onceB s cs) = true then b else (l, w)
def sellF (s : BStore) (off : List BCon) : List Nat → List Int × Int → List Int × Int
  | [], b => b
  | k :: rest, b => sellF s off rest (sell1 s off k b)
theorem pick_length (bits : Int) : ∀ (off : List BCon) (i : Nat) (a : List Int × Int × List BCon), (pickF bits off i a).1.length ≤ a.1.length + off.length ∧ (pickF bits off i a).2.2.length ≤ a.2.2.length + off.length
  | [], _, _ => by simp [pickF]
  | c :: rest, i, (l, w, cs) => by
    unfold pickF
    split
    · have := pick_length bits rest (i + 1) (l ++ [(i : Int)], IntKind.i64.wrap (w + worthW c), cs ++ [c]); simp at this ⊢; omega
    · have := pick_length bits rest (i + 1) (l, w, cs); simp at this ⊢; omega
theorem pick_mem (bits : Int) : ∀ (off : List BCon) (i : Nat) (a : List Int × Int × List BCon) (c : BCon), c ∈ (pickF bits off i a).2.2 → c ∈ a.2.2 ∨ c ∈ off
  | [], _, _, c, h => .inl h
  | x :: rest, i, (l, w, cs), c, h => by
    unfold pickF at h
    split at h
    · rcases pick_mem bits rest (i + 1) _ c h with h | h
      · simp at h; rcases h with h | h
        · exact .inl h
        · exact .inr (by simp [h])
      · exact .inr (List.mem_cons_of_mem _ h)
    · rcases pick_mem bits rest (i + 1) _ c h with h | h
      · exact .inl h
      · exact .inr (List.mem_cons_of_mem _ h)
theorem storeB_len' {s : BStore} (h : storeB s = true) : s.cons.length ≤ 8 := by
  simp only [storeB, Bool.and_eq_true, decide_eq_true_eq] at h
  omega
end Go.Proofs.YtkonpmbcipbhbaaGreatDoor
