/- Layer 6: what is granted, by the reference. -/
import Derived.Test.YtdbiogihimdpcaaGreatDoorB17
set_option linter.unusedSimpArgs false
set_option linter.unusedVariables false
namespace Go.Proofs.YtdbiogihimdpcaaGreatDoor
open Go.Ev Go
set_option maxRecDepth 100000
set_option maxHeartbeats 1000000
def othR (c : BCon) (w : Int) : Int := if c.firm = true then 0 else w
def ozR (cs : List BCon) (l : List Int) : List Int := List.zipWith othR cs l
def grantR (cs : List BCon) (l : List Int) (most : Int) : List Int :=
  if sumF l 0 ≤ most then l else if most < sumF (fzL cs l) 0 then shareF most (sumF (fzL cs l) 0) (fzL cs l) 0 0
  else List.zipWith addW (shareF (IntKind.i64.wrap (most - sumF (fzL cs l) 0)) (sumF (ozR cs l) 0) (ozR cs l) 0 0) (fzL cs l)
theorem grantL_length {cs : List BCon} {l : List Int} (h : l.length = cs.length) (most : Int) : (grantL cs l most).length = l.length := by
  unfold grantL
  split
  · rfl
  · split
    · simp [shareF_length, fzL, h]
    · simp [shareF_length, fzL, ozL, h]
theorem grantR_length {cs : List BCon} {l : List Int} (h : l.length = cs.length) (most : Int) : (grantR cs l most).length = l.length := by
  unfold grantR
  split
  · rfl
  · split
    · simp [shareF_length, fzL, h]
    · simp [shareF_length, fzL, ozR, h]
theorem r_grant1 {s : BStore} {l : List Int} {nn : Bool} {most : Int} (hl : l.length ≤ maxLen) (hq : sumF l 0 ≤ most) : om'.call (.fn 58) [.agg [.int .i64 s.space, .int .i64 s.inn, .int .i64 s.out, .int .i64 s.lead, .int .i64 s.fuel, slv 11 false s.nn (s.cons.map BCon.cells)], slv 1 true nn (l.map iv), .int .i64 most] [] = some (.ret (slv 1 true nn (l.map iv)), []) := by
  have hsum := r_Sum (nn := nn) hl
  have hb : decide (sumF l 0 ≤ most) = true := by simpa using hq
  (refine ClQ.eq (stOf rfl Tryz.func58 rfl rfl ?_); simp only [Tryz.f58]; simp only [EVa.down, EVb.down, EVc.down, EVd.down, EVe.down, EVf.down, EVg.down, EVh.down, EVi.down, EVj.down, EVk.down, EVl.down, EVm.down, EVn.down, compO, evalO, evalOs, ofVal, ofLit, happ, happ1, setRow, setCells, bsK, oneA, Nat.reduceLT, Nat.reduceLeDiff, Nat.reduceEqDiff, Nat.reduceAdd, Nat.reduceSub, Nat.reducePow, Nat.reduceMul, ↓reduceIte, reduceCtorEq, decide_true, TY58.down, hsum, hb]; repeat' ((first | with_reducible refine fw_rc ?_ ?_ | with_reducible refine fw_cd ?_ ?_ | with_reducible refine fw_rq ?_ ?_ | with_reducible refine fw_rw ?_ ?_ | with_reducible refine fw_rl ?_ ?_ | (with_reducible refine fw_gdT ?_ ?_; kernel_rfl) | (with_reducible refine fw_dwT ?_ ?_ ?_; (first | exact fnE_none | exact rnd_none); decide +kernel) | (with_reducible refine fw_dnT ?_ ?_ ?_; (first | exact fnE_none | exact rnd_none); decide +kernel) | (with_reducible refine fw_dlT ?_ ?_ ?_; (first | exact fnE_none | exact rnd_none); decide +kernel)) <;> (intro hb; (try simp only [hb, EVa.down, EVb.down, EVc.down, EVd.down, EVe.down, EVf.down, EVg.down, EVh.down, EVi.down, EVj.down, EVk.down, EVl.down, EVm.down, EVn.down, compO, evalO, evalOs, ofVal, ofLit, happ, happ1, setRow, setCells, bsK, oneA, Nat.reduceLT, Nat.reduceLeDiff, Nat.reduceEqDiff, Nat.reduceAdd, Nat.reduceSub, Nat.reducePow, Nat.reduceMul, ↓reduceIte, reduceCtorEq, decide_true, TY58.down, hsum, hb]); try (revert hb; intro (_ : True)))))
theorem take_set {fz : List Int} {n i : Nat} {y : Int} (hy : fz[i]? = some y) (hi : i < n) : ((fz.take i ++ List.replicate (n - i) 0).map iv).set i [.int .i64 y] = (fz.take (i + 1) ++ List.replicate (n - (i + 1)) 0).map iv := by
  have hlt : i < fz.length := (List.getElem?_eq_some_iff.1 hy).1
  rw [set_rep (by simp; omega) hi, List.take_add_one, hy]
  simp
theorem take_zero {fz : List Int} {n i : Nat} (hy : fz[i]? = some 0) (hi : i < n) : fz.take i ++ List.replicate (n - i) 0 = fz.take (i + 1) ++ List.replicate (n - (i + 1)) 0 := by
  rw [List.take_add_one, hy, show n - i = (n - (i + 1)) + 1 by omega, List.replicate_succ]
  simp
theorem r_grant2 {s : BStore} {l : List Int} {nn : Bool} {most : Int} (hcl : l.length = s.cons.length) (hl : l.length ≤ 1000) (hne : l ≠ []) (hq : ¬ sumF l 0 ≤ most) : ∃ w, om'.call (.fn 58) [.agg [.int .i64 s.space, .int .i64 s.inn, .int .i64 s.out, .int .i64 s.lead, .int .i64 s.fuel, slv 11 false s.nn (s.cons.map BCon.cells)], slv 1 true nn (l.map iv), .int .i64 most] [] = some (.ret (.slr 1 0 0 l.length), [.live 1 true w ((grantR s.cons l most).map iv)]) := by
  refine ⟨if most < sumF (fzL s.cons l) 0 then false else true, ?_⟩
  have hl' : l.length ≤ maxLen := by unfold maxLen; omega
  have hsum := r_Sum (nn := nn) hl'
  have hb : decide (sumF l 0 ≤ most) = false := by simpa using hq
  have h40 : ((l.length : Int) ≤ 1099511627776) = True := eq_true (by omega)
  have hfl : (fzL s.cons l).length = l.length := by simp [fzL, hcl]
  have hol : (ozR s.cons l).length = l.length := by simp [ozR, hcl]
  have hfne : fzL s.cons l ≠ [] := fun e => hne (List.length_eq_zero_iff.1 (by rw [← hfl, e]; rfl))
  have hone : ozR s.cons l ≠ [] := fun e => hne (List.length_eq_zero_iff.1 (by rw [← hol, e]; rfl))
  have hs1 := r_Sum (l := fzL s.cons l) (nn := true) (by omega)
  rw [slv_true] at hs1
  have hsh1 := r_Share' most (fzL s.cons l) true (by omega) _ _ (fun e => (hfne e).elim) (fun _ => rfl)
  have hsh2 := r_Share' (IntKind.i64.wrap (most - sumF (fzL s.cons l) 0)) (ozR s.cons l) true (by omega) _ _ (fun e => (hone e).elim) (fun _ => rfl)
  rw [slv_true, hfl] at hsh1
  rw [slv_true, hol] at hsh2
  have htk1 : ((fzL s.cons l).map iv).take l.length = (fzL s.cons l).map iv := List.take_of_length_le (by simp [hfl])
  have htk2 : ((ozR s.cons l).map iv).take l.length = (ozR s.cons l).map iv := List.take_of_length_le (by simp [hol])
  (refine ClQ.eq (stOf rfl Tryz.func58 rfl rfl ?_); simp only [Tryz.f58]; simp only [EVa.down, EVb.down, EVc.down, EVd.down, EVe.down, EVf.down, EVg.down, EVh.down, EVi.down, EVj.down, EVk.down, EVl.down, EVm.down, EVn.down, compO, evalO, evalOs, ofVal, ofLit, happ, happ1, setRow, setCells, bsK, oneA, Nat.reduceLT, Nat.reduceLeDiff, Nat.reduceEqDiff, Nat.reduceAdd, Nat.reduceSub, Nat.reducePow, Nat.reduceMul, ↓reduceIte, reduceCtorEq, decide_true, TY58.down, hsum, hb, h40, Int.le_refl, Int.reducePow]; repeat' ((first | with_reducible refine fw_rc ?_ ?_ | with_reducible refine fw_cd ?_ ?_ | with_reducible refine fw_rq ?_ ?_ | with_reducible refine fw_rw ?_ ?_ | with_reducible refine fw_rl ?_ ?_ | (with_reducible refine fw_gdT ?_ ?_; kernel_rfl) | (with_reducible refine fw_dwT ?_ ?_ ?_; (first | exact fnE_none | exact rnd_none); decide +kernel) | (with_reducible refine fw_dnT ?_ ?_ ?_; (first | exact fnE_none | exact rnd_none); decide +kernel) | (with_reducible refine fw_dlT ?_ ?_ ?_; (first | exact fnE_none | exact rnd_none); decide +kernel)) <;> (intro hb; (try simp only [hb, EVa.down, EVb.down, EVc.down, EVd.down, EVe.down, EVf.down, EVg.down, EVh.down, EVi.down, EVj.down, EVk.down, EVl.down, EVm.down, EVn.down, compO, evalO, evalOs, ofVal, ofLit, happ, happ1, setRow, setCells, bsK, oneA, Nat.reduceLT, Nat.reduceLeDiff, Nat.reduceEqDiff, Nat.reduceAdd, Nat.reduceSub, Nat.reducePow, Nat.reduceMul, ↓reduceIte, reduceCtorEq, decide_true, TY58.down, hsum, hb, h40, Int.le_refl, Int.reducePow]); try (revert hb; intro (_ : True)))))
  refine fw_ot (lst 81 l (fun i (a : Unit) t h => t 1 = slv 1 true nn (l.map iv) ∧ t 2 = .int .i64 most ∧ t 3 = .ptr 0 0 0 ∧ t 7 = .slr 1 1 0 l.length ∧ t 8 = .slr 1 2 0 l.length ∧ t 9 = .int .i64 i ∧ ∃ w1 w2, h = [.live 6 false false [[.int .i64 s.space, .int .i64 s.inn, .int .i64 s.out, .int .i64 s.lead, .int .i64 s.fuel, slv 11 false s.nn (s.cons.map BCon.cells)]], .live 1 true w1 (((fzL s.cons l).take i ++ List.replicate (l.length - i) 0).map iv), .live 1 true w2 (((ozR s.cons l).take i ++ List.replicate (l.length - i) 0).map iv)]) (fun rest a => ()) (fun r e t h => e = .exit 0 ∧ t 1 = slv 1 true nn (l.map iv) ∧ t 2 = .int .i64 most ∧ t 7 = .slr 1 1 0 l.length ∧ t 8 = .slr 1 2 0 l.length ∧ ∃ w1 w2, h = [.live 6 false false [[.int .i64 s.space, .int .i64 s.inn, .int .i64 s.out, .int .i64 s.lead, .int .i64 s.fuel, slv 11 false s.nn (s.cons.map BCon.cells)]], .live 1 true w1 ((fzL s.cons l).map iv), .live 1 true w2 ((ozR s.cons l).map iv)]) ?_ ?_ () _ _ ?_) (fun e t h hk => ?_)
  · rintro _ t h Q' kQ ⟨h1, h2, h3, h7, h8, h9, ⟨w1, w2, rfl⟩⟩
    (simp only [EVa.down, EVb.down, EVc.down, EVd.down, EVe.down, EVf.down, EVg.down, EVh.down, EVi.down, EVj.down, EVk.down, EVl.down, EVm.down, EVn.down, compO, evalO, evalOs, ofVal, ofLit, happ, happ1, setRow, setCells, bsK, oneA, Nat.reduceLT, Nat.reduceLeDiff, Nat.reduceEqDiff, Nat.reduceAdd, Nat.reduceSub, Nat.reducePow, Nat.reduceMul, ↓reduceIte, reduceCtorEq, decide_true, TY58.down, h1, h2, h3, h7, h8, h9, Int.lt_irrefl, decide_false]; repeat' ((first | with_reducible refine fw_rc ?_ ?_ | with_reducible refine fw_cd ?_ ?_ | with_reducible refine fw_rq ?_ ?_ | with_reducible refine fw_rw ?_ ?_ | with_reducible refine fw_rl ?_ ?_ | (with_reducible refine fw_gdT ?_ ?_; kernel_rfl) | (with_reducible refine fw_dwT ?_ ?_ ?_; (first | exact fnE_none | exact rnd_none); decide +kernel) | (with_reducible refine fw_dnT ?_ ?_ ?_; (first | exact fnE_none | exact rnd_none); decide +kernel) | (with_reducible refine fw_dlT ?_ ?_ ?_; (first | exact fnE_none | exact rnd_none); decide +kernel)) <;> (intro hb; (try simp only [hb, EVa.down, EVb.down, EVc.down, EVd.down, EVe.down, EVf.down, EVg.down, EVh.down, EVi.down, EVj.down, EVk.down, EVl.down, EVm.down, EVn.down, compO, evalO, evalOs, ofVal, ofLit, happ, happ1, setRow, setCells, bsK, oneA, Nat.reduceLT, Nat.reduceLeDiff, Nat.reduceEqDiff, Nat.reduceAdd, Nat.reduceSub, Nat.reducePow, Nat.reduceMul, ↓reduceIte, reduceCtorEq, decide_true, TY58.down, h1, h2, h3, h7, h8, h9, Int.lt_irrefl, decide_false]); try (revert hb; intro (_ : True)))))
    refine kQ _ _ _ ⟨rfl, by simp [up, h1], by simp [up, h2], by simp [up, h7], by simp [up, h8], w1, w2, ?_⟩
    rw [List.take_of_length_le (by omega), List.take_of_length_le (by omega)]
    simp
  · rintro x rest i _ t h J Q' kJ kQ hx hi ⟨h1, h2, h3, h7, h8, h9, ⟨w1, w2, rfl⟩⟩
    have hd : decide ((i : Int) < (l.length : Int)) = true := by simpa using hi
    have hw := wrap_next hi hl'
    obtain ⟨c, hc⟩ : ∃ c, s.cons[i]? = some c := ⟨_, List.getElem?_eq_getElem (by omega)⟩
    have hf : (fzL s.cons l)[i]? = some (firmW c x) := by simp [fzL, List.getElem?_zipWith, hc, hx]
    have ho : (ozR s.cons l)[i]? = some (othR c x) := by simp [ozR, List.getElem?_zipWith, hc, hx]
    have hii : ((i : Int) < (l.length : Int)) = True := eq_true (by omega)
    have hg1 := get_rep (p := (fzL s.cons l).take i) (n := l.length) (i := i) (by simp; omega) hi
    have hg2 := get_rep (p := (ozR s.cons l).take i) (n := l.length) (i := i) (by simp; omega) hi
    (simp only [EVa.down, EVb.down, EVc.down, EVd.down, EVe.down, EVf.down, EVg.down, EVh.down, EVi.down, EVj.down, EVk.down, EVl.down, EVm.down, EVn.down, compO, evalO, evalOs, ofVal, ofLit, happ, happ1, setRow, setCells, bsK, oneA, Nat.reduceLT, Nat.reduceLeDiff, Nat.reduceEqDiff, Nat.reduceAdd, Nat.reduceSub, Nat.reducePow, Nat.reduceMul, ↓reduceIte, reduceCtorEq, decide_true, TY58.down, h1, h2, h3, h7, h8, h9, hd, hx, hw, hc, hii, hg1, hg2, iv, BCon.cells]; repeat' ((first | with_reducible refine fw_rc ?_ ?_ | with_reducible refine fw_cd ?_ ?_ | with_reducible refine fw_rq ?_ ?_ | with_reducible refine fw_rw ?_ ?_ | with_reducible refine fw_rl ?_ ?_ | (with_reducible refine fw_gdT ?_ ?_; kernel_rfl) | (with_reducible refine fw_dwT ?_ ?_ ?_; (first | exact fnE_none | exact rnd_none); decide +kernel) | (with_reducible refine fw_dnT ?_ ?_ ?_; (first | exact fnE_none | exact rnd_none); decide +kernel) | (with_reducible refine fw_dlT ?_ ?_ ?_; (first | exact fnE_none | exact rnd_none); decide +kernel)) <;> (intro hb; (try simp only [hb, EVa.down, EVb.down, EVc.down, EVd.down, EVe.down, EVf.down, EVg.down, EVh.down, EVi.down, EVj.down, EVk.down, EVl.down, EVm.down, EVn.down, compO, evalO, evalOs, ofVal, ofLit, happ, happ1, setRow, setCells, bsK, oneA, Nat.reduceLT, Nat.reduceLeDiff, Nat.reduceEqDiff, Nat.reduceAdd, Nat.reduceSub, Nat.reducePow, Nat.reduceMul, ↓reduceIte, reduceCtorEq, decide_true, TY58.down, h1, h2, h3, h7, h8, h9, hd, hx, hw, hc, hii, hg1, hg2, iv, BCon.cells]); try (revert hb; intro (_ : True)))))
    · have e1 := take_set (fz := fzL s.cons l) (n := l.length) hf hi
      have e2 := take_zero (fz := ozR s.cons l) (n := l.length) (by simpa [othR, hb] using ho) hi
      simp only [firmW, hb, if_true] at e1
      rw [e1, e2]
      exact rnd_go (kJ _ _ () ⟨by simp [up, h1], by simp [up, h2], by simp [up, h3], by simp [up, h7], by simp [up, h8], by simp [up], ⟨_, _, rfl⟩⟩ (rfl))
    · have e1 := take_set (fz := ozR s.cons l) (n := l.length) ho hi
      have e2 := take_zero (fz := fzL s.cons l) (n := l.length) (by simpa [firmW, hb] using hf) hi
      simp only [othR, hb, Bool.false_eq_true, if_false] at e1
      rw [e1, e2]
      exact rnd_go (kJ _ _ () ⟨by simp [up, h1], by simp [up, h2], by simp [up, h3], by simp [up, h7], by simp [up, h8], by simp [up], ⟨_, _, rfl⟩⟩ (rfl))
  · exact ⟨by simp [up, ent], by simp [up, ent], by simp [up, ent], by simp [up, ent], by simp [up, ent], by simp [up], ⟨false, false, by simp [iv]⟩⟩
  · obtain ⟨rfl, h1, h2, h7, h8, w1, w2, rfl⟩ := hk
    (simp only [EVa.down, EVb.down, EVc.down, EVd.down, EVe.down, EVf.down, EVg.down, EVh.down, EVi.down, EVj.down, EVk.down, EVl.down, EVm.down, EVn.down, compO, evalO, evalOs, ofVal, ofLit, happ, happ1, setRow, setCells, bsK, oneA, Nat.reduceLT, Nat.reduceLeDiff, Nat.reduceEqDiff, Nat.reduceAdd, Nat.reduceSub, Nat.reducePow, Nat.reduceMul, ↓reduceIte, reduceCtorEq, decide_true, TY58.down, h1, h2, h7, h8, hfl, hol, htk1, htk2, hs1, hsh1, hsh2]; repeat' ((first | with_reducible refine fw_rc ?_ ?_ | with_reducible refine fw_cd ?_ ?_ | with_reducible refine fw_rq ?_ ?_ | with_reducible refine fw_rw ?_ ?_ | with_reducible refine fw_rl ?_ ?_ | (with_reducible refine fw_gdT ?_ ?_; kernel_rfl) | (with_reducible refine fw_dwT ?_ ?_ ?_; (first | exact fnE_none | exact rnd_none); decide +kernel) | (with_reducible refine fw_dnT ?_ ?_ ?_; (first | exact fnE_none | exact rnd_none); decide +kernel) | (with_reducible refine fw_dlT ?_ ?_ ?_; (first | exact fnE_none | exact rnd_none); decide +kernel)) <;> (intro hb; (try simp only [hb, EVa.down, EVb.down, EVc.down, EVd.down, EVe.down, EVf.down, EVg.down, EVh.down, EVi.down, EVj.down, EVk.down, EVl.down, EVm.down, EVn.down, compO, evalO, evalOs, ofVal, ofLit, happ, happ1, setRow, setCells, bsK, oneA, Nat.reduceLT, Nat.reduceLeDiff, Nat.reduceEqDiff, Nat.reduceAdd, Nat.reduceSub, Nat.reducePow, Nat.reduceMul, ↓reduceIte, reduceCtorEq, decide_true, TY58.down, h1, h2, h7, h8, hfl, hol, htk1, htk2, hs1, hsh1, hsh2]); try (revert hb; intro (_ : True)))))
    · have hb : most < sumF (fzL s.cons l) 0 := by simpa using hb
      simp [grantR, hq, hb]
    have hb : ¬ most < sumF (fzL s.cons l) 0 := by simpa using hb
    have hshl : ∀ a b, (shareF a b (ozR s.cons l) 0 0).length = l.length := fun a b => by rw [shareF_length, hol]
    refine fw_ot (lst 81 (fzL s.cons l) (fun i (a : List Int × Bool) t h => t 1 = slv 1 true nn (l.map iv) ∧ t 7 = .slr 1 1 0 l.length ∧ t 10 = .slr 1 3 0 l.length ∧ t 11 = .int .i64 i ∧ h = [.live 6 false false [[.int .i64 s.space, .int .i64 s.inn, .int .i64 s.out, .int .i64 s.lead, .int .i64 s.fuel, slv 11 false s.nn (s.cons.map BCon.cells)]], .live 1 true w1 ((fzL s.cons l).map iv), .live 1 true w2 ((ozR s.cons l).map iv), .live 1 true a.2 ((a.1 ++ (shareF (IntKind.i64.wrap (most - sumF (fzL s.cons l) 0)) (sumF (ozR s.cons l) 0) (ozR s.cons l) 0 0).drop i).map iv)] ∧ a.1.length = i ∧ (i = 0 ∨ a.2 = true)) (fun rest a => a.1 ++ List.zipWith addW ((shareF (IntKind.i64.wrap (most - sumF (fzL s.cons l) 0)) (sumF (ozR s.cons l) 0) (ozR s.cons l) 0 0).drop a.1.length) rest) (fun r e t h => e = .exit 2 ∧ t 10 = .slr 1 3 0 l.length ∧ h = [.live 6 false false [[.int .i64 s.space, .int .i64 s.inn, .int .i64 s.out, .int .i64 s.lead, .int .i64 s.fuel, slv 11 false s.nn (s.cons.map BCon.cells)]], .live 1 true w1 ((fzL s.cons l).map iv), .live 1 true w2 ((ozR s.cons l).map iv), .live 1 true true (r.map iv)]) ?_ ?_ ([], false) _ _ ?_) (fun e t h hk => ?_)
    · rintro ⟨p, wf⟩ t h Q' kQ ⟨h1, h7, h10, h11, rfl, hp, hf⟩
      try dsimp only at *
      (simp only [EVa.down, EVb.down, EVc.down, EVd.down, EVe.down, EVf.down, EVg.down, EVh.down, EVi.down, EVj.down, EVk.down, EVl.down, EVm.down, EVn.down, compO, evalO, evalOs, ofVal, ofLit, happ, happ1, setRow, setCells, bsK, oneA, Nat.reduceLT, Nat.reduceLeDiff, Nat.reduceEqDiff, Nat.reduceAdd, Nat.reduceSub, Nat.reducePow, Nat.reduceMul, ↓reduceIte, reduceCtorEq, decide_true, TY58.down, h1, h7, h10, h11, Int.lt_irrefl, decide_false, hfl]; repeat' ((first | with_reducible refine fw_rc ?_ ?_ | with_reducible refine fw_cd ?_ ?_ | with_reducible refine fw_rq ?_ ?_ | with_reducible refine fw_rw ?_ ?_ | with_reducible refine fw_rl ?_ ?_ | (with_reducible refine fw_gdT ?_ ?_; kernel_rfl) | (with_reducible refine fw_dwT ?_ ?_ ?_; (first | exact fnE_none | exact rnd_none); decide +kernel) | (with_reducible refine fw_dnT ?_ ?_ ?_; (first | exact fnE_none | exact rnd_none); decide +kernel) | (with_reducible refine fw_dlT ?_ ?_ ?_; (first | exact fnE_none | exact rnd_none); decide +kernel)) <;> (intro hb; (try simp only [hb, EVa.down, EVb.down, EVc.down, EVd.down, EVe.down, EVf.down, EVg.down, EVh.down, EVi.down, EVj.down, EVk.down, EVl.down, EVm.down, EVn.down, compO, evalO, evalOs, ofVal, ofLit, happ, happ1, setRow, setCells, bsK, oneA, Nat.reduceLT, Nat.reduceLeDiff, Nat.reduceEqDiff, Nat.reduceAdd, Nat.reduceSub, Nat.reducePow, Nat.reduceMul, ↓reduceIte, reduceCtorEq, decide_true, TY58.down, h1, h7, h10, h11, Int.lt_irrefl, decide_false, hfl]); try (revert hb; intro (_ : True)))))
      rcases hf with hz | rfl
      · exact (hne (List.length_eq_zero_iff.1 (by omega))).elim
      · exact kQ _ _ _ ⟨rfl, by simp [up, h10], by rw [List.drop_eq_nil_iff.2 (by rw [hshl]; omega)]; simp⟩
    · rintro x rest i ⟨p, wf⟩ t h J Q' kJ kQ hx hi ⟨h1, h7, h10, h11, rfl, hp, hf⟩
      have hd : decide ((i : Int) < ((fzL s.cons l).length : Int)) = true := by simpa using hi
      have hw := wrap_next hi (by omega : (fzL s.cons l).length ≤ maxLen)
      try dsimp only at *
      obtain ⟨y, hy⟩ : ∃ y, (shareF (IntKind.i64.wrap (most - sumF (fzL s.cons l) 0)) (sumF (ozR s.cons l) 0) (ozR s.cons l) 0 0)[i]? = some y := ⟨_, List.getElem?_eq_getElem (by rw [hshl]; omega)⟩
      have hset := set_drop hp hy
      have hget := get_drop hp hy
      have hii : ((i : Int) < (l.length : Int)) = True := eq_true (by omega)
      rw [hfl] at hd
      (simp only [EVa.down, EVb.down, EVc.down, EVd.down, EVe.down, EVf.down, EVg.down, EVh.down, EVi.down, EVj.down, EVk.down, EVl.down, EVm.down, EVn.down, compO, evalO, evalOs, ofVal, ofLit, happ, happ1, setRow, setCells, bsK, oneA, Nat.reduceLT, Nat.reduceLeDiff, Nat.reduceEqDiff, Nat.reduceAdd, Nat.reduceSub, Nat.reducePow, Nat.reduceMul, ↓reduceIte, reduceCtorEq, decide_true, TY58.down, h1, h7, h10, h11, hd, hx, hw, hset, hget, hii, iv]; repeat' ((first | with_reducible refine fw_rc ?_ ?_ | with_reducible refine fw_cd ?_ ?_ | with_reducible refine fw_rq ?_ ?_ | with_reducible refine fw_rw ?_ ?_ | with_reducible refine fw_rl ?_ ?_ | (with_reducible refine fw_gdT ?_ ?_; kernel_rfl) | (with_reducible refine fw_dwT ?_ ?_ ?_; (first | exact fnE_none | exact rnd_none); decide +kernel) | (with_reducible refine fw_dnT ?_ ?_ ?_; (first | exact fnE_none | exact rnd_none); decide +kernel) | (with_reducible refine fw_dlT ?_ ?_ ?_; (first | exact fnE_none | exact rnd_none); decide +kernel)) <;> (intro hb; (try simp only [hb, EVa.down, EVb.down, EVc.down, EVd.down, EVe.down, EVf.down, EVg.down, EVh.down, EVi.down, EVj.down, EVk.down, EVl.down, EVm.down, EVn.down, compO, evalO, evalOs, ofVal, ofLit, happ, happ1, setRow, setCells, bsK, oneA, Nat.reduceLT, Nat.reduceLeDiff, Nat.reduceEqDiff, Nat.reduceAdd, Nat.reduceSub, Nat.reducePow, Nat.reduceMul, ↓reduceIte, reduceCtorEq, decide_true, TY58.down, h1, h7, h10, h11, hd, hx, hw, hset, hget, hii, iv]); try (revert hb; intro (_ : True)))))
      exact rnd_go (kJ _ _ (p ++ [addW y x], true) ⟨by simp [up, h1], by simp [up, h7], by simp [up, h10], by simp [up], by simp [addW], by simp [hp], .inr rfl⟩ (by exact zip_step2 hy p hp))
    · exact ⟨by simp [up, ent, h1, h2, h7], by simp [up, ent, h1, h2, h7], by simp [up, ent, h1, h2, h7], by simp [up], by simp, rfl, .inl rfl⟩
    · obtain ⟨rfl, h10, rfl⟩ := hk
      (simp only [EVa.down, EVb.down, EVc.down, EVd.down, EVe.down, EVf.down, EVg.down, EVh.down, EVi.down, EVj.down, EVk.down, EVl.down, EVm.down, EVn.down, compO, evalO, evalOs, ofVal, ofLit, happ, happ1, setRow, setCells, bsK, oneA, Nat.reduceLT, Nat.reduceLeDiff, Nat.reduceEqDiff, Nat.reduceAdd, Nat.reduceSub, Nat.reducePow, Nat.reduceMul, ↓reduceIte, reduceCtorEq, decide_true, TY58.down, h10]; repeat' ((first | with_reducible refine fw_rc ?_ ?_ | with_reducible refine fw_cd ?_ ?_ | with_reducible refine fw_rq ?_ ?_ | with_reducible refine fw_rw ?_ ?_ | with_reducible refine fw_rl ?_ ?_ | (with_reducible refine fw_gdT ?_ ?_; kernel_rfl) | (with_reducible refine fw_dwT ?_ ?_ ?_; (first | exact fnE_none | exact rnd_none); decide +kernel) | (with_reducible refine fw_dnT ?_ ?_ ?_; (first | exact fnE_none | exact rnd_none); decide +kernel) | (with_reducible refine fw_dlT ?_ ?_ ?_; (first | exact fnE_none | exact rnd_none); decide +kernel)) <;> (intro hb; (try simp only [hb, EVa.down, EVb.down, EVc.down, EVd.down, EVe.down, EVf.down, EVg.down, EVh.down, EVi.down, EVj.down, EVk.down, EVl.down, EVm.down, EVn.down, compO, evalO, evalOs, ofVal, ofLit, happ, happ1, setRow, setCells, bsK, oneA, Nat.reduceLT, Nat.reduceLeDiff, Nat.reduceEqDiff, Nat.reduceAdd, Nat.reduceSub, Nat.reducePow, Nat.reduceMul, ↓reduceIte, reduceCtorEq, decide_true, TY58.down, h10]); try (revert hb; intro (_ : True)))))
      simp [grantR, hq, hb]
end Go.Proofs.YtdbiogihimdpcaaGreatDoor
