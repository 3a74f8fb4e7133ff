/- Layer 6: the law BookFirm. -/
import Derived.Test.YtdbiogihimdpcaaGreatDoorB34
set_option linter.unusedSimpArgs false
set_option linter.unusedVariables false
namespace Go.Proofs.YtdbiogihimdpcaaGreatDoor
open Go.Ev Go
set_option maxRecDepth 100000
set_option maxHeartbeats 1000000
theorem storeB_len {s : BStore} (h : storeB s = true) : s.cons.length ≤ 8 := by
  simp only [storeB, Bool.and_eq_true, decide_eq_true_eq] at h
  omega
theorem Cuts.amts {cs : List BCon} {l A : List Int} {m : Int} (h : Cuts cs l A m) (ha : Amts l) : Amts A := fun x hx => by
  obtain ⟨i, hi⟩ := List.getElem?_of_mem hx
  have hlt : i < l.length := by
    have := (List.getElem?_eq_some_iff.1 hi).1; rw [h.len] at this; exact this
  obtain ⟨w, hw⟩ : ∃ w, l[i]? = some w := ⟨_, List.getElem?_eq_getElem hlt⟩
  have := h.ins hi hw
  have := ha w (List.mem_of_getElem? hw)
  omega
theorem min_if (x y : Int) : (if y < x then y else x) = min x y := by split <;> omega
theorem max_if (x y : Int) : (if y > x then y else x) = max x y := by split <;> omega
theorem near_false {y F m w : Int} (hy : 0 ≤ y) (hy' : y ≤ 100000000) (hF : 0 ≤ F) (hF' : F ≤ 800000000) (hm : 0 ≤ m) (hm' : m ≤ 800000000) (hw : 0 ≤ w) (hw' : w ≤ 100000000) (h1 : y * F - m * w < max 1 F) (h2 : -(max 1 F) < y * F - m * w) :
    IntKind.i64.wrap (y * F) = y * F ∧ IntKind.i64.wrap (m * w) = m * w ∧ IntKind.i64.wrap (y * F - m * w) = y * F - m * w ∧ IntKind.i64.wrap (0 - max 1 F) = -(max 1 F) ∧ decide (max 1 F ≤ y * F - m * w) = false ∧ decide (y * F - m * w ≤ -(max 1 F)) = false := by
  have m1 := mul_le hy hy' hF hF'
  have m2 := mul_le hm hm' hw hw'
  refine ⟨wrap_of (by omega) (by omega), wrap_of (by omega) (by omega), wrap_of (by omega) (by omega), ?_, by simp; omega, by simp; omega⟩
  rw [wrap_of (by omega) (by omega)]; omega
theorem w_FirmT (hk : om'.call (.fn 15) [] [] = some (.ret (.bool true), [])) (s : BStore) (hs : s.small) (l : List Int) (nn : Bool) (hl : l.length ≤ maxLen) (a b : Int) (hne : l ≠ []) (q1 : shortB s.cons = true) (q2 : ¬ 12 < l.length) (hv : (storeB s && decide (l.length = s.cons.length) && wantsB l && inB a 0 800000000 && inB b 0 800000000) = true) :
    om'.call (.fn 4) [.agg [.int .i64 s.space, .int .i64 s.inn, .int .i64 s.out, .int .i64 s.lead, .int .i64 s.fuel, slv 11 false s.nn (s.cons.map BCon.cells)], slv 1 true nn (l.map iv), .int .i64 a, .int .i64 b, .bool true] [] = some (.ret (.bool true), []) := by
  have h1 := w_short (nn := s.nn) hs.cons
  have h2 := r_Store s hs
  have h3 := w_wanted s (l := l) (nn := nn) hl
  have h4 := r_Much
  have h12 : decide ((12 : Int) < (l.length : Int)) = decide (12 < l.length) := by rw [decide_eq_decide]; omega
  have hw : wantedB s.cons.length l = (wantsB l && decide (l.length = s.cons.length)) := rfl
  rw [hw] at h3
  have hv' := hv
  simp only [Bool.and_eq_true, decide_eq_true_eq] at hv
  obtain ⟨⟨⟨⟨v1, v2⟩, v3⟩, v4⟩, v5⟩ := hv
  have h8 := storeB_len v1
  have g1 := h4 a
  have g2 := h4 b
  rw [q1] at h1
  rw [v1] at h2
  rw [v3, decide_eq_true v2] at h3
  rw [v4] at g1
  rw [v5] at g2
  have q2' : decide (12 < l.length) = false := by simpa using q2
  simp only [inB, Bool.and_eq_true, decide_eq_true_eq] at v4 v5
  have h5 := e_GrantV (nn := nn) hs hl hv' hne (by omega)
  rw [grantAll_eq v3] at h5
  have hG : (grantAll grantR s.cons l a b).length = l.length := by simp [grantAll, grantR_length, v2]
  have hWm : l.map (dirI (-1)) = dirL true l := dirL_eq v3 true
  have hGm : (grantAll grantR s.cons l a b).map (dirI (-1)) = grantR s.cons (dirL true l) b := grant_dir v2 (by omega) v3 v4.1 v4.2 v5.1 v5.2 true
  have aW := dirL_amts v3 true
  have lW := dirL_length true l
  have cu := cuts (cs := s.cons) (l := dirL true l) (m := b) (by omega) (by omega) aW (by omega) (by omega)
  have aA := cu.amts aW
  have lA : (grantR s.cons (dirL true l) b).length = l.length := by rw [cu.len, lW]
  have bF := (aW.fz (cs := s.cons)).sum
  have bO := (aW.oz (cs := s.cons)).sum
  have lF : (fzL s.cons (dirL true l)).length = l.length := by simp [fzL, lW, v2]
  have lO : (ozR s.cons (dirL true l)).length = l.length := by simp [ozR, lW, v2]
  have w1 := w_way s (l := l) (nn := nn) (sg := (-1)) (f := true) (o := true) v2 hl
  have w2 := w_way s (l := l) (nn := nn) (sg := (-1)) (f := true) (o := false) v2 hl
  have w3 := w_way s (l := l) (nn := nn) (sg := (-1)) (f := false) (o := true) v2 hl
  rw [hWm, way_tt aW (by omega) (by omega)] at w1
  rw [hWm, way_tf aW (by omega)] at w2
  rw [hWm, way_ft aW (by omega)] at w3
  have w4 := w_way s (l := grantAll grantR s.cons l a b) (nn := true) (sg := (-1)) (f := true) (o := true) (by omega) (by omega)
  have w5 := w_way s (l := grantAll grantR s.cons l a b) (nn := true) (sg := (-1)) (f := true) (o := false) (by omega) (by omega)
  have w6 := w_way s (l := grantAll grantR s.cons l a b) (nn := true) (sg := (-1)) (f := false) (o := true) (by omega) (by omega)
  rw [slv_true, hGm, way_tt aA (by omega) (by omega)] at w4
  rw [slv_true, hGm, way_tf aA (by omega)] at w5
  rw [slv_true, hGm, way_ft aA (by omega)] at w6
  have t1 : ((grantAll grantR s.cons l a b).map iv).take l.length = (grantAll grantR s.cons l a b).map iv := List.take_of_length_le (by simp [hG])
  have z1 : (!((grantR s.cons (dirL true l) b).sum == min (dirL true l).sum b)) = false := by simp [cu.all]
  have z2 : IntKind.i64.wrap (b - (fzL s.cons (dirL true l)).sum) = b - (fzL s.cons (dirL true l)).sum := wrap_of (by omega) (by omega)
  have z0 : (!((l.length : Int) == (l.length : Int))) = false := by simp
  (refine ClQ.eq (stOf rfl Tryz.func4 rfl rfl ?_); simp only [Tryz.f4]; simp only [EVa.down, EVb.down, EVc.down, EVd.down, EVe.down, EVf.down, EVg.down, EVh.down, EVi.down, EVj.down, EVk.down, EVl.down, EVm.down, EVn.down, compO, evalO, evalOs, ofVal, ofLit, happ, happ1, setRow, setCells, bsK, oneA, Nat.reduceLT, Nat.reduceLeDiff, Nat.reduceEqDiff, Nat.reduceAdd, Nat.reduceSub, Nat.reducePow, Nat.reduceMul, ↓reduceIte, reduceCtorEq, decide_true, TY4.down, h1, h2, h3, g1, g2, h5, hk, h12, q2', List.length_map, i_eqself, z0]; repeat' ((first | with_reducible refine fw_rc ?_ ?_ | with_reducible refine fw_cd ?_ ?_ | with_reducible refine fw_rq ?_ ?_ | with_reducible refine fw_rw ?_ ?_ | with_reducible refine fw_rl ?_ ?_ | (with_reducible refine fw_gdT ?_ ?_; kernel_rfl) | (with_reducible refine fw_dwT ?_ ?_ ?_; (first | exact fnE_none | exact rnd_none); decide +kernel) | (with_reducible refine fw_dnT ?_ ?_ ?_; (first | exact fnE_none | exact rnd_none); decide +kernel) | (with_reducible refine fw_dlT ?_ ?_ ?_; (first | exact fnE_none | exact rnd_none); decide +kernel)) <;> (intro hb; (try simp only [hb, EVa.down, EVb.down, EVc.down, EVd.down, EVe.down, EVf.down, EVg.down, EVh.down, EVi.down, EVj.down, EVk.down, EVl.down, EVm.down, EVn.down, compO, evalO, evalOs, ofVal, ofLit, happ, happ1, setRow, setCells, bsK, oneA, Nat.reduceLT, Nat.reduceLeDiff, Nat.reduceEqDiff, Nat.reduceAdd, Nat.reduceSub, Nat.reducePow, Nat.reduceMul, ↓reduceIte, reduceCtorEq, decide_true, TY4.down, h1, h2, h3, g1, g2, h5, hk, h12, q2', List.length_map, i_eqself, z0]); try (revert hb; intro (_ : True)))))
  refine fw_ot (lst 191 l (fun i (zz : Unit) t h => t 1 = slv 1 true nn (l.map iv) ∧ t 5 = .ptr 0 0 0 ∧ t 11 = .slr 1 1 0 l.length ∧ t 13 = .int .i64 (-1) ∧ t 14 = .int .i64 b ∧ t 15 = .int .i64 i ∧ h = [.live 6 false false [[.int .i64 s.space, .int .i64 s.inn, .int .i64 s.out, .int .i64 s.lead, .int .i64 s.fuel, slv 11 false s.nn (s.cons.map BCon.cells)]], .live 1 true false ((grantAll grantR s.cons l a b).map iv)]) (fun rest zz => ()) (fun r e t h => e = .exit 0 ∧ t 1 = slv 1 true nn (l.map iv) ∧ t 5 = .ptr 0 0 0 ∧ t 11 = .slr 1 1 0 l.length ∧ t 13 = .int .i64 (-1) ∧ t 14 = .int .i64 b ∧ h = [.live 6 false false [[.int .i64 s.space, .int .i64 s.inn, .int .i64 s.out, .int .i64 s.lead, .int .i64 s.fuel, slv 11 false s.nn (s.cons.map BCon.cells)]], .live 1 true false ((grantAll grantR s.cons l a b).map iv)]) ?_ ?_ () _ _ ?_) (fun e t h hk => ?_)
  · rintro _ t h Q' kQ ⟨h1, h5, h11, h13, h14, h15, rfl⟩
    (simp only [EVa.down, EVb.down, EVc.down, EVd.down, EVe.down, EVf.down, EVg.down, EVh.down, EVi.down, EVj.down, EVk.down, EVl.down, EVm.down, EVn.down, compO, evalO, evalOs, ofVal, ofLit, happ, happ1, setRow, setCells, bsK, oneA, Nat.reduceLT, Nat.reduceLeDiff, Nat.reduceEqDiff, Nat.reduceAdd, Nat.reduceSub, Nat.reducePow, Nat.reduceMul, ↓reduceIte, reduceCtorEq, decide_true, TY4.down, h1, h5, h11, h13, h14, h15, Int.lt_irrefl, decide_false]; repeat' ((first | with_reducible refine fw_rc ?_ ?_ | with_reducible refine fw_cd ?_ ?_ | with_reducible refine fw_rq ?_ ?_ | with_reducible refine fw_rw ?_ ?_ | with_reducible refine fw_rl ?_ ?_ | (with_reducible refine fw_gdT ?_ ?_; kernel_rfl) | (with_reducible refine fw_dwT ?_ ?_ ?_; (first | exact fnE_none | exact rnd_none); decide +kernel) | (with_reducible refine fw_dnT ?_ ?_ ?_; (first | exact fnE_none | exact rnd_none); decide +kernel) | (with_reducible refine fw_dlT ?_ ?_ ?_; (first | exact fnE_none | exact rnd_none); decide +kernel)) <;> (intro hb; (try simp only [hb, EVa.down, EVb.down, EVc.down, EVd.down, EVe.down, EVf.down, EVg.down, EVh.down, EVi.down, EVj.down, EVk.down, EVl.down, EVm.down, EVn.down, compO, evalO, evalOs, ofVal, ofLit, happ, happ1, setRow, setCells, bsK, oneA, Nat.reduceLT, Nat.reduceLeDiff, Nat.reduceEqDiff, Nat.reduceAdd, Nat.reduceSub, Nat.reducePow, Nat.reduceMul, ↓reduceIte, reduceCtorEq, decide_true, TY4.down, h1, h5, h11, h13, h14, h15, Int.lt_irrefl, decide_false]); try (revert hb; intro (_ : True)))))
    exact kQ _ _ _ ⟨rfl, by simp [up, h1], by simp [up, h5], by simp [up, h11], by simp [up, h13], by simp [up, h14], rfl⟩
  · rintro x rest i _ t h J Q' kJ kQ hx hi ⟨h1, h5, h11, h13, h14, h15, rfl⟩
    have hd : decide ((i : Int) < (l.length : Int)) = true := decide_eq_true (by omega)
    have hw := wrap_next hi hl
    obtain ⟨p, q, e1, e2, e3, e4, e5, e6, e7, e8, e9⟩ := grant_one v2 (by omega) v3 v4.1 v4.2 v5.1 v5.2 hx
    have hxb := wants_get v3 hx
    have n1 : negI x = if x < 0 then -x else 0 := by
      unfold negI posI; rw [wrap_of (by omega) (by omega)]; split <;> split <;> omega
    have n2 : posI x = if x > 0 then x else 0 := rfl
    rw [n1] at e7
    rw [n2] at e5
    have c1 : decide (p - q < if x < 0 then x else 0) = false := by
      rw [decide_eq_false_iff_not]; split at e5 <;> split at e7 <;> split <;> omega
    have c2 : decide ((if x > 0 then x else 0) < p - q) = false := by
      rw [decide_eq_false_iff_not]; split at e5 <;> split at e7 <;> omega
    have hii : ((i : Int) < (l.length : Int)) = True := eq_true (by omega)
    (simp only [EVa.down, EVb.down, EVc.down, EVd.down, EVe.down, EVf.down, EVg.down, EVh.down, EVi.down, EVj.down, EVk.down, EVl.down, EVm.down, EVn.down, compO, evalO, evalOs, ofVal, ofLit, happ, happ1, setRow, setCells, bsK, oneA, Nat.reduceLT, Nat.reduceLeDiff, Nat.reduceEqDiff, Nat.reduceAdd, Nat.reduceSub, Nat.reducePow, Nat.reduceMul, ↓reduceIte, reduceCtorEq, decide_true, TY4.down, h1, h5, h11, h13, h14, h15, hd, hx, hw, e3, c1, c2, hii, iv]; repeat' ((first | with_reducible refine fw_rc ?_ ?_ | with_reducible refine fw_cd ?_ ?_ | with_reducible refine fw_rq ?_ ?_ | with_reducible refine fw_rw ?_ ?_ | with_reducible refine fw_rl ?_ ?_ | (with_reducible refine fw_gdT ?_ ?_; kernel_rfl) | (with_reducible refine fw_dwT ?_ ?_ ?_; (first | exact fnE_none | exact rnd_none); decide +kernel) | (with_reducible refine fw_dnT ?_ ?_ ?_; (first | exact fnE_none | exact rnd_none); decide +kernel) | (with_reducible refine fw_dlT ?_ ?_ ?_; (first | exact fnE_none | exact rnd_none); decide +kernel)) <;> (intro hb; (try simp only [hb, EVa.down, EVb.down, EVc.down, EVd.down, EVe.down, EVf.down, EVg.down, EVh.down, EVi.down, EVj.down, EVk.down, EVl.down, EVm.down, EVn.down, compO, evalO, evalOs, ofVal, ofLit, happ, happ1, setRow, setCells, bsK, oneA, Nat.reduceLT, Nat.reduceLeDiff, Nat.reduceEqDiff, Nat.reduceAdd, Nat.reduceSub, Nat.reducePow, Nat.reduceMul, ↓reduceIte, reduceCtorEq, decide_true, TY4.down, h1, h5, h11, h13, h14, h15, hd, hx, hw, e3, c1, c2, hii, iv]); try (revert hb; intro (_ : True)))))
    (refine rnd_go (kJ _ _ () ⟨?_, ?_, ?_, ?_, ?_, ?_, rfl⟩ ?_); (simp [up, h1]); (simp [up, h5]); (simp [up, h11]); (simp [up, h13]); (simp [up, h14]); (simp [up]); exact rfl)
  · exact ⟨by simp [up, ent], by simp [up, ent], by simp [up, ent], by simp [up, ent], by simp [up, ent], by simp [up], rfl⟩
  · obtain ⟨rfl, h1', h5', h11', h13', h14', rfl⟩ := hk
    (simp only [EVa.down, EVb.down, EVc.down, EVd.down, EVe.down, EVf.down, EVg.down, EVh.down, EVi.down, EVj.down, EVk.down, EVl.down, EVm.down, EVn.down, compO, evalO, evalOs, ofVal, ofLit, happ, happ1, setRow, setCells, bsK, oneA, Nat.reduceLT, Nat.reduceLeDiff, Nat.reduceEqDiff, Nat.reduceAdd, Nat.reduceSub, Nat.reducePow, Nat.reduceMul, ↓reduceIte, reduceCtorEq, decide_true, TY4.down, h1', h5', h11', h13', h14', w1, w2, w3, w4, w5, w6, hG, t1, min_if, max_if, z1, z2]; repeat' ((first | with_reducible refine fw_rc ?_ ?_ | with_reducible refine fw_cd ?_ ?_ | with_reducible refine fw_rq ?_ ?_ | with_reducible refine fw_rw ?_ ?_ | with_reducible refine fw_rl ?_ ?_ | (with_reducible refine fw_gdT ?_ ?_; kernel_rfl) | (with_reducible refine fw_dwT ?_ ?_ ?_; (first | exact fnE_none | exact rnd_none); decide +kernel) | (with_reducible refine fw_dnT ?_ ?_ ?_; (first | exact fnE_none | exact rnd_none); decide +kernel) | (with_reducible refine fw_dlT ?_ ?_ ?_; (first | exact fnE_none | exact rnd_none); decide +kernel)) <;> (intro hb; (try simp only [hb, EVa.down, EVb.down, EVc.down, EVd.down, EVe.down, EVf.down, EVg.down, EVh.down, EVi.down, EVj.down, EVk.down, EVl.down, EVm.down, EVn.down, compO, evalO, evalOs, ofVal, ofLit, happ, happ1, setRow, setCells, bsK, oneA, Nat.reduceLT, Nat.reduceLeDiff, Nat.reduceEqDiff, Nat.reduceAdd, Nat.reduceSub, Nat.reducePow, Nat.reduceMul, ↓reduceIte, reduceCtorEq, decide_true, TY4.down, h1', h5', h11', h13', h14', w1, w2, w3, w4, w5, w6, hG, t1, min_if, max_if, z1, z2]); try (revert hb; intro (_ : True)))))
    · exfalso
      rename_i hb0
      have := cu.firm (by simpa using hb0)
      simp only [decide_eq_true_eq] at hb
      omega
    all_goals
      refine fw_ot (lst 191 l (fun i (zz : Unit) t h => t 1 = slv 1 true nn (l.map iv) ∧ t 5 = .ptr 0 0 0 ∧ t 11 = .slr 1 1 0 l.length ∧ t 13 = .int .i64 (-1) ∧ t 14 = .int .i64 b ∧ t 17 = .int .i64 (fzL s.cons (dirL true l)).sum ∧ t 18 = .int .i64 (ozR s.cons (dirL true l)).sum ∧ t 19 = .int .i64 (max 0 (b - (fzL s.cons (dirL true l)).sum)) ∧ t 20 = .int .i64 i ∧ h = [.live 6 false false [[.int .i64 s.space, .int .i64 s.inn, .int .i64 s.out, .int .i64 s.lead, .int .i64 s.fuel, slv 11 false s.nn (s.cons.map BCon.cells)]], .live 1 true false ((grantAll grantR s.cons l a b).map iv)]) (fun rest zz => ()) (fun r e t h => e = .exit 2) ?_ ?_ () _ _ ?_) (fun e t h hk => ?_)
      · rintro _ t h Q' kQ ⟨h1, h5, h11, h13, h14, h17, h18, h19, h20, rfl⟩
        (simp only [EVa.down, EVb.down, EVc.down, EVd.down, EVe.down, EVf.down, EVg.down, EVh.down, EVi.down, EVj.down, EVk.down, EVl.down, EVm.down, EVn.down, compO, evalO, evalOs, ofVal, ofLit, happ, happ1, setRow, setCells, bsK, oneA, Nat.reduceLT, Nat.reduceLeDiff, Nat.reduceEqDiff, Nat.reduceAdd, Nat.reduceSub, Nat.reducePow, Nat.reduceMul, ↓reduceIte, reduceCtorEq, decide_true, TY4.down, h1, h5, h11, h13, h14, h17, h18, h19, h20, Int.lt_irrefl, decide_false]; repeat' ((first | with_reducible refine fw_rc ?_ ?_ | with_reducible refine fw_cd ?_ ?_ | with_reducible refine fw_rq ?_ ?_ | with_reducible refine fw_rw ?_ ?_ | with_reducible refine fw_rl ?_ ?_ | (with_reducible refine fw_gdT ?_ ?_; kernel_rfl) | (with_reducible refine fw_dwT ?_ ?_ ?_; (first | exact fnE_none | exact rnd_none); decide +kernel) | (with_reducible refine fw_dnT ?_ ?_ ?_; (first | exact fnE_none | exact rnd_none); decide +kernel) | (with_reducible refine fw_dlT ?_ ?_ ?_; (first | exact fnE_none | exact rnd_none); decide +kernel)) <;> (intro hb; (try simp only [hb, EVa.down, EVb.down, EVc.down, EVd.down, EVe.down, EVf.down, EVg.down, EVh.down, EVi.down, EVj.down, EVk.down, EVl.down, EVm.down, EVn.down, compO, evalO, evalOs, ofVal, ofLit, happ, happ1, setRow, setCells, bsK, oneA, Nat.reduceLT, Nat.reduceLeDiff, Nat.reduceEqDiff, Nat.reduceAdd, Nat.reduceSub, Nat.reducePow, Nat.reduceMul, ↓reduceIte, reduceCtorEq, decide_true, TY4.down, h1, h5, h11, h13, h14, h17, h18, h19, h20, Int.lt_irrefl, decide_false]); try (revert hb; intro (_ : True)))))
        exact kQ _ _ _ rfl
      · rintro x rest i _ t h J Q' kJ kQ hx hi ⟨h1, h5, h11, h13, h14, h17, h18, h19, h20, rfl⟩
        have hd : decide ((i : Int) < (l.length : Int)) = true := decide_eq_true (by omega)
        have hw := wrap_next hi hl
        obtain ⟨p, q, e1, e2, e3, e4, e5, e6, e7, e8, e9⟩ := grant_one v2 (by omega) v3 v4.1 v4.2 v5.1 v5.2 hx
        obtain ⟨c, hc⟩ : ∃ c, s.cons[i]? = some c := ⟨_, List.getElem?_eq_getElem (by omega)⟩
        have hii : ((i : Int) < (l.length : Int)) = True := eq_true (by omega)
        have hy : (grantR s.cons (dirL true l) b)[i]? = some (dirI (-1) (p - q)) := by rw [← hGm, List.getElem?_map, e3]; rfl
        have hwi : (dirL true l)[i]? = some (dirI (-1) x) := by rw [← hWm, List.getElem?_map, hx]; rfl
        have hyi := aA _ (List.mem_of_getElem? hy)
        have hwj := aW _ (List.mem_of_getElem? hwi)
        have near := cu.near hc hy hwi
        have d1 : max 0 (IntKind.i64.wrap ((-1) * (p - q))) = dirI (-1) (p - q) := by unfold dirI posI; rw [max_if]
        have d2 : max 0 (IntKind.i64.wrap ((-1) * x)) = dirI (-1) x := by unfold dirI posI; rw [max_if]
        generalize dirI (-1) (p - q) = y at *
        generalize dirI (-1) x = w at *
        cases hcf : c.firm with
        | true =>
          have nr := near.1 hcf
          obtain ⟨n1, n2, n3, n4, n5, n6⟩ := near_false (m := min b (fzL s.cons (dirL true l)).sum) (by omega) (by omega) (by omega) (by omega) (by omega) (by omega) (by omega) (by omega) nr.1 nr.2
          (simp only [EVa.down, EVb.down, EVc.down, EVd.down, EVe.down, EVf.down, EVg.down, EVh.down, EVi.down, EVj.down, EVk.down, EVl.down, EVm.down, EVn.down, compO, evalO, evalOs, ofVal, ofLit, happ, happ1, setRow, setCells, bsK, oneA, Nat.reduceLT, Nat.reduceLeDiff, Nat.reduceEqDiff, Nat.reduceAdd, Nat.reduceSub, Nat.reducePow, Nat.reduceMul, ↓reduceIte, reduceCtorEq, decide_true, TY4.down, h1, h5, h11, h13, h14, h17, h18, h19, h20, hd, hx, hw, hc, hcf, e3, hii, iv, BCon.cells, min_if, max_if, d1, d2, n1, n2, n3, n4, n5, n6]; repeat' ((first | with_reducible refine fw_rc ?_ ?_ | with_reducible refine fw_cd ?_ ?_ | with_reducible refine fw_rq ?_ ?_ | with_reducible refine fw_rw ?_ ?_ | with_reducible refine fw_rl ?_ ?_ | (with_reducible refine fw_gdT ?_ ?_; kernel_rfl) | (with_reducible refine fw_dwT ?_ ?_ ?_; (first | exact fnE_none | exact rnd_none); decide +kernel) | (with_reducible refine fw_dnT ?_ ?_ ?_; (first | exact fnE_none | exact rnd_none); decide +kernel) | (with_reducible refine fw_dlT ?_ ?_ ?_; (first | exact fnE_none | exact rnd_none); decide +kernel)) <;> (intro hb; (try simp only [hb, EVa.down, EVb.down, EVc.down, EVd.down, EVe.down, EVf.down, EVg.down, EVh.down, EVi.down, EVj.down, EVk.down, EVl.down, EVm.down, EVn.down, compO, evalO, evalOs, ofVal, ofLit, happ, happ1, setRow, setCells, bsK, oneA, Nat.reduceLT, Nat.reduceLeDiff, Nat.reduceEqDiff, Nat.reduceAdd, Nat.reduceSub, Nat.reducePow, Nat.reduceMul, ↓reduceIte, reduceCtorEq, decide_true, TY4.down, h1, h5, h11, h13, h14, h17, h18, h19, h20, hd, hx, hw, hc, hcf, e3, hii, iv, BCon.cells, min_if, max_if, d1, d2, n1, n2, n3, n4, n5, n6]); try (revert hb; intro (_ : True)))))
          (refine rnd_go (kJ _ _ () ⟨?_, ?_, ?_, ?_, ?_, ?_, ?_, ?_, ?_, rfl⟩ ?_); (simp [up, h1]); (simp [up, h5]); (simp [up, h11]); (simp [up, h13]); (simp [up, h14]); (simp [up, h17]); (simp [up, h18]); (simp [up, h19]); (simp [up]); exact rfl)
        | false =>
          have nr := near.2 hcf
          obtain ⟨n1, n2, n3, n4, n5, n6⟩ := near_false (m := min (max 0 (b - (fzL s.cons (dirL true l)).sum)) (ozR s.cons (dirL true l)).sum) (by omega) (by omega) (by omega) (by omega) (by omega) (by omega) (by omega) (by omega) nr.1 nr.2
          (simp only [EVa.down, EVb.down, EVc.down, EVd.down, EVe.down, EVf.down, EVg.down, EVh.down, EVi.down, EVj.down, EVk.down, EVl.down, EVm.down, EVn.down, compO, evalO, evalOs, ofVal, ofLit, happ, happ1, setRow, setCells, bsK, oneA, Nat.reduceLT, Nat.reduceLeDiff, Nat.reduceEqDiff, Nat.reduceAdd, Nat.reduceSub, Nat.reducePow, Nat.reduceMul, ↓reduceIte, reduceCtorEq, decide_true, TY4.down, h1, h5, h11, h13, h14, h17, h18, h19, h20, hd, hx, hw, hc, hcf, e3, hii, iv, BCon.cells, min_if, max_if, d1, d2, n1, n2, n3, n4, n5, n6]; repeat' ((first | with_reducible refine fw_rc ?_ ?_ | with_reducible refine fw_cd ?_ ?_ | with_reducible refine fw_rq ?_ ?_ | with_reducible refine fw_rw ?_ ?_ | with_reducible refine fw_rl ?_ ?_ | (with_reducible refine fw_gdT ?_ ?_; kernel_rfl) | (with_reducible refine fw_dwT ?_ ?_ ?_; (first | exact fnE_none | exact rnd_none); decide +kernel) | (with_reducible refine fw_dnT ?_ ?_ ?_; (first | exact fnE_none | exact rnd_none); decide +kernel) | (with_reducible refine fw_dlT ?_ ?_ ?_; (first | exact fnE_none | exact rnd_none); decide +kernel)) <;> (intro hb; (try simp only [hb, EVa.down, EVb.down, EVc.down, EVd.down, EVe.down, EVf.down, EVg.down, EVh.down, EVi.down, EVj.down, EVk.down, EVl.down, EVm.down, EVn.down, compO, evalO, evalOs, ofVal, ofLit, happ, happ1, setRow, setCells, bsK, oneA, Nat.reduceLT, Nat.reduceLeDiff, Nat.reduceEqDiff, Nat.reduceAdd, Nat.reduceSub, Nat.reducePow, Nat.reduceMul, ↓reduceIte, reduceCtorEq, decide_true, TY4.down, h1, h5, h11, h13, h14, h17, h18, h19, h20, hd, hx, hw, hc, hcf, e3, hii, iv, BCon.cells, min_if, max_if, d1, d2, n1, n2, n3, n4, n5, n6]); try (revert hb; intro (_ : True)))))
          (refine rnd_go (kJ _ _ () ⟨?_, ?_, ?_, ?_, ?_, ?_, ?_, ?_, ?_, rfl⟩ ?_); (simp [up, h1]); (simp [up, h5]); (simp [up, h11]); (simp [up, h13]); (simp [up, h14]); (simp [up, h17]); (simp [up, h18]); (simp [up, h19]); (simp [up]); exact rfl)
      · exact ⟨by simp [up, ent, h1', h5', h11', h13', h14'], by simp [up, ent, h1', h5', h11', h13', h14'], by simp [up, ent, h1', h5', h11', h13', h14'], by simp [up, ent, h1', h5', h11', h13', h14'], by simp [up, ent, h1', h5', h11', h13', h14'], by simp [up, ent, h1', h5', h11', h13', h14'], by simp [up, ent, h1', h5', h11', h13', h14'], by simp [up, ent, h1', h5', h11', h13', h14'], by simp [up], rfl⟩
      · subst hk
        (simp only [EVa.down, EVb.down, EVc.down, EVd.down, EVe.down, EVf.down, EVg.down, EVh.down, EVi.down, EVj.down, EVk.down, EVl.down, EVm.down, EVn.down, compO, evalO, evalOs, ofVal, ofLit, happ, happ1, setRow, setCells, bsK, oneA, Nat.reduceLT, Nat.reduceLeDiff, Nat.reduceEqDiff, Nat.reduceAdd, Nat.reduceSub, Nat.reducePow, Nat.reduceMul, ↓reduceIte, reduceCtorEq, decide_true, TY4.down, hk]; repeat' ((first | with_reducible refine fw_rc ?_ ?_ | with_reducible refine fw_cd ?_ ?_ | with_reducible refine fw_rq ?_ ?_ | with_reducible refine fw_rw ?_ ?_ | with_reducible refine fw_rl ?_ ?_ | (with_reducible refine fw_gdT ?_ ?_; kernel_rfl) | (with_reducible refine fw_dwT ?_ ?_ ?_; (first | exact fnE_none | exact rnd_none); decide +kernel) | (with_reducible refine fw_dnT ?_ ?_ ?_; (first | exact fnE_none | exact rnd_none); decide +kernel) | (with_reducible refine fw_dlT ?_ ?_ ?_; (first | exact fnE_none | exact rnd_none); decide +kernel)) <;> (intro hb; (try simp only [hb, EVa.down, EVb.down, EVc.down, EVd.down, EVe.down, EVf.down, EVg.down, EVh.down, EVi.down, EVj.down, EVk.down, EVl.down, EVm.down, EVn.down, compO, evalO, evalOs, ofVal, ofLit, happ, happ1, setRow, setCells, bsK, oneA, Nat.reduceLT, Nat.reduceLeDiff, Nat.reduceEqDiff, Nat.reduceAdd, Nat.reduceSub, Nat.reducePow, Nat.reduceMul, ↓reduceIte, reduceCtorEq, decide_true, TY4.down, hk]); try (revert hb; intro (_ : True)))))
theorem w_FirmF (hk : om'.call (.fn 15) [] [] = some (.ret (.bool true), [])) (s : BStore) (hs : s.small) (l : List Int) (nn : Bool) (hl : l.length ≤ maxLen) (a b : Int) (hne : l ≠ []) (q1 : shortB s.cons = true) (q2 : ¬ 12 < l.length) (hv : (storeB s && decide (l.length = s.cons.length) && wantsB l && inB a 0 800000000 && inB b 0 800000000) = true) :
    om'.call (.fn 4) [.agg [.int .i64 s.space, .int .i64 s.inn, .int .i64 s.out, .int .i64 s.lead, .int .i64 s.fuel, slv 11 false s.nn (s.cons.map BCon.cells)], slv 1 true nn (l.map iv), .int .i64 a, .int .i64 b, .bool false] [] = some (.ret (.bool true), []) := by
  have h1 := w_short (nn := s.nn) hs.cons
  have h2 := r_Store s hs
  have h3 := w_wanted s (l := l) (nn := nn) hl
  have h4 := r_Much
  have h12 : decide ((12 : Int) < (l.length : Int)) = decide (12 < l.length) := by rw [decide_eq_decide]; omega
  have hw : wantedB s.cons.length l = (wantsB l && decide (l.length = s.cons.length)) := rfl
  rw [hw] at h3
  have hv' := hv
  simp only [Bool.and_eq_true, decide_eq_true_eq] at hv
  obtain ⟨⟨⟨⟨v1, v2⟩, v3⟩, v4⟩, v5⟩ := hv
  have h8 := storeB_len v1
  have g1 := h4 a
  have g2 := h4 b
  rw [q1] at h1
  rw [v1] at h2
  rw [v3, decide_eq_true v2] at h3
  rw [v4] at g1
  rw [v5] at g2
  have q2' : decide (12 < l.length) = false := by simpa using q2
  simp only [inB, Bool.and_eq_true, decide_eq_true_eq] at v4 v5
  have h5 := e_GrantV (nn := nn) hs hl hv' hne (by omega)
  rw [grantAll_eq v3] at h5
  have hG : (grantAll grantR s.cons l a b).length = l.length := by simp [grantAll, grantR_length, v2]
  have hWm : l.map (dirI 1) = dirL false l := dirL_eq v3 false
  have hGm : (grantAll grantR s.cons l a b).map (dirI 1) = grantR s.cons (dirL false l) a := grant_dir v2 (by omega) v3 v4.1 v4.2 v5.1 v5.2 false
  have aW := dirL_amts v3 false
  have lW := dirL_length false l
  have cu := cuts (cs := s.cons) (l := dirL false l) (m := a) (by omega) (by omega) aW (by omega) (by omega)
  have aA := cu.amts aW
  have lA : (grantR s.cons (dirL false l) a).length = l.length := by rw [cu.len, lW]
  have bF := (aW.fz (cs := s.cons)).sum
  have bO := (aW.oz (cs := s.cons)).sum
  have lF : (fzL s.cons (dirL false l)).length = l.length := by simp [fzL, lW, v2]
  have lO : (ozR s.cons (dirL false l)).length = l.length := by simp [ozR, lW, v2]
  have w1 := w_way s (l := l) (nn := nn) (sg := 1) (f := true) (o := true) v2 hl
  have w2 := w_way s (l := l) (nn := nn) (sg := 1) (f := true) (o := false) v2 hl
  have w3 := w_way s (l := l) (nn := nn) (sg := 1) (f := false) (o := true) v2 hl
  rw [hWm, way_tt aW (by omega) (by omega)] at w1
  rw [hWm, way_tf aW (by omega)] at w2
  rw [hWm, way_ft aW (by omega)] at w3
  have w4 := w_way s (l := grantAll grantR s.cons l a b) (nn := true) (sg := 1) (f := true) (o := true) (by omega) (by omega)
  have w5 := w_way s (l := grantAll grantR s.cons l a b) (nn := true) (sg := 1) (f := true) (o := false) (by omega) (by omega)
  have w6 := w_way s (l := grantAll grantR s.cons l a b) (nn := true) (sg := 1) (f := false) (o := true) (by omega) (by omega)
  rw [slv_true, hGm, way_tt aA (by omega) (by omega)] at w4
  rw [slv_true, hGm, way_tf aA (by omega)] at w5
  rw [slv_true, hGm, way_ft aA (by omega)] at w6
  have t1 : ((grantAll grantR s.cons l a b).map iv).take l.length = (grantAll grantR s.cons l a b).map iv := List.take_of_length_le (by simp [hG])
  have z1 : (!((grantR s.cons (dirL false l) a).sum == min (dirL false l).sum a)) = false := by simp [cu.all]
  have z2 : IntKind.i64.wrap (a - (fzL s.cons (dirL false l)).sum) = a - (fzL s.cons (dirL false l)).sum := wrap_of (by omega) (by omega)
  have z0 : (!((l.length : Int) == (l.length : Int))) = false := by simp
  (refine ClQ.eq (stOf rfl Tryz.func4 rfl rfl ?_); simp only [Tryz.f4]; simp only [EVa.down, EVb.down, EVc.down, EVd.down, EVe.down, EVf.down, EVg.down, EVh.down, EVi.down, EVj.down, EVk.down, EVl.down, EVm.down, EVn.down, compO, evalO, evalOs, ofVal, ofLit, happ, happ1, setRow, setCells, bsK, oneA, Nat.reduceLT, Nat.reduceLeDiff, Nat.reduceEqDiff, Nat.reduceAdd, Nat.reduceSub, Nat.reducePow, Nat.reduceMul, ↓reduceIte, reduceCtorEq, decide_true, TY4.down, h1, h2, h3, g1, g2, h5, hk, h12, q2', List.length_map, i_eqself, z0]; repeat' ((first | with_reducible refine fw_rc ?_ ?_ | with_reducible refine fw_cd ?_ ?_ | with_reducible refine fw_rq ?_ ?_ | with_reducible refine fw_rw ?_ ?_ | with_reducible refine fw_rl ?_ ?_ | (with_reducible refine fw_gdT ?_ ?_; kernel_rfl) | (with_reducible refine fw_dwT ?_ ?_ ?_; (first | exact fnE_none | exact rnd_none); decide +kernel) | (with_reducible refine fw_dnT ?_ ?_ ?_; (first | exact fnE_none | exact rnd_none); decide +kernel) | (with_reducible refine fw_dlT ?_ ?_ ?_; (first | exact fnE_none | exact rnd_none); decide +kernel)) <;> (intro hb; (try simp only [hb, EVa.down, EVb.down, EVc.down, EVd.down, EVe.down, EVf.down, EVg.down, EVh.down, EVi.down, EVj.down, EVk.down, EVl.down, EVm.down, EVn.down, compO, evalO, evalOs, ofVal, ofLit, happ, happ1, setRow, setCells, bsK, oneA, Nat.reduceLT, Nat.reduceLeDiff, Nat.reduceEqDiff, Nat.reduceAdd, Nat.reduceSub, Nat.reducePow, Nat.reduceMul, ↓reduceIte, reduceCtorEq, decide_true, TY4.down, h1, h2, h3, g1, g2, h5, hk, h12, q2', List.length_map, i_eqself, z0]); try (revert hb; intro (_ : True)))))
  refine fw_ot (lst 191 l (fun i (zz : Unit) t h => t 1 = slv 1 true nn (l.map iv) ∧ t 5 = .ptr 0 0 0 ∧ t 11 = .slr 1 1 0 l.length ∧ t 13 = .int .i64 1 ∧ t 14 = .int .i64 a ∧ t 15 = .int .i64 i ∧ h = [.live 6 false false [[.int .i64 s.space, .int .i64 s.inn, .int .i64 s.out, .int .i64 s.lead, .int .i64 s.fuel, slv 11 false s.nn (s.cons.map BCon.cells)]], .live 1 true false ((grantAll grantR s.cons l a b).map iv)]) (fun rest zz => ()) (fun r e t h => e = .exit 0 ∧ t 1 = slv 1 true nn (l.map iv) ∧ t 5 = .ptr 0 0 0 ∧ t 11 = .slr 1 1 0 l.length ∧ t 13 = .int .i64 1 ∧ t 14 = .int .i64 a ∧ h = [.live 6 false false [[.int .i64 s.space, .int .i64 s.inn, .int .i64 s.out, .int .i64 s.lead, .int .i64 s.fuel, slv 11 false s.nn (s.cons.map BCon.cells)]], .live 1 true false ((grantAll grantR s.cons l a b).map iv)]) ?_ ?_ () _ _ ?_) (fun e t h hk => ?_)
  · rintro _ t h Q' kQ ⟨h1, h5, h11, h13, h14, h15, rfl⟩
    (simp only [EVa.down, EVb.down, EVc.down, EVd.down, EVe.down, EVf.down, EVg.down, EVh.down, EVi.down, EVj.down, EVk.down, EVl.down, EVm.down, EVn.down, compO, evalO, evalOs, ofVal, ofLit, happ, happ1, setRow, setCells, bsK, oneA, Nat.reduceLT, Nat.reduceLeDiff, Nat.reduceEqDiff, Nat.reduceAdd, Nat.reduceSub, Nat.reducePow, Nat.reduceMul, ↓reduceIte, reduceCtorEq, decide_true, TY4.down, h1, h5, h11, h13, h14, h15, Int.lt_irrefl, decide_false]; repeat' ((first | with_reducible refine fw_rc ?_ ?_ | with_reducible refine fw_cd ?_ ?_ | with_reducible refine fw_rq ?_ ?_ | with_reducible refine fw_rw ?_ ?_ | with_reducible refine fw_rl ?_ ?_ | (with_reducible refine fw_gdT ?_ ?_; kernel_rfl) | (with_reducible refine fw_dwT ?_ ?_ ?_; (first | exact fnE_none | exact rnd_none); decide +kernel) | (with_reducible refine fw_dnT ?_ ?_ ?_; (first | exact fnE_none | exact rnd_none); decide +kernel) | (with_reducible refine fw_dlT ?_ ?_ ?_; (first | exact fnE_none | exact rnd_none); decide +kernel)) <;> (intro hb; (try simp only [hb, EVa.down, EVb.down, EVc.down, EVd.down, EVe.down, EVf.down, EVg.down, EVh.down, EVi.down, EVj.down, EVk.down, EVl.down, EVm.down, EVn.down, compO, evalO, evalOs, ofVal, ofLit, happ, happ1, setRow, setCells, bsK, oneA, Nat.reduceLT, Nat.reduceLeDiff, Nat.reduceEqDiff, Nat.reduceAdd, Nat.reduceSub, Nat.reducePow, Nat.reduceMul, ↓reduceIte, reduceCtorEq, decide_true, TY4.down, h1, h5, h11, h13, h14, h15, Int.lt_irrefl, decide_false]); try (revert hb; intro (_ : True)))))
    exact kQ _ _ _ ⟨rfl, by simp [up, h1], by simp [up, h5], by simp [up, h11], by simp [up, h13], by simp [up, h14], rfl⟩
  · rintro x rest i _ t h J Q' kJ kQ hx hi ⟨h1, h5, h11, h13, h14, h15, rfl⟩
    have hd : decide ((i : Int) < (l.length : Int)) = true := decide_eq_true (by omega)
    have hw := wrap_next hi hl
    obtain ⟨p, q, e1, e2, e3, e4, e5, e6, e7, e8, e9⟩ := grant_one v2 (by omega) v3 v4.1 v4.2 v5.1 v5.2 hx
    have hxb := wants_get v3 hx
    have n1 : negI x = if x < 0 then -x else 0 := by
      unfold negI posI; rw [wrap_of (by omega) (by omega)]; split <;> split <;> omega
    have n2 : posI x = if x > 0 then x else 0 := rfl
    rw [n1] at e7
    rw [n2] at e5
    have c1 : decide (p - q < if x < 0 then x else 0) = false := by
      rw [decide_eq_false_iff_not]; split at e5 <;> split at e7 <;> split <;> omega
    have c2 : decide ((if x > 0 then x else 0) < p - q) = false := by
      rw [decide_eq_false_iff_not]; split at e5 <;> split at e7 <;> omega
    have hii : ((i : Int) < (l.length : Int)) = True := eq_true (by omega)
    (simp only [EVa.down, EVb.down, EVc.down, EVd.down, EVe.down, EVf.down, EVg.down, EVh.down, EVi.down, EVj.down, EVk.down, EVl.down, EVm.down, EVn.down, compO, evalO, evalOs, ofVal, ofLit, happ, happ1, setRow, setCells, bsK, oneA, Nat.reduceLT, Nat.reduceLeDiff, Nat.reduceEqDiff, Nat.reduceAdd, Nat.reduceSub, Nat.reducePow, Nat.reduceMul, ↓reduceIte, reduceCtorEq, decide_true, TY4.down, h1, h5, h11, h13, h14, h15, hd, hx, hw, e3, c1, c2, hii, iv]; repeat' ((first | with_reducible refine fw_rc ?_ ?_ | with_reducible refine fw_cd ?_ ?_ | with_reducible refine fw_rq ?_ ?_ | with_reducible refine fw_rw ?_ ?_ | with_reducible refine fw_rl ?_ ?_ | (with_reducible refine fw_gdT ?_ ?_; kernel_rfl) | (with_reducible refine fw_dwT ?_ ?_ ?_; (first | exact fnE_none | exact rnd_none); decide +kernel) | (with_reducible refine fw_dnT ?_ ?_ ?_; (first | exact fnE_none | exact rnd_none); decide +kernel) | (with_reducible refine fw_dlT ?_ ?_ ?_; (first | exact fnE_none | exact rnd_none); decide +kernel)) <;> (intro hb; (try simp only [hb, EVa.down, EVb.down, EVc.down, EVd.down, EVe.down, EVf.down, EVg.down, EVh.down, EVi.down, EVj.down, EVk.down, EVl.down, EVm.down, EVn.down, compO, evalO, evalOs, ofVal, ofLit, happ, happ1, setRow, setCells, bsK, oneA, Nat.reduceLT, Nat.reduceLeDiff, Nat.reduceEqDiff, Nat.reduceAdd, Nat.reduceSub, Nat.reducePow, Nat.reduceMul, ↓reduceIte, reduceCtorEq, decide_true, TY4.down, h1, h5, h11, h13, h14, h15, hd, hx, hw, e3, c1, c2, hii, iv]); try (revert hb; intro (_ : True)))))
    (refine rnd_go (kJ _ _ () ⟨?_, ?_, ?_, ?_, ?_, ?_, rfl⟩ ?_); (simp [up, h1]); (simp [up, h5]); (simp [up, h11]); (simp [up, h13]); (simp [up, h14]); (simp [up]); exact rfl)
  · exact ⟨by simp [up, ent], by simp [up, ent], by simp [up, ent], by simp [up, ent], by simp [up, ent], by simp [up], rfl⟩
  · obtain ⟨rfl, h1', h5', h11', h13', h14', rfl⟩ := hk
    (simp only [EVa.down, EVb.down, EVc.down, EVd.down, EVe.down, EVf.down, EVg.down, EVh.down, EVi.down, EVj.down, EVk.down, EVl.down, EVm.down, EVn.down, compO, evalO, evalOs, ofVal, ofLit, happ, happ1, setRow, setCells, bsK, oneA, Nat.reduceLT, Nat.reduceLeDiff, Nat.reduceEqDiff, Nat.reduceAdd, Nat.reduceSub, Nat.reducePow, Nat.reduceMul, ↓reduceIte, reduceCtorEq, decide_true, TY4.down, h1', h5', h11', h13', h14', w1, w2, w3, w4, w5, w6, hG, t1, min_if, max_if, z1, z2]; repeat' ((first | with_reducible refine fw_rc ?_ ?_ | with_reducible refine fw_cd ?_ ?_ | with_reducible refine fw_rq ?_ ?_ | with_reducible refine fw_rw ?_ ?_ | with_reducible refine fw_rl ?_ ?_ | (with_reducible refine fw_gdT ?_ ?_; kernel_rfl) | (with_reducible refine fw_dwT ?_ ?_ ?_; (first | exact fnE_none | exact rnd_none); decide +kernel) | (with_reducible refine fw_dnT ?_ ?_ ?_; (first | exact fnE_none | exact rnd_none); decide +kernel) | (with_reducible refine fw_dlT ?_ ?_ ?_; (first | exact fnE_none | exact rnd_none); decide +kernel)) <;> (intro hb; (try simp only [hb, EVa.down, EVb.down, EVc.down, EVd.down, EVe.down, EVf.down, EVg.down, EVh.down, EVi.down, EVj.down, EVk.down, EVl.down, EVm.down, EVn.down, compO, evalO, evalOs, ofVal, ofLit, happ, happ1, setRow, setCells, bsK, oneA, Nat.reduceLT, Nat.reduceLeDiff, Nat.reduceEqDiff, Nat.reduceAdd, Nat.reduceSub, Nat.reducePow, Nat.reduceMul, ↓reduceIte, reduceCtorEq, decide_true, TY4.down, h1', h5', h11', h13', h14', w1, w2, w3, w4, w5, w6, hG, t1, min_if, max_if, z1, z2]); try (revert hb; intro (_ : True)))))
    · exfalso
      rename_i hb0
      have := cu.firm (by simpa using hb0)
      simp only [decide_eq_true_eq] at hb
      omega
    all_goals
      refine fw_ot (lst 191 l (fun i (zz : Unit) t h => t 1 = slv 1 true nn (l.map iv) ∧ t 5 = .ptr 0 0 0 ∧ t 11 = .slr 1 1 0 l.length ∧ t 13 = .int .i64 1 ∧ t 14 = .int .i64 a ∧ t 17 = .int .i64 (fzL s.cons (dirL false l)).sum ∧ t 18 = .int .i64 (ozR s.cons (dirL false l)).sum ∧ t 19 = .int .i64 (max 0 (a - (fzL s.cons (dirL false l)).sum)) ∧ t 20 = .int .i64 i ∧ h = [.live 6 false false [[.int .i64 s.space, .int .i64 s.inn, .int .i64 s.out, .int .i64 s.lead, .int .i64 s.fuel, slv 11 false s.nn (s.cons.map BCon.cells)]], .live 1 true false ((grantAll grantR s.cons l a b).map iv)]) (fun rest zz => ()) (fun r e t h => e = .exit 2) ?_ ?_ () _ _ ?_) (fun e t h hk => ?_)
      · rintro _ t h Q' kQ ⟨h1, h5, h11, h13, h14, h17, h18, h19, h20, rfl⟩
        (simp only [EVa.down, EVb.down, EVc.down, EVd.down, EVe.down, EVf.down, EVg.down, EVh.down, EVi.down, EVj.down, EVk.down, EVl.down, EVm.down, EVn.down, compO, evalO, evalOs, ofVal, ofLit, happ, happ1, setRow, setCells, bsK, oneA, Nat.reduceLT, Nat.reduceLeDiff, Nat.reduceEqDiff, Nat.reduceAdd, Nat.reduceSub, Nat.reducePow, Nat.reduceMul, ↓reduceIte, reduceCtorEq, decide_true, TY4.down, h1, h5, h11, h13, h14, h17, h18, h19, h20, Int.lt_irrefl, decide_false]; repeat' ((first | with_reducible refine fw_rc ?_ ?_ | with_reducible refine fw_cd ?_ ?_ | with_reducible refine fw_rq ?_ ?_ | with_reducible refine fw_rw ?_ ?_ | with_reducible refine fw_rl ?_ ?_ | (with_reducible refine fw_gdT ?_ ?_; kernel_rfl) | (with_reducible refine fw_dwT ?_ ?_ ?_; (first | exact fnE_none | exact rnd_none); decide +kernel) | (with_reducible refine fw_dnT ?_ ?_ ?_; (first | exact fnE_none | exact rnd_none); decide +kernel) | (with_reducible refine fw_dlT ?_ ?_ ?_; (first | exact fnE_none | exact rnd_none); decide +kernel)) <;> (intro hb; (try simp only [hb, EVa.down, EVb.down, EVc.down, EVd.down, EVe.down, EVf.down, EVg.down, EVh.down, EVi.down, EVj.down, EVk.down, EVl.down, EVm.down, EVn.down, compO, evalO, evalOs, ofVal, ofLit, happ, happ1, setRow, setCells, bsK, oneA, Nat.reduceLT, Nat.reduceLeDiff, Nat.reduceEqDiff, Nat.reduceAdd, Nat.reduceSub, Nat.reducePow, Nat.reduceMul, ↓reduceIte, reduceCtorEq, decide_true, TY4.down, h1, h5, h11, h13, h14, h17, h18, h19, h20, Int.lt_irrefl, decide_false]); try (revert hb; intro (_ : True)))))
        exact kQ _ _ _ rfl
      · rintro x rest i _ t h J Q' kJ kQ hx hi ⟨h1, h5, h11, h13, h14, h17, h18, h19, h20, rfl⟩
        have hd : decide ((i : Int) < (l.length : Int)) = true := decide_eq_true (by omega)
        have hw := wrap_next hi hl
        obtain ⟨p, q, e1, e2, e3, e4, e5, e6, e7, e8, e9⟩ := grant_one v2 (by omega) v3 v4.1 v4.2 v5.1 v5.2 hx
        obtain ⟨c, hc⟩ : ∃ c, s.cons[i]? = some c := ⟨_, List.getElem?_eq_getElem (by omega)⟩
        have hii : ((i : Int) < (l.length : Int)) = True := eq_true (by omega)
        have hy : (grantR s.cons (dirL false l) a)[i]? = some (dirI 1 (p - q)) := by rw [← hGm, List.getElem?_map, e3]; rfl
        have hwi : (dirL false l)[i]? = some (dirI 1 x) := by rw [← hWm, List.getElem?_map, hx]; rfl
        have hyi := aA _ (List.mem_of_getElem? hy)
        have hwj := aW _ (List.mem_of_getElem? hwi)
        have near := cu.near hc hy hwi
        have d1 : max 0 (IntKind.i64.wrap (1 * (p - q))) = dirI 1 (p - q) := by unfold dirI posI; rw [max_if]
        have d2 : max 0 (IntKind.i64.wrap (1 * x)) = dirI 1 x := by unfold dirI posI; rw [max_if]
        generalize dirI 1 (p - q) = y at *
        generalize dirI 1 x = w at *
        cases hcf : c.firm with
        | true =>
          have nr := near.1 hcf
          obtain ⟨n1, n2, n3, n4, n5, n6⟩ := near_false (m := min a (fzL s.cons (dirL false l)).sum) (by omega) (by omega) (by omega) (by omega) (by omega) (by omega) (by omega) (by omega) nr.1 nr.2
          (simp only [EVa.down, EVb.down, EVc.down, EVd.down, EVe.down, EVf.down, EVg.down, EVh.down, EVi.down, EVj.down, EVk.down, EVl.down, EVm.down, EVn.down, compO, evalO, evalOs, ofVal, ofLit, happ, happ1, setRow, setCells, bsK, oneA, Nat.reduceLT, Nat.reduceLeDiff, Nat.reduceEqDiff, Nat.reduceAdd, Nat.reduceSub, Nat.reducePow, Nat.reduceMul, ↓reduceIte, reduceCtorEq, decide_true, TY4.down, h1, h5, h11, h13, h14, h17, h18, h19, h20, hd, hx, hw, hc, hcf, e3, hii, iv, BCon.cells, min_if, max_if, d1, d2, n1, n2, n3, n4, n5, n6]; repeat' ((first | with_reducible refine fw_rc ?_ ?_ | with_reducible refine fw_cd ?_ ?_ | with_reducible refine fw_rq ?_ ?_ | with_reducible refine fw_rw ?_ ?_ | with_reducible refine fw_rl ?_ ?_ | (with_reducible refine fw_gdT ?_ ?_; kernel_rfl) | (with_reducible refine fw_dwT ?_ ?_ ?_; (first | exact fnE_none | exact rnd_none); decide +kernel) | (with_reducible refine fw_dnT ?_ ?_ ?_; (first | exact fnE_none | exact rnd_none); decide +kernel) | (with_reducible refine fw_dlT ?_ ?_ ?_; (first | exact fnE_none | exact rnd_none); decide +kernel)) <;> (intro hb; (try simp only [hb, EVa.down, EVb.down, EVc.down, EVd.down, EVe.down, EVf.down, EVg.down, EVh.down, EVi.down, EVj.down, EVk.down, EVl.down, EVm.down, EVn.down, compO, evalO, evalOs, ofVal, ofLit, happ, happ1, setRow, setCells, bsK, oneA, Nat.reduceLT, Nat.reduceLeDiff, Nat.reduceEqDiff, Nat.reduceAdd, Nat.reduceSub, Nat.reducePow, Nat.reduceMul, ↓reduceIte, reduceCtorEq, decide_true, TY4.down, h1, h5, h11, h13, h14, h17, h18, h19, h20, hd, hx, hw, hc, hcf, e3, hii, iv, BCon.cells, min_if, max_if, d1, d2, n1, n2, n3, n4, n5, n6]); try (revert hb; intro (_ : True)))))
          (refine rnd_go (kJ _ _ () ⟨?_, ?_, ?_, ?_, ?_, ?_, ?_, ?_, ?_, rfl⟩ ?_); (simp [up, h1]); (simp [up, h5]); (simp [up, h11]); (simp [up, h13]); (simp [up, h14]); (simp [up, h17]); (simp [up, h18]); (simp [up, h19]); (simp [up]); exact rfl)
        | false =>
          have nr := near.2 hcf
          obtain ⟨n1, n2, n3, n4, n5, n6⟩ := near_false (m := min (max 0 (a - (fzL s.cons (dirL false l)).sum)) (ozR s.cons (dirL false l)).sum) (by omega) (by omega) (by omega) (by omega) (by omega) (by omega) (by omega) (by omega) nr.1 nr.2
          (simp only [EVa.down, EVb.down, EVc.down, EVd.down, EVe.down, EVf.down, EVg.down, EVh.down, EVi.down, EVj.down, EVk.down, EVl.down, EVm.down, EVn.down, compO, evalO, evalOs, ofVal, ofLit, happ, happ1, setRow, setCells, bsK, oneA, Nat.reduceLT, Nat.reduceLeDiff, Nat.reduceEqDiff, Nat.reduceAdd, Nat.reduceSub, Nat.reducePow, Nat.reduceMul, ↓reduceIte, reduceCtorEq, decide_true, TY4.down, h1, h5, h11, h13, h14, h17, h18, h19, h20, hd, hx, hw, hc, hcf, e3, hii, iv, BCon.cells, min_if, max_if, d1, d2, n1, n2, n3, n4, n5, n6]; repeat' ((first | with_reducible refine fw_rc ?_ ?_ | with_reducible refine fw_cd ?_ ?_ | with_reducible refine fw_rq ?_ ?_ | with_reducible refine fw_rw ?_ ?_ | with_reducible refine fw_rl ?_ ?_ | (with_reducible refine fw_gdT ?_ ?_; kernel_rfl) | (with_reducible refine fw_dwT ?_ ?_ ?_; (first | exact fnE_none | exact rnd_none); decide +kernel) | (with_reducible refine fw_dnT ?_ ?_ ?_; (first | exact fnE_none | exact rnd_none); decide +kernel) | (with_reducible refine fw_dlT ?_ ?_ ?_; (first | exact fnE_none | exact rnd_none); decide +kernel)) <;> (intro hb; (try simp only [hb, EVa.down, EVb.down, EVc.down, EVd.down, EVe.down, EVf.down, EVg.down, EVh.down, EVi.down, EVj.down, EVk.down, EVl.down, EVm.down, EVn.down, compO, evalO, evalOs, ofVal, ofLit, happ, happ1, setRow, setCells, bsK, oneA, Nat.reduceLT, Nat.reduceLeDiff, Nat.reduceEqDiff, Nat.reduceAdd, Nat.reduceSub, Nat.reducePow, Nat.reduceMul, ↓reduceIte, reduceCtorEq, decide_true, TY4.down, h1, h5, h11, h13, h14, h17, h18, h19, h20, hd, hx, hw, hc, hcf, e3, hii, iv, BCon.cells, min_if, max_if, d1, d2, n1, n2, n3, n4, n5, n6]); try (revert hb; intro (_ : True)))))
          (refine rnd_go (kJ _ _ () ⟨?_, ?_, ?_, ?_, ?_, ?_, ?_, ?_, ?_, rfl⟩ ?_); (simp [up, h1]); (simp [up, h5]); (simp [up, h11]); (simp [up, h13]); (simp [up, h14]); (simp [up, h17]); (simp [up, h18]); (simp [up, h19]); (simp [up]); exact rfl)
      · exact ⟨by simp [up, ent, h1', h5', h11', h13', h14'], by simp [up, ent, h1', h5', h11', h13', h14'], by simp [up, ent, h1', h5', h11', h13', h14'], by simp [up, ent, h1', h5', h11', h13', h14'], by simp [up, ent, h1', h5', h11', h13', h14'], by simp [up, ent, h1', h5', h11', h13', h14'], by simp [up, ent, h1', h5', h11', h13', h14'], by simp [up, ent, h1', h5', h11', h13', h14'], by simp [up], rfl⟩
      · subst hk
        (simp only [EVa.down, EVb.down, EVc.down, EVd.down, EVe.down, EVf.down, EVg.down, EVh.down, EVi.down, EVj.down, EVk.down, EVl.down, EVm.down, EVn.down, compO, evalO, evalOs, ofVal, ofLit, happ, happ1, setRow, setCells, bsK, oneA, Nat.reduceLT, Nat.reduceLeDiff, Nat.reduceEqDiff, Nat.reduceAdd, Nat.reduceSub, Nat.reducePow, Nat.reduceMul, ↓reduceIte, reduceCtorEq, decide_true, TY4.down, hk]; repeat' ((first | with_reducible refine fw_rc ?_ ?_ | with_reducible refine fw_cd ?_ ?_ | with_reducible refine fw_rq ?_ ?_ | with_reducible refine fw_rw ?_ ?_ | with_reducible refine fw_rl ?_ ?_ | (with_reducible refine fw_gdT ?_ ?_; kernel_rfl) | (with_reducible refine fw_dwT ?_ ?_ ?_; (first | exact fnE_none | exact rnd_none); decide +kernel) | (with_reducible refine fw_dnT ?_ ?_ ?_; (first | exact fnE_none | exact rnd_none); decide +kernel) | (with_reducible refine fw_dlT ?_ ?_ ?_; (first | exact fnE_none | exact rnd_none); decide +kernel)) <;> (intro hb; (try simp only [hb, EVa.down, EVb.down, EVc.down, EVd.down, EVe.down, EVf.down, EVg.down, EVh.down, EVi.down, EVj.down, EVk.down, EVl.down, EVm.down, EVn.down, compO, evalO, evalOs, ofVal, ofLit, happ, happ1, setRow, setCells, bsK, oneA, Nat.reduceLT, Nat.reduceLeDiff, Nat.reduceEqDiff, Nat.reduceAdd, Nat.reduceSub, Nat.reducePow, Nat.reduceMul, ↓reduceIte, reduceCtorEq, decide_true, TY4.down, hk]); try (revert hb; intro (_ : True)))))
theorem wayS_nil (f o : Bool) (cs : List BCon) (n : Int) : wayS f o cs [] n = n := by cases cs <;> rfl
theorem w_FirmNT (hk : om'.call (.fn 15) [] [] = some (.ret (.bool true), [])) (s : BStore) (hs : s.small) (nn : Bool) (a b : Int) (q1 : shortB s.cons = true) (hv : (storeB s && decide (0 = s.cons.length) && wantsB [] && inB a 0 800000000 && inB b 0 800000000) = true) :
    om'.call (.fn 4) [.agg [.int .i64 s.space, .int .i64 s.inn, .int .i64 s.out, .int .i64 s.lead, .int .i64 s.fuel, slv 11 false s.nn (s.cons.map BCon.cells)], slv 1 true nn [], .int .i64 a, .int .i64 b, .bool true] [] = some (.ret (.bool true), []) := by
  have h1 := w_short (nn := s.nn) hs.cons
  have h2 := r_Store s hs
  have h3 := w_wanted s (l := []) (nn := nn) (by simp)
  have h4 := r_Much
  have hw : wantedB s.cons.length [] = (wantsB [] && decide (0 = s.cons.length)) := rfl
  rw [hw, List.map_nil] at h3
  have hv' := hv
  simp only [Bool.and_eq_true, decide_eq_true_eq] at hv
  obtain ⟨⟨⟨⟨v1, v2⟩, v3⟩, v4⟩, v5⟩ := hv
  have g1 := h4 a
  have g2 := h4 b
  rw [q1] at h1
  rw [v1] at h2
  rw [v3, decide_eq_true v2] at h3
  rw [v4] at g1
  rw [v5] at g2
  simp only [inB, Bool.and_eq_true, decide_eq_true_eq] at v4 v5
  have h5 := e_GrantN (nn := nn) hs hv'
  have w1 := fun (nn f o : Bool) => w_way s (l := []) (nn := nn) (sg := (-1)) (f := f) (o := o) (by simpa using v2) (by simp)
  simp only [List.map_nil, wayS_nil] at w1
  have w2 := fun f o => w1 false f o
  simp only [slv_nil] at w2
  have z1 : (!((0 : Int) == min 0 b)) = false := by
    have : min 0 b = 0 := by omega
    rw [this]; rfl
  have z2 : IntKind.i64.wrap (b - 0) = b := by rw [Int.sub_zero]; exact wrap_of (by omega) (by omega)
  (refine ClQ.eq (stOf rfl Tryz.func4 rfl rfl ?_); simp only [Tryz.f4]; simp only [EVa.down, EVb.down, EVc.down, EVd.down, EVe.down, EVf.down, EVg.down, EVh.down, EVi.down, EVj.down, EVk.down, EVl.down, EVm.down, EVn.down, compO, evalO, evalOs, ofVal, ofLit, happ, happ1, setRow, setCells, bsK, oneA, Nat.reduceLT, Nat.reduceLeDiff, Nat.reduceEqDiff, Nat.reduceAdd, Nat.reduceSub, Nat.reducePow, Nat.reduceMul, ↓reduceIte, reduceCtorEq, decide_true, TY4.down, h1, h2, h3, g1, g2, h5, hk, i_eqself, Int.natCast_zero, Int.reduceLT, decide_false]; repeat' ((first | with_reducible refine fw_rc ?_ ?_ | with_reducible refine fw_cd ?_ ?_ | with_reducible refine fw_rq ?_ ?_ | with_reducible refine fw_rw ?_ ?_ | with_reducible refine fw_rl ?_ ?_ | (with_reducible refine fw_gdT ?_ ?_; kernel_rfl) | (with_reducible refine fw_dwT ?_ ?_ ?_; (first | exact fnE_none | exact rnd_none); decide +kernel) | (with_reducible refine fw_dnT ?_ ?_ ?_; (first | exact fnE_none | exact rnd_none); decide +kernel) | (with_reducible refine fw_dlT ?_ ?_ ?_; (first | exact fnE_none | exact rnd_none); decide +kernel)) <;> (intro hb; (try simp only [hb, EVa.down, EVb.down, EVc.down, EVd.down, EVe.down, EVf.down, EVg.down, EVh.down, EVi.down, EVj.down, EVk.down, EVl.down, EVm.down, EVn.down, compO, evalO, evalOs, ofVal, ofLit, happ, happ1, setRow, setCells, bsK, oneA, Nat.reduceLT, Nat.reduceLeDiff, Nat.reduceEqDiff, Nat.reduceAdd, Nat.reduceSub, Nat.reducePow, Nat.reduceMul, ↓reduceIte, reduceCtorEq, decide_true, TY4.down, h1, h2, h3, g1, g2, h5, hk, i_eqself, Int.natCast_zero, Int.reduceLT, decide_false]); try (revert hb; intro (_ : True)))))
  refine fw_ot (lst 191 ([] : List Int) (fun i (zz : Unit) t h => t 1 = slv 1 true nn [] ∧ t 5 = .ptr 0 0 0 ∧ t 11 = .nils ∧ t 13 = .int .i64 (-1) ∧ t 14 = .int .i64 b ∧ t 15 = .int .i64 i ∧ h = [.live 6 false false [[.int .i64 s.space, .int .i64 s.inn, .int .i64 s.out, .int .i64 s.lead, .int .i64 s.fuel, slv 11 false s.nn (s.cons.map BCon.cells)]]]) (fun rest zz => ()) (fun r e t h => e = .exit 0 ∧ t 1 = slv 1 true nn [] ∧ t 5 = .ptr 0 0 0 ∧ t 11 = .nils ∧ t 13 = .int .i64 (-1) ∧ t 14 = .int .i64 b ∧ h = [.live 6 false false [[.int .i64 s.space, .int .i64 s.inn, .int .i64 s.out, .int .i64 s.lead, .int .i64 s.fuel, slv 11 false s.nn (s.cons.map BCon.cells)]]]) ?_ ?_ () _ _ ?_) (fun e t h hk => ?_)
  · rintro _ t h Q' kQ ⟨h1, h5, h11, h13, h14, h15, rfl⟩
    (simp only [EVa.down, EVb.down, EVc.down, EVd.down, EVe.down, EVf.down, EVg.down, EVh.down, EVi.down, EVj.down, EVk.down, EVl.down, EVm.down, EVn.down, compO, evalO, evalOs, ofVal, ofLit, happ, happ1, setRow, setCells, bsK, oneA, Nat.reduceLT, Nat.reduceLeDiff, Nat.reduceEqDiff, Nat.reduceAdd, Nat.reduceSub, Nat.reducePow, Nat.reduceMul, ↓reduceIte, reduceCtorEq, decide_true, TY4.down, h1, h5, h11, h13, h14, h15, Int.lt_irrefl, decide_false, Int.natCast_zero, Int.reduceLT]; repeat' ((first | with_reducible refine fw_rc ?_ ?_ | with_reducible refine fw_cd ?_ ?_ | with_reducible refine fw_rq ?_ ?_ | with_reducible refine fw_rw ?_ ?_ | with_reducible refine fw_rl ?_ ?_ | (with_reducible refine fw_gdT ?_ ?_; kernel_rfl) | (with_reducible refine fw_dwT ?_ ?_ ?_; (first | exact fnE_none | exact rnd_none); decide +kernel) | (with_reducible refine fw_dnT ?_ ?_ ?_; (first | exact fnE_none | exact rnd_none); decide +kernel) | (with_reducible refine fw_dlT ?_ ?_ ?_; (first | exact fnE_none | exact rnd_none); decide +kernel)) <;> (intro hb; (try simp only [hb, EVa.down, EVb.down, EVc.down, EVd.down, EVe.down, EVf.down, EVg.down, EVh.down, EVi.down, EVj.down, EVk.down, EVl.down, EVm.down, EVn.down, compO, evalO, evalOs, ofVal, ofLit, happ, happ1, setRow, setCells, bsK, oneA, Nat.reduceLT, Nat.reduceLeDiff, Nat.reduceEqDiff, Nat.reduceAdd, Nat.reduceSub, Nat.reducePow, Nat.reduceMul, ↓reduceIte, reduceCtorEq, decide_true, TY4.down, h1, h5, h11, h13, h14, h15, Int.lt_irrefl, decide_false, Int.natCast_zero, Int.reduceLT]); try (revert hb; intro (_ : True)))))
    exact kQ _ _ _ ⟨rfl, by simp [up, h1], by simp [up, h5], by simp [up, h11], by simp [up, h13], by simp [up, h14], rfl⟩
  · rintro x rest i _ t h J Q' kJ kQ hx hi ⟨h1, h5, h11, h13, h14, h15, rfl⟩
    have hd : decide ((i : Int) < (([] : List Int).length : Int)) = true := decide_eq_true (by omega)
    have hw := wrap_next hi (by simp)
    simp at hx
  · exact ⟨by simp [up, ent], by simp [up, ent], by simp [up, ent], by simp [up, ent], by simp [up, ent], by simp [up], rfl⟩
  · obtain ⟨rfl, h1', h5', h11', h13', h14', rfl⟩ := hk
    (simp only [EVa.down, EVb.down, EVc.down, EVd.down, EVe.down, EVf.down, EVg.down, EVh.down, EVi.down, EVj.down, EVk.down, EVl.down, EVm.down, EVn.down, compO, evalO, evalOs, ofVal, ofLit, happ, happ1, setRow, setCells, bsK, oneA, Nat.reduceLT, Nat.reduceLeDiff, Nat.reduceEqDiff, Nat.reduceAdd, Nat.reduceSub, Nat.reducePow, Nat.reduceMul, ↓reduceIte, reduceCtorEq, decide_true, TY4.down, h1', h5', h11', h13', h14', w1, w2, min_if, max_if, z1, z2, Int.reduceLT, decide_false]; repeat' ((first | with_reducible refine fw_rc ?_ ?_ | with_reducible refine fw_cd ?_ ?_ | with_reducible refine fw_rq ?_ ?_ | with_reducible refine fw_rw ?_ ?_ | with_reducible refine fw_rl ?_ ?_ | (with_reducible refine fw_gdT ?_ ?_; kernel_rfl) | (with_reducible refine fw_dwT ?_ ?_ ?_; (first | exact fnE_none | exact rnd_none); decide +kernel) | (with_reducible refine fw_dnT ?_ ?_ ?_; (first | exact fnE_none | exact rnd_none); decide +kernel) | (with_reducible refine fw_dlT ?_ ?_ ?_; (first | exact fnE_none | exact rnd_none); decide +kernel)) <;> (intro hb; (try simp only [hb, EVa.down, EVb.down, EVc.down, EVd.down, EVe.down, EVf.down, EVg.down, EVh.down, EVi.down, EVj.down, EVk.down, EVl.down, EVm.down, EVn.down, compO, evalO, evalOs, ofVal, ofLit, happ, happ1, setRow, setCells, bsK, oneA, Nat.reduceLT, Nat.reduceLeDiff, Nat.reduceEqDiff, Nat.reduceAdd, Nat.reduceSub, Nat.reducePow, Nat.reduceMul, ↓reduceIte, reduceCtorEq, decide_true, TY4.down, h1', h5', h11', h13', h14', w1, w2, min_if, max_if, z1, z2, Int.reduceLT, decide_false]); try (revert hb; intro (_ : True)))))
    refine fw_ot (lst 191 ([] : List Int) (fun i (zz : Unit) t h => t 11 = .nils ∧ t 20 = .int .i64 i) (fun rest zz => ()) (fun r e t h => e = .exit 2) ?_ ?_ () _ _ ?_) (fun e t h hk => ?_)
    · rintro _ t h Q' kQ ⟨h11, h20⟩
      (simp only [EVa.down, EVb.down, EVc.down, EVd.down, EVe.down, EVf.down, EVg.down, EVh.down, EVi.down, EVj.down, EVk.down, EVl.down, EVm.down, EVn.down, compO, evalO, evalOs, ofVal, ofLit, happ, happ1, setRow, setCells, bsK, oneA, Nat.reduceLT, Nat.reduceLeDiff, Nat.reduceEqDiff, Nat.reduceAdd, Nat.reduceSub, Nat.reducePow, Nat.reduceMul, ↓reduceIte, reduceCtorEq, decide_true, TY4.down, h11, h20, Int.lt_irrefl, decide_false, Int.natCast_zero, Int.reduceLT]; repeat' ((first | with_reducible refine fw_rc ?_ ?_ | with_reducible refine fw_cd ?_ ?_ | with_reducible refine fw_rq ?_ ?_ | with_reducible refine fw_rw ?_ ?_ | with_reducible refine fw_rl ?_ ?_ | (with_reducible refine fw_gdT ?_ ?_; kernel_rfl) | (with_reducible refine fw_dwT ?_ ?_ ?_; (first | exact fnE_none | exact rnd_none); decide +kernel) | (with_reducible refine fw_dnT ?_ ?_ ?_; (first | exact fnE_none | exact rnd_none); decide +kernel) | (with_reducible refine fw_dlT ?_ ?_ ?_; (first | exact fnE_none | exact rnd_none); decide +kernel)) <;> (intro hb; (try simp only [hb, EVa.down, EVb.down, EVc.down, EVd.down, EVe.down, EVf.down, EVg.down, EVh.down, EVi.down, EVj.down, EVk.down, EVl.down, EVm.down, EVn.down, compO, evalO, evalOs, ofVal, ofLit, happ, happ1, setRow, setCells, bsK, oneA, Nat.reduceLT, Nat.reduceLeDiff, Nat.reduceEqDiff, Nat.reduceAdd, Nat.reduceSub, Nat.reducePow, Nat.reduceMul, ↓reduceIte, reduceCtorEq, decide_true, TY4.down, h11, h20, Int.lt_irrefl, decide_false, Int.natCast_zero, Int.reduceLT]); try (revert hb; intro (_ : True)))))
      exact kQ _ _ _ rfl
    · rintro x rest i _ t h J Q' kJ kQ hx hi ⟨h11, h20⟩
      have hd : decide ((i : Int) < (([] : List Int).length : Int)) = true := decide_eq_true (by omega)
      have hw := wrap_next hi (by simp)
      simp at hx
    · exact ⟨by simp [up, ent, h11'], by simp [up]⟩
    · subst hk
      (simp only [EVa.down, EVb.down, EVc.down, EVd.down, EVe.down, EVf.down, EVg.down, EVh.down, EVi.down, EVj.down, EVk.down, EVl.down, EVm.down, EVn.down, compO, evalO, evalOs, ofVal, ofLit, happ, happ1, setRow, setCells, bsK, oneA, Nat.reduceLT, Nat.reduceLeDiff, Nat.reduceEqDiff, Nat.reduceAdd, Nat.reduceSub, Nat.reducePow, Nat.reduceMul, ↓reduceIte, reduceCtorEq, decide_true, TY4.down, hk]; repeat' ((first | with_reducible refine fw_rc ?_ ?_ | with_reducible refine fw_cd ?_ ?_ | with_reducible refine fw_rq ?_ ?_ | with_reducible refine fw_rw ?_ ?_ | with_reducible refine fw_rl ?_ ?_ | (with_reducible refine fw_gdT ?_ ?_; kernel_rfl) | (with_reducible refine fw_dwT ?_ ?_ ?_; (first | exact fnE_none | exact rnd_none); decide +kernel) | (with_reducible refine fw_dnT ?_ ?_ ?_; (first | exact fnE_none | exact rnd_none); decide +kernel) | (with_reducible refine fw_dlT ?_ ?_ ?_; (first | exact fnE_none | exact rnd_none); decide +kernel)) <;> (intro hb; (try simp only [hb, EVa.down, EVb.down, EVc.down, EVd.down, EVe.down, EVf.down, EVg.down, EVh.down, EVi.down, EVj.down, EVk.down, EVl.down, EVm.down, EVn.down, compO, evalO, evalOs, ofVal, ofLit, happ, happ1, setRow, setCells, bsK, oneA, Nat.reduceLT, Nat.reduceLeDiff, Nat.reduceEqDiff, Nat.reduceAdd, Nat.reduceSub, Nat.reducePow, Nat.reduceMul, ↓reduceIte, reduceCtorEq, decide_true, TY4.down, hk]); try (revert hb; intro (_ : True)))))
theorem w_FirmNF (hk : om'.call (.fn 15) [] [] = some (.ret (.bool true), [])) (s : BStore) (hs : s.small) (nn : Bool) (a b : Int) (q1 : shortB s.cons = true) (hv : (storeB s && decide (0 = s.cons.length) && wantsB [] && inB a 0 800000000 && inB b 0 800000000) = true) :
    om'.call (.fn 4) [.agg [.int .i64 s.space, .int .i64 s.inn, .int .i64 s.out, .int .i64 s.lead, .int .i64 s.fuel, slv 11 false s.nn (s.cons.map BCon.cells)], slv 1 true nn [], .int .i64 a, .int .i64 b, .bool false] [] = some (.ret (.bool true), []) := by
  have h1 := w_short (nn := s.nn) hs.cons
  have h2 := r_Store s hs
  have h3 := w_wanted s (l := []) (nn := nn) (by simp)
  have h4 := r_Much
  have hw : wantedB s.cons.length [] = (wantsB [] && decide (0 = s.cons.length)) := rfl
  rw [hw, List.map_nil] at h3
  have hv' := hv
  simp only [Bool.and_eq_true, decide_eq_true_eq] at hv
  obtain ⟨⟨⟨⟨v1, v2⟩, v3⟩, v4⟩, v5⟩ := hv
  have g1 := h4 a
  have g2 := h4 b
  rw [q1] at h1
  rw [v1] at h2
  rw [v3, decide_eq_true v2] at h3
  rw [v4] at g1
  rw [v5] at g2
  simp only [inB, Bool.and_eq_true, decide_eq_true_eq] at v4 v5
  have h5 := e_GrantN (nn := nn) hs hv'
  have w1 := fun (nn f o : Bool) => w_way s (l := []) (nn := nn) (sg := 1) (f := f) (o := o) (by simpa using v2) (by simp)
  simp only [List.map_nil, wayS_nil] at w1
  have w2 := fun f o => w1 false f o
  simp only [slv_nil] at w2
  have z1 : (!((0 : Int) == min 0 a)) = false := by
    have : min 0 a = 0 := by omega
    rw [this]; rfl
  have z2 : IntKind.i64.wrap (a - 0) = a := by rw [Int.sub_zero]; exact wrap_of (by omega) (by omega)
  (refine ClQ.eq (stOf rfl Tryz.func4 rfl rfl ?_); simp only [Tryz.f4]; simp only [EVa.down, EVb.down, EVc.down, EVd.down, EVe.down, EVf.down, EVg.down, EVh.down, EVi.down, EVj.down, EVk.down, EVl.down, EVm.down, EVn.down, compO, evalO, evalOs, ofVal, ofLit, happ, happ1, setRow, setCells, bsK, oneA, Nat.reduceLT, Nat.reduceLeDiff, Nat.reduceEqDiff, Nat.reduceAdd, Nat.reduceSub, Nat.reducePow, Nat.reduceMul, ↓reduceIte, reduceCtorEq, decide_true, TY4.down, h1, h2, h3, g1, g2, h5, hk, i_eqself, Int.natCast_zero, Int.reduceLT, decide_false]; repeat' ((first | with_reducible refine fw_rc ?_ ?_ | with_reducible refine fw_cd ?_ ?_ | with_reducible refine fw_rq ?_ ?_ | with_reducible refine fw_rw ?_ ?_ | with_reducible refine fw_rl ?_ ?_ | (with_reducible refine fw_gdT ?_ ?_; kernel_rfl) | (with_reducible refine fw_dwT ?_ ?_ ?_; (first | exact fnE_none | exact rnd_none); decide +kernel) | (with_reducible refine fw_dnT ?_ ?_ ?_; (first | exact fnE_none | exact rnd_none); decide +kernel) | (with_reducible refine fw_dlT ?_ ?_ ?_; (first | exact fnE_none | exact rnd_none); decide +kernel)) <;> (intro hb; (try simp only [hb, EVa.down, EVb.down, EVc.down, EVd.down, EVe.down, EVf.down, EVg.down, EVh.down, EVi.down, EVj.down, EVk.down, EVl.down, EVm.down, EVn.down, compO, evalO, evalOs, ofVal, ofLit, happ, happ1, setRow, setCells, bsK, oneA, Nat.reduceLT, Nat.reduceLeDiff, Nat.reduceEqDiff, Nat.reduceAdd, Nat.reduceSub, Nat.reducePow, Nat.reduceMul, ↓reduceIte, reduceCtorEq, decide_true, TY4.down, h1, h2, h3, g1, g2, h5, hk, i_eqself, Int.natCast_zero, Int.reduceLT, decide_false]); try (revert hb; intro (_ : True)))))
  refine fw_ot (lst 191 ([] : List Int) (fun i (zz : Unit) t h => t 1 = slv 1 true nn [] ∧ t 5 = .ptr 0 0 0 ∧ t 11 = .nils ∧ t 13 = .int .i64 1 ∧ t 14 = .int .i64 a ∧ t 15 = .int .i64 i ∧ h = [.live 6 false false [[.int .i64 s.space, .int .i64 s.inn, .int .i64 s.out, .int .i64 s.lead, .int .i64 s.fuel, slv 11 false s.nn (s.cons.map BCon.cells)]]]) (fun rest zz => ()) (fun r e t h => e = .exit 0 ∧ t 1 = slv 1 true nn [] ∧ t 5 = .ptr 0 0 0 ∧ t 11 = .nils ∧ t 13 = .int .i64 1 ∧ t 14 = .int .i64 a ∧ h = [.live 6 false false [[.int .i64 s.space, .int .i64 s.inn, .int .i64 s.out, .int .i64 s.lead, .int .i64 s.fuel, slv 11 false s.nn (s.cons.map BCon.cells)]]]) ?_ ?_ () _ _ ?_) (fun e t h hk => ?_)
  · rintro _ t h Q' kQ ⟨h1, h5, h11, h13, h14, h15, rfl⟩
    (simp only [EVa.down, EVb.down, EVc.down, EVd.down, EVe.down, EVf.down, EVg.down, EVh.down, EVi.down, EVj.down, EVk.down, EVl.down, EVm.down, EVn.down, compO, evalO, evalOs, ofVal, ofLit, happ, happ1, setRow, setCells, bsK, oneA, Nat.reduceLT, Nat.reduceLeDiff, Nat.reduceEqDiff, Nat.reduceAdd, Nat.reduceSub, Nat.reducePow, Nat.reduceMul, ↓reduceIte, reduceCtorEq, decide_true, TY4.down, h1, h5, h11, h13, h14, h15, Int.lt_irrefl, decide_false, Int.natCast_zero, Int.reduceLT]; repeat' ((first | with_reducible refine fw_rc ?_ ?_ | with_reducible refine fw_cd ?_ ?_ | with_reducible refine fw_rq ?_ ?_ | with_reducible refine fw_rw ?_ ?_ | with_reducible refine fw_rl ?_ ?_ | (with_reducible refine fw_gdT ?_ ?_; kernel_rfl) | (with_reducible refine fw_dwT ?_ ?_ ?_; (first | exact fnE_none | exact rnd_none); decide +kernel) | (with_reducible refine fw_dnT ?_ ?_ ?_; (first | exact fnE_none | exact rnd_none); decide +kernel) | (with_reducible refine fw_dlT ?_ ?_ ?_; (first | exact fnE_none | exact rnd_none); decide +kernel)) <;> (intro hb; (try simp only [hb, EVa.down, EVb.down, EVc.down, EVd.down, EVe.down, EVf.down, EVg.down, EVh.down, EVi.down, EVj.down, EVk.down, EVl.down, EVm.down, EVn.down, compO, evalO, evalOs, ofVal, ofLit, happ, happ1, setRow, setCells, bsK, oneA, Nat.reduceLT, Nat.reduceLeDiff, Nat.reduceEqDiff, Nat.reduceAdd, Nat.reduceSub, Nat.reducePow, Nat.reduceMul, ↓reduceIte, reduceCtorEq, decide_true, TY4.down, h1, h5, h11, h13, h14, h15, Int.lt_irrefl, decide_false, Int.natCast_zero, Int.reduceLT]); try (revert hb; intro (_ : True)))))
    exact kQ _ _ _ ⟨rfl, by simp [up, h1], by simp [up, h5], by simp [up, h11], by simp [up, h13], by simp [up, h14], rfl⟩
  · rintro x rest i _ t h J Q' kJ kQ hx hi ⟨h1, h5, h11, h13, h14, h15, rfl⟩
    have hd : decide ((i : Int) < (([] : List Int).length : Int)) = true := decide_eq_true (by omega)
    have hw := wrap_next hi (by simp)
    simp at hx
  · exact ⟨by simp [up, ent], by simp [up, ent], by simp [up, ent], by simp [up, ent], by simp [up, ent], by simp [up], rfl⟩
  · obtain ⟨rfl, h1', h5', h11', h13', h14', rfl⟩ := hk
    (simp only [EVa.down, EVb.down, EVc.down, EVd.down, EVe.down, EVf.down, EVg.down, EVh.down, EVi.down, EVj.down, EVk.down, EVl.down, EVm.down, EVn.down, compO, evalO, evalOs, ofVal, ofLit, happ, happ1, setRow, setCells, bsK, oneA, Nat.reduceLT, Nat.reduceLeDiff, Nat.reduceEqDiff, Nat.reduceAdd, Nat.reduceSub, Nat.reducePow, Nat.reduceMul, ↓reduceIte, reduceCtorEq, decide_true, TY4.down, h1', h5', h11', h13', h14', w1, w2, min_if, max_if, z1, z2, Int.reduceLT, decide_false]; repeat' ((first | with_reducible refine fw_rc ?_ ?_ | with_reducible refine fw_cd ?_ ?_ | with_reducible refine fw_rq ?_ ?_ | with_reducible refine fw_rw ?_ ?_ | with_reducible refine fw_rl ?_ ?_ | (with_reducible refine fw_gdT ?_ ?_; kernel_rfl) | (with_reducible refine fw_dwT ?_ ?_ ?_; (first | exact fnE_none | exact rnd_none); decide +kernel) | (with_reducible refine fw_dnT ?_ ?_ ?_; (first | exact fnE_none | exact rnd_none); decide +kernel) | (with_reducible refine fw_dlT ?_ ?_ ?_; (first | exact fnE_none | exact rnd_none); decide +kernel)) <;> (intro hb; (try simp only [hb, EVa.down, EVb.down, EVc.down, EVd.down, EVe.down, EVf.down, EVg.down, EVh.down, EVi.down, EVj.down, EVk.down, EVl.down, EVm.down, EVn.down, compO, evalO, evalOs, ofVal, ofLit, happ, happ1, setRow, setCells, bsK, oneA, Nat.reduceLT, Nat.reduceLeDiff, Nat.reduceEqDiff, Nat.reduceAdd, Nat.reduceSub, Nat.reducePow, Nat.reduceMul, ↓reduceIte, reduceCtorEq, decide_true, TY4.down, h1', h5', h11', h13', h14', w1, w2, min_if, max_if, z1, z2, Int.reduceLT, decide_false]); try (revert hb; intro (_ : True)))))
    refine fw_ot (lst 191 ([] : List Int) (fun i (zz : Unit) t h => t 11 = .nils ∧ t 20 = .int .i64 i) (fun rest zz => ()) (fun r e t h => e = .exit 2) ?_ ?_ () _ _ ?_) (fun e t h hk => ?_)
    · rintro _ t h Q' kQ ⟨h11, h20⟩
      (simp only [EVa.down, EVb.down, EVc.down, EVd.down, EVe.down, EVf.down, EVg.down, EVh.down, EVi.down, EVj.down, EVk.down, EVl.down, EVm.down, EVn.down, compO, evalO, evalOs, ofVal, ofLit, happ, happ1, setRow, setCells, bsK, oneA, Nat.reduceLT, Nat.reduceLeDiff, Nat.reduceEqDiff, Nat.reduceAdd, Nat.reduceSub, Nat.reducePow, Nat.reduceMul, ↓reduceIte, reduceCtorEq, decide_true, TY4.down, h11, h20, Int.lt_irrefl, decide_false, Int.natCast_zero, Int.reduceLT]; repeat' ((first | with_reducible refine fw_rc ?_ ?_ | with_reducible refine fw_cd ?_ ?_ | with_reducible refine fw_rq ?_ ?_ | with_reducible refine fw_rw ?_ ?_ | with_reducible refine fw_rl ?_ ?_ | (with_reducible refine fw_gdT ?_ ?_; kernel_rfl) | (with_reducible refine fw_dwT ?_ ?_ ?_; (first | exact fnE_none | exact rnd_none); decide +kernel) | (with_reducible refine fw_dnT ?_ ?_ ?_; (first | exact fnE_none | exact rnd_none); decide +kernel) | (with_reducible refine fw_dlT ?_ ?_ ?_; (first | exact fnE_none | exact rnd_none); decide +kernel)) <;> (intro hb; (try simp only [hb, EVa.down, EVb.down, EVc.down, EVd.down, EVe.down, EVf.down, EVg.down, EVh.down, EVi.down, EVj.down, EVk.down, EVl.down, EVm.down, EVn.down, compO, evalO, evalOs, ofVal, ofLit, happ, happ1, setRow, setCells, bsK, oneA, Nat.reduceLT, Nat.reduceLeDiff, Nat.reduceEqDiff, Nat.reduceAdd, Nat.reduceSub, Nat.reducePow, Nat.reduceMul, ↓reduceIte, reduceCtorEq, decide_true, TY4.down, h11, h20, Int.lt_irrefl, decide_false, Int.natCast_zero, Int.reduceLT]); try (revert hb; intro (_ : True)))))
      exact kQ _ _ _ rfl
    · rintro x rest i _ t h J Q' kJ kQ hx hi ⟨h11, h20⟩
      have hd : decide ((i : Int) < (([] : List Int).length : Int)) = true := decide_eq_true (by omega)
      have hw := wrap_next hi (by simp)
      simp at hx
    · exact ⟨by simp [up, ent, h11'], by simp [up]⟩
    · subst hk
      (simp only [EVa.down, EVb.down, EVc.down, EVd.down, EVe.down, EVf.down, EVg.down, EVh.down, EVi.down, EVj.down, EVk.down, EVl.down, EVm.down, EVn.down, compO, evalO, evalOs, ofVal, ofLit, happ, happ1, setRow, setCells, bsK, oneA, Nat.reduceLT, Nat.reduceLeDiff, Nat.reduceEqDiff, Nat.reduceAdd, Nat.reduceSub, Nat.reducePow, Nat.reduceMul, ↓reduceIte, reduceCtorEq, decide_true, TY4.down, hk]; repeat' ((first | with_reducible refine fw_rc ?_ ?_ | with_reducible refine fw_cd ?_ ?_ | with_reducible refine fw_rq ?_ ?_ | with_reducible refine fw_rw ?_ ?_ | with_reducible refine fw_rl ?_ ?_ | (with_reducible refine fw_gdT ?_ ?_; kernel_rfl) | (with_reducible refine fw_dwT ?_ ?_ ?_; (first | exact fnE_none | exact rnd_none); decide +kernel) | (with_reducible refine fw_dnT ?_ ?_ ?_; (first | exact fnE_none | exact rnd_none); decide +kernel) | (with_reducible refine fw_dlT ?_ ?_ ?_; (first | exact fnE_none | exact rnd_none); decide +kernel)) <;> (intro hb; (try simp only [hb, EVa.down, EVb.down, EVc.down, EVd.down, EVe.down, EVf.down, EVg.down, EVh.down, EVi.down, EVj.down, EVk.down, EVl.down, EVm.down, EVn.down, compO, evalO, evalOs, ofVal, ofLit, happ, happ1, setRow, setCells, bsK, oneA, Nat.reduceLT, Nat.reduceLeDiff, Nat.reduceEqDiff, Nat.reduceAdd, Nat.reduceSub, Nat.reducePow, Nat.reduceMul, ↓reduceIte, reduceCtorEq, decide_true, TY4.down, hk]); try (revert hb; intro (_ : True)))))
theorem w_BookFirm (hk : om'.call (.fn 15) [] [] = some (.ret (.bool true), [])) (s : BStore) (hs : s.small) (l : List Int) (nn : Bool) (hl : l.length ≤ maxLen) (a b : Int) (out : Bool) : om'.call (.fn 4) [.agg [.int .i64 s.space, .int .i64 s.inn, .int .i64 s.out, .int .i64 s.lead, .int .i64 s.fuel, slv 11 false s.nn (s.cons.map BCon.cells)], slv 1 true nn (l.map iv), .int .i64 a, .int .i64 b, .bool out] [] = some (.ret (.bool true), []) := by
  have h1 := w_short (nn := s.nn) hs.cons
  have h2 := r_Store s hs
  have h3 := w_wanted s (l := l) (nn := nn) hl
  have h4 := r_Much
  have h12 : decide ((12 : Int) < (l.length : Int)) = decide (12 < l.length) := by rw [decide_eq_decide]; omega
  have hw : wantedB s.cons.length l = (wantsB l && decide (l.length = s.cons.length)) := rfl
  rw [hw] at h3
  cases hv : (shortB s.cons && !decide (12 < l.length) && (storeB s && decide (l.length = s.cons.length) && wantsB l && inB a 0 800000000 && inB b 0 800000000)) with
  | false =>
    (refine ClQ.eq (stOf rfl Tryz.func4 rfl rfl ?_); simp only [Tryz.f4]; simp only [EVa.down, EVb.down, EVc.down, EVd.down, EVe.down, EVf.down, EVg.down, EVh.down, EVi.down, EVj.down, EVk.down, EVl.down, EVm.down, EVn.down, compO, evalO, evalOs, ofVal, ofLit, happ, happ1, setRow, setCells, bsK, oneA, Nat.reduceLT, Nat.reduceLeDiff, Nat.reduceEqDiff, Nat.reduceAdd, Nat.reduceSub, Nat.reducePow, Nat.reduceMul, ↓reduceIte, reduceCtorEq, decide_true, TY4.down, h1, h2, h3, h4, hk, h12, List.length_map]; repeat' ((first | with_reducible refine fw_rc ?_ ?_ | with_reducible refine fw_cd ?_ ?_ | with_reducible refine fw_rq ?_ ?_ | with_reducible refine fw_rw ?_ ?_ | with_reducible refine fw_rl ?_ ?_ | (with_reducible refine fw_gdT ?_ ?_; kernel_rfl) | (with_reducible refine fw_dwT ?_ ?_ ?_; (first | exact fnE_none | exact rnd_none); decide +kernel) | (with_reducible refine fw_dnT ?_ ?_ ?_; (first | exact fnE_none | exact rnd_none); decide +kernel) | (with_reducible refine fw_dlT ?_ ?_ ?_; (first | exact fnE_none | exact rnd_none); decide +kernel)) <;> (intro hb; (try simp only [hb, EVa.down, EVb.down, EVc.down, EVd.down, EVe.down, EVf.down, EVg.down, EVh.down, EVi.down, EVj.down, EVk.down, EVl.down, EVm.down, EVn.down, compO, evalO, evalOs, ofVal, ofLit, happ, happ1, setRow, setCells, bsK, oneA, Nat.reduceLT, Nat.reduceLeDiff, Nat.reduceEqDiff, Nat.reduceAdd, Nat.reduceSub, Nat.reducePow, Nat.reduceMul, ↓reduceIte, reduceCtorEq, decide_true, TY4.down, h1, h2, h3, h4, hk, h12, List.length_map]); try (revert hb; intro (_ : True)))))
    all_goals (exfalso; simp_all)
  | true =>
    simp only [Bool.and_eq_true, Bool.not_eq_true', decide_eq_false_iff_not] at hv
    obtain ⟨⟨q1, q2⟩, hv⟩ := hv
    have hv' := hv
    simp only [decide_eq_true_eq] at hv
    obtain ⟨⟨⟨⟨v1, v2⟩, v3⟩, v4⟩, v5⟩ := hv
    have h8 := storeB_len v1
    have g1 := h4 a
    have g2 := h4 b
    rw [q1] at h1
    rw [v1] at h2
    rw [v3, v2] at h3
    rw [v4] at g1
    rw [v5] at g2
    have q2' : decide (12 < l.length) = false := by simpa using q2
    simp only [inB, Bool.and_eq_true, decide_eq_true_eq] at v4 v5
    by_cases hne : l = []
    · subst hne
      have hv0 : (storeB s && decide (0 = s.cons.length) && wantsB [] && inB a 0 800000000 && inB b 0 800000000) = true := by simpa using hv'
      cases out with
      | true => exact w_FirmNT hk s hs nn a b q1 hv0
      | false => exact w_FirmNF hk s hs nn a b q1 hv0
    · have hv0 : (storeB s && decide (l.length = s.cons.length) && wantsB l && inB a 0 800000000 && inB b 0 800000000) = true := by simpa using hv'
      cases out with
      | true => exact w_FirmT hk s hs l nn hl a b hne q1 q2 hv0
      | false => exact w_FirmF hk s hs l nn hl a b hne q1 q2 hv0
theorem tv_bool {av : AV} (h : TyV Tryz.prog 7 4 av) : ∃ x, av = .bool x := by
  unfold TyV at h
  simp only [Tryz.underlying4] at h
  obtain ⟨x, hx⟩ := ty_bool h
  simp only [List.cons.injEq, and_true] at hx
  exact ⟨x, hx⟩
theorem t_BookFirm (hk : om'.call (.fn 15) [] [] = some (.ret (.bool true), [])) : ∀ avs, TyVs Tryz.prog 7 Tryz.f4.params.toList avs → om'.call (.fn 4) avs [] = some (.ret (.bool true), []) := by
  intro avs h
  rw [show Tryz.f4.params.toList = [24, 25, 3, 3, 4] from rfl] at h
  match avs, h with
  | [a, b, c, d, e], h =>
    obtain ⟨h1, h2, h3, h4, h5, _⟩ := h
    obtain ⟨s, rfl, hs⟩ := tv_store h1
    obtain ⟨nn, l, rfl, hl, _⟩ := tv_ints h2
    obtain ⟨x, rfl, _⟩ := tv_int h3
    obtain ⟨y, rfl, _⟩ := tv_int h4
    obtain ⟨z, rfl⟩ := tv_bool h5
    exact w_BookFirm hk s hs l nn hl x y z
  | [], h => exact h.elim
  | [_], h => exact h.2.elim
  | [_, _], h => exact h.2.2.elim
  | [_, _, _], h => exact h.2.2.2.elim
  | [_, _, _, _], h => exact h.2.2.2.2.elim
  | _ :: _ :: _ :: _ :: _ :: _ :: _, h => exact h.2.2.2.2.2.elim
end Go.Proofs.YtdbiogihimdpcaaGreatDoor
