/- Layer 6: the law BookGrants. -/
import Derived.Test.YtdbiogihimdpcaaGreatDoorB30
set_option linter.unusedSimpArgs false
set_option linter.unusedVariables false
namespace Go.Proofs.YtdbiogihimdpcaaGreatDoor
open Go.Ev Go
set_option maxRecDepth 100000
set_option maxHeartbeats 1000000
theorem oth_eq {c : BCon} {w : Int} (h : -1000000000 ≤ w ∧ w ≤ 1000000000) : othW c w = othR c w := by
  unfold othW othR firmW
  split
  · rw [Int.sub_self]; exact wrap_0
  · rw [Int.sub_zero]; exact wrap_of (by omega) (by omega)
theorem oz_eq : ∀ {cs : List BCon} {l : List Int}, (∀ w ∈ l, -1000000000 ≤ w ∧ w ≤ 1000000000) → ozL cs l = ozR cs l
  | [], _, _ => rfl
  | _ :: _, [], _ => rfl
  | c :: cs, w :: l, h => by
    have ih := oz_eq (cs := cs) (l := l) (fun x hx => h x (List.mem_cons_of_mem _ hx))
    simp only [ozL, ozR, List.zipWith_cons_cons] at ih ⊢
    rw [ih, oth_eq (h w (List.mem_cons_self ..))]
theorem grant_eq {cs : List BCon} {l : List Int} (h : ∀ w ∈ l, -1000000000 ≤ w ∧ w ≤ 1000000000) (m : Int) : grantL cs l m = grantR cs l m := by
  unfold grantL grantR
  rw [oz_eq h]
theorem pos_in {x : Int} (h : inB x (-100000000) 100000000 = true) : 0 ≤ posI x ∧ posI x ≤ 100000000 := by
  simp only [inB, Bool.and_eq_true, decide_eq_true_eq] at h
  unfold posI; split <;> omega
theorem neg_in {x : Int} (h : inB x (-100000000) 100000000 = true) : 0 ≤ negI x ∧ negI x ≤ 100000000 := by
  simp only [inB, Bool.and_eq_true, decide_eq_true_eq] at h
  unfold negI posI; rw [wrap_of (by omega) (by omega)]; split <;> omega
theorem grantAll_eq {cs : List BCon} {l : List Int} (h : wantsB l = true) (a b : Int) : grantAll grantL cs l a b = grantAll grantR cs l a b := by
  simp only [wantsB, List.all_eq_true] at h
  unfold grantAll
  rw [grant_eq (fun w hw => by
    obtain ⟨x, hx, rfl⟩ := List.mem_map.1 hw
    have := pos_in (h x hx); omega), grant_eq (fun w hw => by
    obtain ⟨x, hx, rfl⟩ := List.mem_map.1 hw
    have := neg_in (h x hx); omega)]
theorem r_Same1 {l l' : List Int} {nn nn' : Bool} (hl : l.length ≤ maxLen) (hl' : l'.length ≤ maxLen) : om'.call (.fn 20) [slv 1 true nn (l.map iv), slv 1 true nn' (l'.map iv)] [] = some (.ret (.bool (decide (l = l'))), []) := r_Same hl hl'
theorem w_BookGrants (hk : om'.call (.fn 15) [] [] = some (.ret (.bool true), [])) (s : BStore) (hs : s.small) (l : List Int) (nn : Bool) (hl : l.length ≤ maxLen) (a b : Int) : om'.call (.fn 3) [.agg [.int .i64 s.space, .int .i64 s.inn, .int .i64 s.out, .int .i64 s.lead, .int .i64 s.fuel, slv 11 false s.nn (s.cons.map BCon.cells)], slv 1 true nn (l.map iv), .int .i64 a, .int .i64 b] [] = some (.ret (.bool true), []) := by
  have h1 := w_short (nn := s.nn) hs.cons
  have h2 := r_Store s hs
  have h3 := w_wanted s (l := l) (nn := nn) hl
  have h4 := r_Much
  have h12 : decide ((12 : Int) < (l.length : Int)) = decide (12 < l.length) := by rw [decide_eq_decide]; omega
  cases q1 : shortB s.cons with
  | false =>
    rw [q1] at h1
    (refine ClQ.eq (stOf rfl Tryz.func3 rfl rfl ?_); simp only [Tryz.f3]; simp only [EVa.down, EVb.down, EVc.down, EVd.down, EVe.down, EVf.down, EVg.down, EVh.down, EVi.down, EVj.down, EVk.down, EVl.down, EVm.down, EVn.down, compO, evalO, evalOs, ofVal, ofLit, happ, happ1, setRow, setCells, bsK, oneA, Nat.reduceLT, Nat.reduceLeDiff, Nat.reduceEqDiff, Nat.reduceAdd, Nat.reduceSub, Nat.reducePow, Nat.reduceMul, ↓reduceIte, reduceCtorEq, decide_true, TY3.down, h1, hk]; repeat' ((first | with_reducible refine fw_rc ?_ ?_ | with_reducible refine fw_cd ?_ ?_ | with_reducible refine fw_rq ?_ ?_ | with_reducible refine fw_rw ?_ ?_ | with_reducible refine fw_rl ?_ ?_ | (with_reducible refine fw_gdT ?_ ?_; kernel_rfl) | (with_reducible refine fw_dwT ?_ ?_ ?_; (first | exact fnE_none | exact rnd_none); decide +kernel) | (with_reducible refine fw_dnT ?_ ?_ ?_; (first | exact fnE_none | exact rnd_none); decide +kernel) | (with_reducible refine fw_dlT ?_ ?_ ?_; (first | exact fnE_none | exact rnd_none); decide +kernel)) <;> (intro hb; (try simp only [hb, EVa.down, EVb.down, EVc.down, EVd.down, EVe.down, EVf.down, EVg.down, EVh.down, EVi.down, EVj.down, EVk.down, EVl.down, EVm.down, EVn.down, compO, evalO, evalOs, ofVal, ofLit, happ, happ1, setRow, setCells, bsK, oneA, Nat.reduceLT, Nat.reduceLeDiff, Nat.reduceEqDiff, Nat.reduceAdd, Nat.reduceSub, Nat.reducePow, Nat.reduceMul, ↓reduceIte, reduceCtorEq, decide_true, TY3.down, h1, hk]); try (revert hb; intro (_ : True)))))
  | true =>
  rw [q1] at h1
  by_cases q2 : 12 < l.length
  · have q2' : decide (12 < l.length) = true := by simpa using q2
    (refine ClQ.eq (stOf rfl Tryz.func3 rfl rfl ?_); simp only [Tryz.f3]; simp only [EVa.down, EVb.down, EVc.down, EVd.down, EVe.down, EVf.down, EVg.down, EVh.down, EVi.down, EVj.down, EVk.down, EVl.down, EVm.down, EVn.down, compO, evalO, evalOs, ofVal, ofLit, happ, happ1, setRow, setCells, bsK, oneA, Nat.reduceLT, Nat.reduceLeDiff, Nat.reduceEqDiff, Nat.reduceAdd, Nat.reduceSub, Nat.reducePow, Nat.reduceMul, ↓reduceIte, reduceCtorEq, decide_true, TY3.down, h1, hk, h12, q2', List.length_map]; repeat' ((first | with_reducible refine fw_rc ?_ ?_ | with_reducible refine fw_cd ?_ ?_ | with_reducible refine fw_rq ?_ ?_ | with_reducible refine fw_rw ?_ ?_ | with_reducible refine fw_rl ?_ ?_ | (with_reducible refine fw_gdT ?_ ?_; kernel_rfl) | (with_reducible refine fw_dwT ?_ ?_ ?_; (first | exact fnE_none | exact rnd_none); decide +kernel) | (with_reducible refine fw_dnT ?_ ?_ ?_; (first | exact fnE_none | exact rnd_none); decide +kernel) | (with_reducible refine fw_dlT ?_ ?_ ?_; (first | exact fnE_none | exact rnd_none); decide +kernel)) <;> (intro hb; (try simp only [hb, EVa.down, EVb.down, EVc.down, EVd.down, EVe.down, EVf.down, EVg.down, EVh.down, EVi.down, EVj.down, EVk.down, EVl.down, EVm.down, EVn.down, compO, evalO, evalOs, ofVal, ofLit, happ, happ1, setRow, setCells, bsK, oneA, Nat.reduceLT, Nat.reduceLeDiff, Nat.reduceEqDiff, Nat.reduceAdd, Nat.reduceSub, Nat.reducePow, Nat.reduceMul, ↓reduceIte, reduceCtorEq, decide_true, TY3.down, h1, hk, h12, q2', List.length_map]); try (revert hb; intro (_ : True)))))
  have q2' : decide (12 < l.length) = false := by simpa using q2
  cases hv : (storeB s && decide (l.length = s.cons.length) && wantsB l && inB a 0 800000000 && inB b 0 800000000) with
  | false =>
    have h5 := e_Grant0 (nn := nn) hs hl hv
    have hw : wantedB s.cons.length l = (wantsB l && decide (l.length = s.cons.length)) := rfl
    rw [hw] at h3
    (refine ClQ.eq (stOf rfl Tryz.func3 rfl rfl ?_); simp only [Tryz.f3]; simp only [EVa.down, EVb.down, EVc.down, EVd.down, EVe.down, EVf.down, EVg.down, EVh.down, EVi.down, EVj.down, EVk.down, EVl.down, EVm.down, EVn.down, compO, evalO, evalOs, ofVal, ofLit, happ, happ1, setRow, setCells, bsK, oneA, Nat.reduceLT, Nat.reduceLeDiff, Nat.reduceEqDiff, Nat.reduceAdd, Nat.reduceSub, Nat.reducePow, Nat.reduceMul, ↓reduceIte, reduceCtorEq, decide_true, TY3.down, h1, h2, h3, h4, h5, hk, h12, q2', List.length_map, i_eqself]; repeat' ((first | with_reducible refine fw_rc ?_ ?_ | with_reducible refine fw_cd ?_ ?_ | with_reducible refine fw_rq ?_ ?_ | with_reducible refine fw_rw ?_ ?_ | with_reducible refine fw_rl ?_ ?_ | (with_reducible refine fw_gdT ?_ ?_; kernel_rfl) | (with_reducible refine fw_dwT ?_ ?_ ?_; (first | exact fnE_none | exact rnd_none); decide +kernel) | (with_reducible refine fw_dnT ?_ ?_ ?_; (first | exact fnE_none | exact rnd_none); decide +kernel) | (with_reducible refine fw_dlT ?_ ?_ ?_; (first | exact fnE_none | exact rnd_none); decide +kernel)) <;> (intro hb; (try simp only [hb, EVa.down, EVb.down, EVc.down, EVd.down, EVe.down, EVf.down, EVg.down, EVh.down, EVi.down, EVj.down, EVk.down, EVl.down, EVm.down, EVn.down, compO, evalO, evalOs, ofVal, ofLit, happ, happ1, setRow, setCells, bsK, oneA, Nat.reduceLT, Nat.reduceLeDiff, Nat.reduceEqDiff, Nat.reduceAdd, Nat.reduceSub, Nat.reducePow, Nat.reduceMul, ↓reduceIte, reduceCtorEq, decide_true, TY3.down, h1, h2, h3, h4, h5, hk, h12, q2', List.length_map, i_eqself]); try (revert hb; intro (_ : True)))))
    all_goals (exfalso; simp_all)
  | true =>
    have hv' := hv
    simp only [Bool.and_eq_true, decide_eq_true_eq] at hv'
    obtain ⟨⟨⟨⟨v1, v2⟩, v3⟩, v4⟩, v5⟩ := hv'
    have hw : wantedB s.cons.length l = true := by
      have : wantedB s.cons.length l = (wantsB l && decide (l.length = s.cons.length)) := rfl
      rw [this, v3, v2]; simp
    rw [hw] at h3
    rw [v1] at h2
    have h6 := h4 a
    have h7 := h4 b
    rw [v4] at h6
    rw [v5] at h7
    by_cases hne : l = []
    · subst hne
      have h5 := e_GrantN (nn := nn) hs hv
      have h8 := r_Grant_nil (s := s) (nn := nn) (most := a) (least := b) (by simp only [inB, Bool.and_eq_true, decide_eq_true_eq] at v4; omega) (by simp only [inB, Bool.and_eq_true, decide_eq_true_eq] at v5; omega)
      have h9 := r_Same1 (l := []) (l' := []) (nn := false) (nn' := false) (by simp) (by simp)
      rw [List.map_nil, slv_nil] at h9
      rw [List.map_nil] at h3 ⊢
      simp only [decide_true] at h9
      (refine ClQ.eq (stOf rfl Tryz.func3 rfl rfl ?_); simp only [Tryz.f3]; simp only [EVa.down, EVb.down, EVc.down, EVd.down, EVe.down, EVf.down, EVg.down, EVh.down, EVi.down, EVj.down, EVk.down, EVl.down, EVm.down, EVn.down, compO, evalO, evalOs, ofVal, ofLit, happ, happ1, setRow, setCells, bsK, oneA, Nat.reduceLT, Nat.reduceLeDiff, Nat.reduceEqDiff, Nat.reduceAdd, Nat.reduceSub, Nat.reducePow, Nat.reduceMul, ↓reduceIte, reduceCtorEq, decide_true, TY3.down, h1, h2, h3, h5, h6, h7, h8, h9, hk, i_eqself]; repeat' ((first | with_reducible refine fw_rc ?_ ?_ | with_reducible refine fw_cd ?_ ?_ | with_reducible refine fw_rq ?_ ?_ | with_reducible refine fw_rw ?_ ?_ | with_reducible refine fw_rl ?_ ?_ | (with_reducible refine fw_gdT ?_ ?_; kernel_rfl) | (with_reducible refine fw_dwT ?_ ?_ ?_; (first | exact fnE_none | exact rnd_none); decide +kernel) | (with_reducible refine fw_dnT ?_ ?_ ?_; (first | exact fnE_none | exact rnd_none); decide +kernel) | (with_reducible refine fw_dlT ?_ ?_ ?_; (first | exact fnE_none | exact rnd_none); decide +kernel)) <;> (intro hb; (try simp only [hb, EVa.down, EVb.down, EVc.down, EVd.down, EVe.down, EVf.down, EVg.down, EVh.down, EVi.down, EVj.down, EVk.down, EVl.down, EVm.down, EVn.down, compO, evalO, evalOs, ofVal, ofLit, happ, happ1, setRow, setCells, bsK, oneA, Nat.reduceLT, Nat.reduceLeDiff, Nat.reduceEqDiff, Nat.reduceAdd, Nat.reduceSub, Nat.reducePow, Nat.reduceMul, ↓reduceIte, reduceCtorEq, decide_true, TY3.down, h1, h2, h3, h5, h6, h7, h8, h9, hk, i_eqself]); try (revert hb; intro (_ : True)))))
    · have h5 := e_GrantV (nn := nn) hs hl hv hne (by omega)
      have h8 := r_Grant (s := s) (nn := nn) (most := a) (least := b) v2 (by omega) hne
      have hgl : (grantAll grantR s.cons l a b).length = l.length := by
        simp [grantAll, grantR_length, v2]
      rw [grantAll_eq v3] at h5
      have h9 := r_Same1 (l := grantAll grantR s.cons l a b) (l' := grantAll grantR s.cons l a b) (nn := true) (nn' := true) (by omega) (by omega)
      rw [slv_true] at h9
      simp only [decide_true] at h9
      have t1 : ((grantAll grantR s.cons l a b).map iv).take l.length = (grantAll grantR s.cons l a b).map iv := List.take_of_length_le (by simp [hgl])
      (refine ClQ.eq (stOf rfl Tryz.func3 rfl rfl ?_); simp only [Tryz.f3]; simp only [EVa.down, EVb.down, EVc.down, EVd.down, EVe.down, EVf.down, EVg.down, EVh.down, EVi.down, EVj.down, EVk.down, EVl.down, EVm.down, EVn.down, compO, evalO, evalOs, ofVal, ofLit, happ, happ1, setRow, setCells, bsK, oneA, Nat.reduceLT, Nat.reduceLeDiff, Nat.reduceEqDiff, Nat.reduceAdd, Nat.reduceSub, Nat.reducePow, Nat.reduceMul, ↓reduceIte, reduceCtorEq, decide_true, TY3.down, h1, h2, h3, h5, h6, h7, h8, h9, hk, i_eqself, h12, q2', t1, hgl]; repeat' ((first | with_reducible refine fw_rc ?_ ?_ | with_reducible refine fw_cd ?_ ?_ | with_reducible refine fw_rq ?_ ?_ | with_reducible refine fw_rw ?_ ?_ | with_reducible refine fw_rl ?_ ?_ | (with_reducible refine fw_gdT ?_ ?_; kernel_rfl) | (with_reducible refine fw_dwT ?_ ?_ ?_; (first | exact fnE_none | exact rnd_none); decide +kernel) | (with_reducible refine fw_dlT ?_ ?_ ?_; (first | exact fnE_none | exact rnd_none); decide +kernel)) <;> (intro hb; (try simp only [hb, EVa.down, EVb.down, EVc.down, EVd.down, EVe.down, EVf.down, EVg.down, EVh.down, EVi.down, EVj.down, EVk.down, EVl.down, EVm.down, EVn.down, compO, evalO, evalOs, ofVal, ofLit, happ, happ1, setRow, setCells, bsK, oneA, Nat.reduceLT, Nat.reduceLeDiff, Nat.reduceEqDiff, Nat.reduceAdd, Nat.reduceSub, Nat.reducePow, Nat.reduceMul, ↓reduceIte, reduceCtorEq, decide_true, TY3.down, h1, h2, h3, h5, h6, h7, h8, h9, hk, i_eqself, h12, q2', t1, hgl]); try (revert hb; intro (_ : True)))))
theorem ty_ints {n : Nat} {r : List AV} (h : Ty Tryz.prog (n + 2) 25 r) : ∃ (nn : Bool) (l : List Int), r = [slv 1 true nn (l.map iv)] ∧ l.length ≤ maxLen ∧ ∀ x ∈ l, i64 x := by
  unfold Ty at h
  simp only [Tryz.underlying25] at h
  obtain ⟨nn, rows, rfl, hl, hrows⟩ := h
  obtain ⟨l, rfl, hi⟩ := list_of (f := iv) (q := i64) (fun r hr => by obtain ⟨x, rfl, hx⟩ := ty_int hr; exact ⟨x, rfl, hx⟩) hrows
  have e1 : Tryz.prog.cellsOf 3 = 1 := by kernel_rfl
  have e2 : flT Tryz.prog (n + 1) 3 = true := by
    simp only [flT, Tryz.underlying3]
  rw [e1, e2]
  exact ⟨nn, l, rfl, by simpa using hl, hi⟩
theorem tv_ints {av : AV} (h : TyV Tryz.prog 7 25 av) : ∃ (nn : Bool) (l : List Int), av = slv 1 true nn (l.map iv) ∧ l.length ≤ maxLen ∧ ∀ x ∈ l, i64 x := by
  unfold TyV at h
  simp only [Tryz.underlying25] at h
  obtain ⟨nn, l, hx, hl⟩ := ty_ints h
  simp only [List.cons.injEq, and_true] at hx
  exact ⟨nn, l, hx, hl⟩
theorem t_BookGrants (hk : om'.call (.fn 15) [] [] = some (.ret (.bool true), [])) : ∀ avs, TyVs Tryz.prog 7 Tryz.f3.params.toList avs → om'.call (.fn 3) avs [] = some (.ret (.bool true), []) := by
  intro avs h
  rw [show Tryz.f3.params.toList = [24, 25, 3, 3] from rfl] at h
  match avs, h with
  | [a, b, c, d], h =>
    obtain ⟨h1, h2, h3, h4, _⟩ := h
    obtain ⟨s, rfl, hs⟩ := tv_store h1
    obtain ⟨nn, l, rfl, hl, _⟩ := tv_ints h2
    obtain ⟨x, rfl, _⟩ := tv_int h3
    obtain ⟨y, rfl, _⟩ := tv_int h4
    exact w_BookGrants hk s hs l nn hl x y
  | [], h => exact h.elim
  | [_], h => exact h.2.elim
  | [_, _], h => exact h.2.2.elim
  | [_, _, _], h => exact h.2.2.2.elim
  | _ :: _ :: _ :: _ :: _ :: _, h => exact h.2.2.2.2.elim
end Go.Proofs.YtdbiogihimdpcaaGreatDoor
