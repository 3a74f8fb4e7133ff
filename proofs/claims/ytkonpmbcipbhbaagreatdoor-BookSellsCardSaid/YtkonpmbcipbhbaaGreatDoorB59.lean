/- Layer 6: the specification's best sale. -/
import Derived.Test.YtkonpmbcipbhbaaGreatDoorB58
set_option linter.unusedSimpArgs false
set_option linter.unusedVariables false
namespace Go.Proofs.YtkonpmbcipbhbaaGreatDoor
open Go.Ev Go
set_option maxRecDepth 100000
set_option maxHeartbeats 1000000
/-- The numbers of the offers of a set of bits. -/
def bitsF (bits : Int) : Nat → Nat → List Int
  | 0, _ => []
  | n + 1, i => if (and1 (shrN bits i) == 1) = true then (i : Int) :: bitsF bits n (i + 1) else bitsF bits n (i + 1)
theorem bits_num (bits : Int) : ∀ (n i : Nat) (x : Int), x ∈ bitsF bits n i → (i : Int) ≤ x ∧ x < ((i + n : Nat) : Int)
  | 0, i, x, h => by simp [bitsF] at h
  | n + 1, i, x, h => by
    unfold bitsF at h
    split at h
    · rcases List.mem_cons.1 h with rfl | h
      · omega
      · have := bits_num bits n (i + 1) x h
        omega
    · have := bits_num bits n (i + 1) x h
      omega
theorem bits_len (bits : Int) : ∀ (n i : Nat), (bitsF bits n i).length ≤ n
  | 0, _ => by simp [bitsF]
  | n + 1, i => by
    unfold bitsF
    have := bits_len bits n (i + 1)
    split
    · simp only [List.length_cons]; omega
    · omega
theorem pick_bits (bits : Int) (all : List BCon) : ∀ (off : List BCon) (i : Nat) (l : List Int) (w : Int) (cs : List BCon), all.drop i = off →
    pickF bits off i (l, w, cs) = (l ++ bitsF bits off.length i, togF all (bitsF bits off.length i) w, withL all cs (bitsF bits off.length i))
  | [], i, l, w, cs, _ => by simp [pickF, bitsF, togF, withL]
  | c :: rest, i, l, w, cs, h => by
    have hi : i < all.length := by
      rcases Nat.lt_or_ge i all.length with h1 | h1
      · exact h1
      · rw [List.drop_eq_nil_of_le h1] at h; cases h
    have hd : all.drop i = all[i] :: all.drop (i + 1) := List.drop_eq_getElem_cons hi
    rw [h] at hd
    have hc : c = all[i] := (List.cons.inj hd).1
    have ht := (List.cons.inj hd).2.symm
    have ha : atO all ((i : Nat) : Int) = c := by unfold atO; rw [Int.toNat_natCast, List.getElem?_eq_getElem hi, hc]; rfl
    unfold pickF
    simp only [List.length_cons]
    unfold bitsF
    split
    · rw [pick_bits bits all rest (i + 1) _ _ _ ht]
      simp [togF, withL, ha]
    · rw [pick_bits bits all rest (i + 1) _ _ _ ht]
/-- One step of the specification's search. -/
def best1 (s : BStore) (off : List BCon) (bits : Int) (b : List Int) : List Int :=
  if (decide ((withL off s.cons (bitsF bits off.length 0)).length ≤ 8) && onceB s (withL off s.cons (bitsF bits off.length 0)) && (decide (togF off b 0 < togF off (bitsF bits off.length 0) 0) || (togF off (bitsF bits off.length 0) 0 == togF off b 0 && decide (cmpF (bitsF bits off.length 0) b < 0)))) = true then bitsF bits off.length 0 else b
def bestF (s : BStore) (off : List BCon) : List Nat → List Int → List Int
  | [], b => b
  | x :: l, b => bestF s off l (best1 s off (x : Int) b)
theorem best1_mem {s : BStore} {off : List BCon} {z : Int} {b : List Int} (hb : numB off.length b ∧ b.length ≤ 8) (ho : off.length ≤ 8) : numB off.length (best1 s off z b) ∧ (best1 s off z b).length ≤ 8 := by
  unfold best1
  split
  · refine ⟨fun x hx => ?_, ?_⟩
    · have := bits_num z off.length 0 x hx; omega
    · have := bits_len z off.length 0; omega
  · exact hb
theorem r_SellV (s : BStore) (hs : s.small) (off : List BCon) (no : Bool) (hs1 : storeB s = true) (ho : off.all conB = true) (hof : off.length ≤ 8) :
    ClQ om' 10 [.agg [.int .i64 s.space, .int .i64 s.inn, .int .i64 s.out, .int .i64 s.lead, .int .i64 s.fuel, slv 11 false s.nn (s.cons.map BCon.cells)], slv 11 false no (off.map BCon.cells)] [] fun o h' => ∃ nn w, ∀ r, bestF s off (List.range (2 ^ off.length)) [] = r → (nn = false → r = []) ∧ o = .ret (bestV nn r) ∧ h' = bestH nn w r := by
  have hsN : ((shlN off.length) : Int) = ((2 ^ off.length : Nat) : Int) := by
    have : off.length = 0 ∨ off.length = 1 ∨ off.length = 2 ∨ off.length = 3 ∨ off.length = 4 ∨ off.length = 5 ∨ off.length = 6 ∨ off.length = 7 ∨ off.length = 8 := by omega
    rcases this with e | e | e | e | e | e | e | e | e <;> rw [e] <;> decide
  have hN : 2 ^ off.length ≤ 2 ^ 8 := Nat.pow_le_pow_right (by omega) hof
  have hlo : off.length ≤ maxLen := by unfold maxLen; omega
  have hs8 : s.cons.length ≤ 8 := storeB_len' hs1
  refine stOf rfl Tryz.func10 rfl rfl ?_
  simp only [Tryz.f10]
  (simp only [EVa.down, EVb.down, EVc.down, EVd.down, EVe.down, EVf.down, EVg.down, EVh.down, EVi.down, EVj.down, EVk.down, EVl.down, EVm.down, EVn.down, EVo.down, EVp.down, EVq.down, om_md, compO, evalO, evalOs, ofVal, ofLit, happ, happ1, setRow, setCells, bsK, oneA, Nat.reduceLT, Nat.reduceLeDiff, Nat.reduceEqDiff, Nat.reduceAdd, Nat.reduceSub, Nat.reducePow, Nat.reduceMul, ↓reduceIte, reduceCtorEq, decide_true, EVr.down, seP_some, Nat.reduceBEq, Bool.or_true, Bool.true_or, Bool.or_false, Bool.false_or, TY10.down, List.length_map, hsN]; repeat' ((first | with_reducible refine fw_rc ?_ ?_ | with_reducible refine fw_cd ?_ ?_ | with_reducible refine fw_rq ?_ ?_ | with_reducible refine fw_rw ?_ ?_ | with_reducible refine fw_rl ?_ ?_ | (with_reducible refine fw_gdT ?_ ?_; kernel_rfl) | (with_reducible refine fw_dwT ?_ ?_ ?_; (first | exact fnE_none | exact fnS_none | exact rnd_none); decide +kernel) | (with_reducible refine fw_dnT ?_ ?_ ?_; (first | exact fnE_none | exact fnS_none | exact rnd_none); decide +kernel) | (with_reducible refine fw_dlT ?_ ?_ ?_; (first | exact fnE_none | exact fnS_none | exact rnd_none); decide +kernel)) <;> (intro hb; (try simp only [hb, EVa.down, EVb.down, EVc.down, EVd.down, EVe.down, EVf.down, EVg.down, EVh.down, EVi.down, EVj.down, EVk.down, EVl.down, EVm.down, EVn.down, EVo.down, EVp.down, EVq.down, om_md, compO, evalO, evalOs, ofVal, ofLit, happ, happ1, setRow, setCells, bsK, oneA, Nat.reduceLT, Nat.reduceLeDiff, Nat.reduceEqDiff, Nat.reduceAdd, Nat.reduceSub, Nat.reducePow, Nat.reduceMul, ↓reduceIte, reduceCtorEq, decide_true, EVr.down, seP_some, Nat.reduceBEq, Bool.or_true, Bool.true_or, Bool.or_false, Bool.false_or, TY10.down, List.length_map, hsN]); try (revert hb; intro (_ : True)))))
  refine fw_ot (lst 59 (List.range (2 ^ off.length)) (fun i (zz : List Int) t h => t 1 = slv 11 false no (off.map BCon.cells) ∧ t 2 = .ptr 0 0 0 ∧ t 6 = .int .i64 i ∧ (∃ g, h = .live 6 false false [[.int .i64 s.space, .int .i64 s.inn, .int .i64 s.out, .int .i64 s.lead, .int .i64 s.fuel, slv 11 false s.nn (s.cons.map BCon.cells)]] :: g ∧ quietH g = true ∧ OwnS 1 1 true (zz.map iv) (t 5) g ∧ numB off.length zz ∧ zz.length ≤ 8)) (fun rest zz => bestF s off rest zz) (fun r e t h => e = .exit 0 ∧ ∃ g, h = .live 6 false false [[.int .i64 s.space, .int .i64 s.inn, .int .i64 s.out, .int .i64 s.lead, .int .i64 s.fuel, slv 11 false s.nn (s.cons.map BCon.cells)]] :: g ∧ OwnS 1 1 true (r.map iv) (t 5) g) ?_ ?_ ([]) _ _ ?_) (fun e t h hk => ?_)
  · rintro b t h Q' kQ ⟨h1, h2, h6, ⟨g, rfl, hqg, hob, hbn, hbl⟩⟩
    (simp only [EVa.down, EVb.down, EVc.down, EVd.down, EVe.down, EVf.down, EVg.down, EVh.down, EVi.down, EVj.down, EVk.down, EVl.down, EVm.down, EVn.down, EVo.down, EVp.down, EVq.down, om_md, compO, evalO, evalOs, ofVal, ofLit, happ, happ1, setRow, setCells, bsK, oneA, Nat.reduceLT, Nat.reduceLeDiff, Nat.reduceEqDiff, Nat.reduceAdd, Nat.reduceSub, Nat.reducePow, Nat.reduceMul, ↓reduceIte, reduceCtorEq, decide_true, EVr.down, seP_some, Nat.reduceBEq, Bool.or_true, Bool.true_or, Bool.or_false, Bool.false_or, TY10.down, h1, h2, h6, Int.lt_irrefl, decide_false, List.length_range, List.length_map, hsN]; repeat' ((first | with_reducible refine fw_rc ?_ ?_ | with_reducible refine fw_cd ?_ ?_ | with_reducible refine fw_rq ?_ ?_ | with_reducible refine fw_rw ?_ ?_ | with_reducible refine fw_rl ?_ ?_ | (with_reducible refine fw_gdT ?_ ?_; kernel_rfl) | (with_reducible refine fw_dwT ?_ ?_ ?_; (first | exact fnE_none | exact fnS_none | exact rnd_none); decide +kernel) | (with_reducible refine fw_dnT ?_ ?_ ?_; (first | exact fnE_none | exact fnS_none | exact rnd_none); decide +kernel) | (with_reducible refine fw_dlT ?_ ?_ ?_; (first | exact fnE_none | exact fnS_none | exact rnd_none); decide +kernel)) <;> (intro hb; (try simp only [hb, EVa.down, EVb.down, EVc.down, EVd.down, EVe.down, EVf.down, EVg.down, EVh.down, EVi.down, EVj.down, EVk.down, EVl.down, EVm.down, EVn.down, EVo.down, EVp.down, EVq.down, om_md, compO, evalO, evalOs, ofVal, ofLit, happ, happ1, setRow, setCells, bsK, oneA, Nat.reduceLT, Nat.reduceLeDiff, Nat.reduceEqDiff, Nat.reduceAdd, Nat.reduceSub, Nat.reducePow, Nat.reduceMul, ↓reduceIte, reduceCtorEq, decide_true, EVr.down, seP_some, Nat.reduceBEq, Bool.or_true, Bool.true_or, Bool.or_false, Bool.false_or, TY10.down, h1, h2, h6, Int.lt_irrefl, decide_false, List.length_range, List.length_map, hsN]); try (revert hb; intro (_ : True)))))
    exact kQ _ _ _ ⟨rfl, g, rfl, by simpa [up, bestF] using hob⟩
  · rintro x rest i b t h J Q' kJ kQ hx hi ⟨h1, h2, h6, ⟨g, rfl, hqg, hob, hbn, hbl⟩⟩
    have hd : decide ((i : Int) < ((List.range (2 ^ off.length)).length : Int)) = true := decide_eq_true (by omega)
    have hw := wrap_next hi (by simp [maxLen]; omega)
    obtain rfl : x = i := by rw [List.getElem?_range (by simpa using hi)] at hx; exact (Option.some.inj hx).symm
    rw [List.length_range] at hd
    obtain ⟨bv, h5⟩ : ∃ bv, t 5 = bv := ⟨_, rfl⟩
    obtain ⟨z, rfl⟩ : ∃ z, z = x := ⟨_, rfl⟩
    rw [h5] at hob
    (simp only [EVa.down, EVb.down, EVc.down, EVd.down, EVe.down, EVf.down, EVg.down, EVh.down, EVi.down, EVj.down, EVk.down, EVl.down, EVm.down, EVn.down, EVo.down, EVp.down, EVq.down, om_md, compO, evalO, evalOs, ofVal, ofLit, happ, happ1, setRow, setCells, bsK, oneA, Nat.reduceLT, Nat.reduceLeDiff, Nat.reduceEqDiff, Nat.reduceAdd, Nat.reduceSub, Nat.reducePow, Nat.reduceMul, ↓reduceIte, reduceCtorEq, decide_true, EVr.down, seP_some, Nat.reduceBEq, Bool.or_true, Bool.true_or, Bool.or_false, Bool.false_or, TY10.down, h1, h2, h5, h6, hd, hw, hsN, List.length_map]; repeat' ((first | with_reducible refine fw_rc ?_ ?_ | with_reducible refine fw_cd ?_ ?_ | with_reducible refine fw_rq ?_ ?_ | with_reducible refine fw_rw ?_ ?_ | with_reducible refine fw_rl ?_ ?_ | (with_reducible refine fw_gdT ?_ ?_; kernel_rfl) | (with_reducible refine fw_dwT ?_ ?_ ?_; (first | exact fnE_none | exact fnS_none | exact rnd_none); decide +kernel) | (with_reducible refine fw_dnT ?_ ?_ ?_; (first | exact fnE_none | exact fnS_none | exact rnd_none); decide +kernel) | (with_reducible refine fw_dlT ?_ ?_ ?_; (first | exact fnE_none | exact fnS_none | exact rnd_none); decide +kernel)) <;> (intro hb; (try simp only [hb, EVa.down, EVb.down, EVc.down, EVd.down, EVe.down, EVf.down, EVg.down, EVh.down, EVi.down, EVj.down, EVk.down, EVl.down, EVm.down, EVn.down, EVo.down, EVp.down, EVq.down, om_md, compO, evalO, evalOs, ofVal, ofLit, happ, happ1, setRow, setCells, bsK, oneA, Nat.reduceLT, Nat.reduceLeDiff, Nat.reduceEqDiff, Nat.reduceAdd, Nat.reduceSub, Nat.reducePow, Nat.reduceMul, ↓reduceIte, reduceCtorEq, decide_true, EVr.down, seP_some, Nat.reduceBEq, Bool.or_true, Bool.true_or, Bool.or_false, Bool.false_or, TY10.down, h1, h2, h5, h6, hd, hw, hsN, List.length_map]); try (revert hb; intro (_ : True)))))
    refine fw_ot (lst 59 off (fun i (zz : List Int × Nat) t h => t 1 = slv 11 false no (off.map BCon.cells) ∧ t 2 = .ptr 0 0 0 ∧ t 5 = bv ∧ t 6 = .int .i64 (z : Int) ∧ t 8 = .int .i64 i ∧ (∃ g2, h = .live 6 false false [[.int .i64 s.space, .int .i64 s.inn, .int .i64 s.out, .int .i64 s.lead, .int .i64 s.fuel, slv 11 false s.nn (s.cons.map BCon.cells)]] :: g2 ∧ quietH g2 = true ∧ OwnS 1 1 true (b.map iv) bv g2 ∧ OwnS 1 1 true (zz.1.map iv) (t 7) g2 ∧ Sep (t 7) bv ∧ zz.1.length ≤ i ∧ i = zz.2)) (fun rest zz => zz.1 ++ bitsF (z : Int) rest.length zz.2) (fun r e t h => e = .exit 2 ∧ t 1 = slv 11 false no (off.map BCon.cells) ∧ t 2 = .ptr 0 0 0 ∧ t 5 = bv ∧ t 6 = .int .i64 (z : Int) ∧ ∃ g2, h = .live 6 false false [[.int .i64 s.space, .int .i64 s.inn, .int .i64 s.out, .int .i64 s.lead, .int .i64 s.fuel, slv 11 false s.nn (s.cons.map BCon.cells)]] :: g2 ∧ quietH g2 = true ∧ OwnS 1 1 true (b.map iv) bv g2 ∧ OwnS 1 1 true (r.map iv) (t 7) g2) ?_ ?_ ([], 0) _ _ ?_) (fun e t h hk => ?_)
    · rintro ⟨l, k⟩ t h Q' kQ ⟨h1, h2, h5, h6, h8, ⟨g2, rfl, hqg2, hob2, hol, hsep, hll, rfl⟩⟩
      try dsimp only at *
      (simp only [EVa.down, EVb.down, EVc.down, EVd.down, EVe.down, EVf.down, EVg.down, EVh.down, EVi.down, EVj.down, EVk.down, EVl.down, EVm.down, EVn.down, EVo.down, EVp.down, EVq.down, om_md, compO, evalO, evalOs, ofVal, ofLit, happ, happ1, setRow, setCells, bsK, oneA, Nat.reduceLT, Nat.reduceLeDiff, Nat.reduceEqDiff, Nat.reduceAdd, Nat.reduceSub, Nat.reducePow, Nat.reduceMul, ↓reduceIte, reduceCtorEq, decide_true, EVr.down, seP_some, Nat.reduceBEq, Bool.or_true, Bool.true_or, Bool.or_false, Bool.false_or, TY10.down, h1, h2, h5, h6, h8, Int.lt_irrefl, decide_false]; repeat' ((first | with_reducible refine fw_rc ?_ ?_ | with_reducible refine fw_cd ?_ ?_ | with_reducible refine fw_rq ?_ ?_ | with_reducible refine fw_rw ?_ ?_ | with_reducible refine fw_rl ?_ ?_ | (with_reducible refine fw_gdT ?_ ?_; kernel_rfl) | (with_reducible refine fw_dwT ?_ ?_ ?_; (first | exact fnE_none | exact fnS_none | exact rnd_none); decide +kernel) | (with_reducible refine fw_dnT ?_ ?_ ?_; (first | exact fnE_none | exact fnS_none | exact rnd_none); decide +kernel) | (with_reducible refine fw_dlT ?_ ?_ ?_; (first | exact fnE_none | exact fnS_none | exact rnd_none); decide +kernel)) <;> (intro hb; (try simp only [hb, EVa.down, EVb.down, EVc.down, EVd.down, EVe.down, EVf.down, EVg.down, EVh.down, EVi.down, EVj.down, EVk.down, EVl.down, EVm.down, EVn.down, EVo.down, EVp.down, EVq.down, om_md, compO, evalO, evalOs, ofVal, ofLit, happ, happ1, setRow, setCells, bsK, oneA, Nat.reduceLT, Nat.reduceLeDiff, Nat.reduceEqDiff, Nat.reduceAdd, Nat.reduceSub, Nat.reducePow, Nat.reduceMul, ↓reduceIte, reduceCtorEq, decide_true, EVr.down, seP_some, Nat.reduceBEq, Bool.or_true, Bool.true_or, Bool.or_false, Bool.false_or, TY10.down, h1, h2, h5, h6, h8, Int.lt_irrefl, decide_false]); try (revert hb; intro (_ : True)))))
      exact kQ _ _ _ ⟨rfl, by simp [up, h1], by simp [up, h2], by simp [up, h5], by simp [up, h6], g2, rfl, hqg2, hob2, by simpa [bitsF, up] using hol⟩
    · rintro x rest i ⟨l, k⟩ t h J Q' kJ kQ hx hi ⟨h1, h2, h5, h6, h8, ⟨g2, rfl, hqg2, hob2, hol, hsep, hll, rfl⟩⟩
      have hd : decide ((i : Int) < (off.length : Int)) = true := decide_eq_true (by omega)
      have hw := wrap_next hi hlo
      try dsimp only at *
      cases hbit : (and1 (shrN (z : Int) i) == 1) with
      | false =>
        (simp only [EVa.down, EVb.down, EVc.down, EVd.down, EVe.down, EVf.down, EVg.down, EVh.down, EVi.down, EVj.down, EVk.down, EVl.down, EVm.down, EVn.down, EVo.down, EVp.down, EVq.down, om_md, compO, evalO, evalOs, ofVal, ofLit, happ, happ1, setRow, setCells, bsK, oneA, Nat.reduceLT, Nat.reduceLeDiff, Nat.reduceEqDiff, Nat.reduceAdd, Nat.reduceSub, Nat.reducePow, Nat.reduceMul, ↓reduceIte, reduceCtorEq, decide_true, EVr.down, seP_some, Nat.reduceBEq, Bool.or_true, Bool.true_or, Bool.or_false, Bool.false_or, TY10.down, h1, h2, h5, h6, h8, hd, hx, hw, hbit, List.length_map]; repeat' ((first | with_reducible refine fw_rc ?_ ?_ | with_reducible refine fw_cd ?_ ?_ | with_reducible refine fw_rq ?_ ?_ | with_reducible refine fw_rw ?_ ?_ | with_reducible refine fw_rl ?_ ?_ | (with_reducible refine fw_gdT ?_ ?_; kernel_rfl) | (with_reducible refine fw_dwT ?_ ?_ ?_; (first | exact fnE_none | exact fnS_none | exact rnd_none); decide +kernel) | (with_reducible refine fw_dnT ?_ ?_ ?_; (first | exact fnE_none | exact fnS_none | exact rnd_none); decide +kernel) | (with_reducible refine fw_dlT ?_ ?_ ?_; (first | exact fnE_none | exact fnS_none | exact rnd_none); decide +kernel)) <;> (intro hb; (try simp only [hb, EVa.down, EVb.down, EVc.down, EVd.down, EVe.down, EVf.down, EVg.down, EVh.down, EVi.down, EVj.down, EVk.down, EVl.down, EVm.down, EVn.down, EVo.down, EVp.down, EVq.down, om_md, compO, evalO, evalOs, ofVal, ofLit, happ, happ1, setRow, setCells, bsK, oneA, Nat.reduceLT, Nat.reduceLeDiff, Nat.reduceEqDiff, Nat.reduceAdd, Nat.reduceSub, Nat.reducePow, Nat.reduceMul, ↓reduceIte, reduceCtorEq, decide_true, EVr.down, seP_some, Nat.reduceBEq, Bool.or_true, Bool.true_or, Bool.or_false, Bool.false_or, TY10.down, h1, h2, h5, h6, h8, hd, hx, hw, hbit, List.length_map]); try (revert hb; intro (_ : True)))))
        (refine rnd_go (kJ _ _ (l, i + 1) ⟨?_, ?_, ?_, ?_, ?_, ⟨_, rfl, hqg2, hob2, by simp only [up]; exact hol, by simpa [up] using hsep, by dsimp only; omega, rfl⟩⟩ ?_); (simp [up, h1]); (simp [up, h2]); (simp [up, h5]); (simp [up, h6]); (simp [up]); (simp [bitsF, hbit]))
      | true =>
        obtain ⟨lv, h7⟩ : ∃ lv, t 7 = lv := ⟨_, rfl⟩
        rw [h7] at hol hsep
        have hap1 := fun (q : Heap) (r : List AV) => apK_own hol (pre := [.live 6 false false [[.int .i64 s.space, .int .i64 s.inn, .int .i64 s.out, .int .i64 s.lead, .int .i64 s.fuel, slv 11 false s.nn (s.cons.map BCon.cells)]]]) rfl q r [] (by simp; omega)
        have hhp1 := fun (q : Heap) (r : List (List AV)) (ba : Nat) => happ_apE hol (pre := [.live 6 false false [[.int .i64 s.space, .int .i64 s.inn, .int .i64 s.out, .int .i64 s.lead, .int .i64 s.fuel, slv 11 false s.nn (s.cons.map BCon.cells)]]]) rfl q 1 true r ba
        simp only [List.cons_append, List.append_assoc, List.nil_append, List.length_map, List.length_cons, List.length_append, List.length_nil, kl_length, Nat.reduceAdd] at hap1 hhp1
        (simp only [EVa.down, EVb.down, EVc.down, EVd.down, EVe.down, EVf.down, EVg.down, EVh.down, EVi.down, EVj.down, EVk.down, EVl.down, EVm.down, EVn.down, EVo.down, EVp.down, EVq.down, om_md, compO, evalO, evalOs, ofVal, ofLit, happ, happ1, setRow, setCells, bsK, oneA, Nat.reduceLT, Nat.reduceLeDiff, Nat.reduceEqDiff, Nat.reduceAdd, Nat.reduceSub, Nat.reducePow, Nat.reduceMul, ↓reduceIte, reduceCtorEq, decide_true, EVr.down, seP_some, Nat.reduceBEq, Bool.or_true, Bool.true_or, Bool.or_false, Bool.false_or, TY10.down, h1, h2, h5, h6, h7, h8, hd, hx, hw, hbit, List.length_map, hap1, hhp1, kl_get, kl_get0, kl2_get, kl_length, iv, gc_add2, gs_add2, Nat.add_zero]; repeat' ((first | with_reducible refine fw_rc ?_ ?_ | with_reducible refine fw_cd ?_ ?_ | with_reducible refine fw_rq ?_ ?_ | with_reducible refine fw_rw ?_ ?_ | with_reducible refine fw_rl ?_ ?_ | (with_reducible refine fw_gdT ?_ ?_; kernel_rfl) | (with_reducible refine fw_dwT ?_ ?_ ?_; (first | exact fnE_none | exact fnS_none | exact rnd_none); decide +kernel) | (with_reducible refine fw_dnT ?_ ?_ ?_; (first | exact fnE_none | exact fnS_none | exact rnd_none); decide +kernel) | (with_reducible refine fw_dlT ?_ ?_ ?_; (first | exact fnE_none | exact fnS_none | exact rnd_none); decide +kernel)) <;> (intro hb; (try simp only [hb, EVa.down, EVb.down, EVc.down, EVd.down, EVe.down, EVf.down, EVg.down, EVh.down, EVi.down, EVj.down, EVk.down, EVl.down, EVm.down, EVn.down, EVo.down, EVp.down, EVq.down, om_md, compO, evalO, evalOs, ofVal, ofLit, happ, happ1, setRow, setCells, bsK, oneA, Nat.reduceLT, Nat.reduceLeDiff, Nat.reduceEqDiff, Nat.reduceAdd, Nat.reduceSub, Nat.reducePow, Nat.reduceMul, ↓reduceIte, reduceCtorEq, decide_true, EVr.down, seP_some, Nat.reduceBEq, Bool.or_true, Bool.true_or, Bool.or_false, Bool.false_or, TY10.down, h1, h2, h5, h6, h7, h8, hd, hx, hw, hbit, List.length_map, hap1, hhp1, kl_get, kl_get0, kl2_get, kl_length, iv, gc_add2, gs_add2, Nat.add_zero]); try (revert hb; intro (_ : True)))))
        (refine rnd_go (kJ _ _ (l ++ [(i : Int)], i + 1) ⟨?_, ?_, ?_, ?_, ?_, ⟨_, rfl, by rw [qh_app, quietH_kl hqg2]; rfl, (hob2.kl hol hsep).app _, by simp only [up]; exact OwnS.blk (b := g2.length + 1) (w := false) (by simp [kl_get, iv]) (by omega) (by simp), by simp only [up]; exact (hob2.sep (by omega)).symm, by simp; omega, rfl⟩⟩ ?_); (simp [up, h1]); (simp [up, h2]); (simp [up, h5]); (simp [up, h6]); (simp [up]); (simp [bitsF, hbit]))
    · exact ⟨by simp [up, ent, h1, h2, h5, h6], by simp [up, ent, h1, h2, h5, h6], by simp [up, ent, h1, h2, h5, h6], by simp [up, ent, h1, h2, h5, h6], by simp [up], ⟨_, rfl, hqg, hob, .inl ⟨rfl, by simp [up]⟩, by simp [up]; exact Sep.nils' _, by simp, rfl⟩⟩
    · obtain ⟨rfl, h1, h2, h5, h6, g2, rfl, hqg2, hob2, hol⟩ := hk
      obtain ⟨lv, h7⟩ : ∃ lv, t 7 = lv := ⟨_, rfl⟩
      rw [h7] at hol
      have hpl := bits_len (z : Int) off.length 0
      have hpn : numB off.length (bitsF (z : Int) off.length 0) := fun x hx => by have := bits_num (z : Int) off.length 0 x hx; omega
      have hbm := best1_mem (s := s) (z := (z : Int)) ⟨hbn, hbl⟩ hof
      rw [List.nil_append] at hol
      have hpr : ratesOK (withL off s.cons (bitsF (z : Int) off.length 0)) := conB_rates (List.all_eq_true.2 fun c hc => by
        rcases with_mem hpn hc with h | h
        · exact List.all_eq_true.1 (storeB_con hs1) c h
        · exact List.all_eq_true.1 ho c h)
      unfold best1 at hbm
      generalize hpk : bitsF (z : Int) off.length 0 = l at *
      obtain ⟨nb, hnb⟩ := hob2.argV (pre := [.live 6 false false [[.int .i64 s.space, .int .i64 s.inn, .int .i64 s.out, .int .i64 s.lead, .int .i64 s.fuel, slv 11 false s.nn (s.cons.map BCon.cells)]]]) rfl [] 11 (fun h => by cases h)
      obtain ⟨nl, hnl⟩ := hol.argV (pre := [.live 6 false false [[.int .i64 s.space, .int .i64 s.inn, .int .i64 s.out, .int .i64 s.lead, .int .i64 s.fuel, slv 11 false s.nn (s.cons.map BCon.cells)]]]) rfl [] 11 (fun h => by cases h)
      simp only [List.cons_append, List.append_assoc, List.nil_append, List.append_nil] at hnb hnl
      obtain ⟨q1, hq1⟩ : ∃ q, Fn.func 16 = q := ⟨_, rfl⟩
      obtain ⟨q2, hq2⟩ : ∃ q, Fn.func 12 = q := ⟨_, rfl⟩
      obtain ⟨q3, hq3⟩ : ∃ q, Fn.func 17 = q := ⟨_, rfl⟩
      have hsel : cl om' (.live 6 false false [[.int .i64 s.space, .int .i64 s.inn, .int .i64 s.out, .int .i64 s.lead, .int .i64 s.fuel, slv 11 false s.nn (s.cons.map BCon.cells)]] :: g2) (some (.func q1 [] [])) (some [.agg [.int .i64 s.space, .int .i64 s.inn, .int .i64 s.out, .int .i64 s.lead, .int .i64 s.fuel, slv 11 false s.nn (s.cons.map BCon.cells)], slv 11 false no (off.map BCon.cells), lv]) = some (.ret (.bool (decide ((withL off s.cons l).length ≤ 8) && onceB s (withL off s.cons l))), []) := by
        rw [← hq1]
        exact cl_ro rfl (vs := [.agg [.int .i64 s.space, .int .i64 s.inn, .int .i64 s.out, .int .i64 s.lead, .int .i64 s.fuel, slv 11 false s.nn (s.cons.map BCon.cells)], slv 11 false no (off.map BCon.cells), slv 1 true nl (l.map iv)]) (by simp only [omap, av_agg, av_int, av_slv, hnl, Option.bind_some, Option.map_some, rdA_some']) (by simp [slv_pure, pv_agg, pv_int]) (r_Sells s off no nl l (by omega) (by omega) hpn hpr) rfl rfl
      have hto1 : cl om' (.live 6 false false [[.int .i64 s.space, .int .i64 s.inn, .int .i64 s.out, .int .i64 s.lead, .int .i64 s.fuel, slv 11 false s.nn (s.cons.map BCon.cells)]] :: g2) (some (.func q2 [] [])) (some [slv 11 false no (off.map BCon.cells), lv]) = some (.ret (.int .i64 (togF off l 0)), []) := by
        rw [← hq2]
        exact cl_ro (by cases no <;> cases off <;> rfl) (vs := [slv 11 false no (off.map BCon.cells), slv 1 true nl (l.map iv)]) (by simp only [omap, av_slv, hnl, Option.bind_some, Option.map_some]) (by simp [slv_pure]) (r_Together (by unfold maxLen; omega) hpn) rfl rfl
      have hto2 : cl om' (.live 6 false false [[.int .i64 s.space, .int .i64 s.inn, .int .i64 s.out, .int .i64 s.lead, .int .i64 s.fuel, slv 11 false s.nn (s.cons.map BCon.cells)]] :: g2) (some (.func q2 [] [])) (some [slv 11 false no (off.map BCon.cells), bv]) = some (.ret (.int .i64 (togF off b 0)), []) := by
        rw [← hq2]
        exact cl_ro (by cases no <;> cases off <;> rfl) (vs := [slv 11 false no (off.map BCon.cells), slv 1 true nb (b.map iv)]) (by simp only [omap, av_slv, hnb, Option.bind_some, Option.map_some]) (by simp [slv_pure]) (r_Together (by unfold maxLen; omega) hbn) rfl rfl
      have hbef : cl om' (.live 6 false false [[.int .i64 s.space, .int .i64 s.inn, .int .i64 s.out, .int .i64 s.lead, .int .i64 s.fuel, slv 11 false s.nn (s.cons.map BCon.cells)]] :: g2) (some (.func q3 [] [])) (some [lv, bv]) = some (.ret (.bool (decide (cmpF l b < 0))), []) := by
        rw [← hq3]
        exact cl_ro (hol.hd _) (vs := [slv 1 true nl (l.map iv), slv 1 true nb (b.map iv)]) (by simp only [omap, hnl, hnb, Option.bind_some, Option.map_some]) (by simp [slv_pure]) (r_Before (by unfold maxLen; omega) (by unfold maxLen; omega)) rfl rfl
      cases c1 : (decide ((withL off s.cons l).length ≤ 8) && onceB s (withL off s.cons l)) <;> rw [c1] at hsel
      all_goals (simp only [EVa.down, EVb.down, EVc.down, EVd.down, EVe.down, EVf.down, EVg.down, EVh.down, EVi.down, EVj.down, EVk.down, EVl.down, EVm.down, EVn.down, EVo.down, EVp.down, EVq.down, om_md, compO, evalO, evalOs, ofVal, ofLit, happ, happ1, setRow, setCells, bsK, oneA, Nat.reduceLT, Nat.reduceLeDiff, Nat.reduceEqDiff, Nat.reduceAdd, Nat.reduceSub, Nat.reducePow, Nat.reduceMul, ↓reduceIte, reduceCtorEq, decide_true, EVr.down, seP_some, Nat.reduceBEq, Bool.or_true, Bool.true_or, Bool.or_false, Bool.false_or, TY10.down, h1, h2, h5, h6, h7, hw, hq1, hq2, hq3, hsel, hto1, hto2, hbef, List.length_map]; repeat' ((first | with_reducible refine fw_rc ?_ ?_ | with_reducible refine fw_cd ?_ ?_ | with_reducible refine fw_rq ?_ ?_ | with_reducible refine fw_rw ?_ ?_ | with_reducible refine fw_rl ?_ ?_ | (with_reducible refine fw_gdT ?_ ?_; kernel_rfl) | (with_reducible refine fw_dwT ?_ ?_ ?_; (first | exact fnE_none | exact fnS_none | exact rnd_none); decide +kernel) | (with_reducible refine fw_dnT ?_ ?_ ?_; (first | exact fnE_none | exact fnS_none | exact rnd_none); decide +kernel) | (with_reducible refine fw_dlT ?_ ?_ ?_; (first | exact fnE_none | exact fnS_none | exact rnd_none); decide +kernel)) <;> (intro hb; (try simp only [hb, EVa.down, EVb.down, EVc.down, EVd.down, EVe.down, EVf.down, EVg.down, EVh.down, EVi.down, EVj.down, EVk.down, EVl.down, EVm.down, EVn.down, EVo.down, EVp.down, EVq.down, om_md, compO, evalO, evalOs, ofVal, ofLit, happ, happ1, setRow, setCells, bsK, oneA, Nat.reduceLT, Nat.reduceLeDiff, Nat.reduceEqDiff, Nat.reduceAdd, Nat.reduceSub, Nat.reducePow, Nat.reduceMul, ↓reduceIte, reduceCtorEq, decide_true, EVr.down, seP_some, Nat.reduceBEq, Bool.or_true, Bool.true_or, Bool.or_false, Bool.false_or, TY10.down, h1, h2, h5, h6, h7, hw, hq1, hq2, hq3, hsel, hto1, hto2, hbef, List.length_map]); try (revert hb; intro (_ : True)))))
      all_goals first
        | (refine thenS (p := best1 s off (z : Int) b = b) ?_ (fun hS => ?_)
           · unfold best1; rw [hpk]; simp only [*, Bool.true_or, Bool.or_true, Bool.false_or, Bool.or_false, Bool.and_true, Bool.true_and, Bool.and_false, Bool.false_and, Bool.not_true, Bool.not_false, Bool.false_eq_true, if_true, if_false]; done
           (refine rnd_go (kJ _ _ b ⟨?_, ?_, ?_, ?_⟩ ?_); (simp [up, h1]); (simp [up, h2]); (simp [up]); (exact ⟨_, rfl, hqg2, by simpa [up, h5] using hob2, hbn, hbl⟩); (simp [bestF, hS])))
        | (refine thenS (p := best1 s off (z : Int) b = l) ?_ (fun hS => ?_)
           · unfold best1; rw [hpk]; simp only [*, Bool.true_or, Bool.or_true, Bool.false_or, Bool.or_false, Bool.and_true, Bool.true_and, Bool.and_false, Bool.false_and, Bool.not_true, Bool.not_false, Bool.false_eq_true, if_true, if_false]; done
           (refine rnd_go (kJ _ _ l ⟨?_, ?_, ?_, ?_⟩ ?_); (simp [up, h1]); (simp [up, h2]); (simp [up]); (exact ⟨_, rfl, hqg2, by simpa [up, h7] using hol, hpn, by omega⟩); (simp [bestF, hS])))
  · exact ⟨by simp [up, ent], by simp [up, ent], by simp [up], ⟨[], rfl, rfl, .inl ⟨rfl, by simp [up]⟩, by simp [numB], by simp⟩⟩
  · obtain ⟨rfl, g, rfl, hob⟩ := hk
    obtain ⟨lv, h5⟩ : ∃ lv, t 5 = lv := ⟨_, rfl⟩
    rw [h5] at hob
    rcases hob with ⟨hr, rfl⟩ | ⟨b, w, rfl, hg⟩
    · (simp only [EVa.down, EVb.down, EVc.down, EVd.down, EVe.down, EVf.down, EVg.down, EVh.down, EVi.down, EVj.down, EVk.down, EVl.down, EVm.down, EVn.down, EVo.down, EVp.down, EVq.down, om_md, compO, evalO, evalOs, ofVal, ofLit, happ, happ1, setRow, setCells, bsK, oneA, Nat.reduceLT, Nat.reduceLeDiff, Nat.reduceEqDiff, Nat.reduceAdd, Nat.reduceSub, Nat.reducePow, Nat.reduceMul, ↓reduceIte, reduceCtorEq, decide_true, EVr.down, seP_some, Nat.reduceBEq, Bool.or_true, Bool.true_or, Bool.or_false, Bool.false_or, TY10.down, h5]; repeat' ((first | with_reducible refine fw_rc ?_ ?_ | with_reducible refine fw_cd ?_ ?_ | with_reducible refine fw_rq ?_ ?_ | with_reducible refine fw_rw ?_ ?_ | with_reducible refine fw_rl ?_ ?_ | (with_reducible refine fw_gdT ?_ ?_; kernel_rfl) | (with_reducible refine fw_dwT ?_ ?_ ?_; (first | exact fnE_none | exact fnS_none | exact rnd_none); decide +kernel) | (with_reducible refine fw_dnT ?_ ?_ ?_; (first | exact fnE_none | exact fnS_none | exact rnd_none); decide +kernel) | (with_reducible refine fw_dlT ?_ ?_ ?_; (first | exact fnE_none | exact fnS_none | exact rnd_none); decide +kernel)) <;> (intro hb; (try simp only [hb, EVa.down, EVb.down, EVc.down, EVd.down, EVe.down, EVf.down, EVg.down, EVh.down, EVi.down, EVj.down, EVk.down, EVl.down, EVm.down, EVn.down, EVo.down, EVp.down, EVq.down, om_md, compO, evalO, evalOs, ofVal, ofLit, happ, happ1, setRow, setCells, bsK, oneA, Nat.reduceLT, Nat.reduceLeDiff, Nat.reduceEqDiff, Nat.reduceAdd, Nat.reduceSub, Nat.reducePow, Nat.reduceMul, ↓reduceIte, reduceCtorEq, decide_true, EVr.down, seP_some, Nat.reduceBEq, Bool.or_true, Bool.true_or, Bool.or_false, Bool.false_or, TY10.down, h5]); try (revert hb; intro (_ : True)))))
      have hr' := List.map_eq_nil_iff.1 hr
      exact ⟨false, false, fun r e => by subst e; exact ⟨fun _ => hr', rfl, rfl⟩⟩
    · (simp only [EVa.down, EVb.down, EVc.down, EVd.down, EVe.down, EVf.down, EVg.down, EVh.down, EVi.down, EVj.down, EVk.down, EVl.down, EVm.down, EVn.down, EVo.down, EVp.down, EVq.down, om_md, compO, evalO, evalOs, ofVal, ofLit, happ, happ1, setRow, setCells, bsK, oneA, Nat.reduceLT, Nat.reduceLeDiff, Nat.reduceEqDiff, Nat.reduceAdd, Nat.reduceSub, Nat.reducePow, Nat.reduceMul, ↓reduceIte, reduceCtorEq, decide_true, EVr.down, seP_some, Nat.reduceBEq, Bool.or_true, Bool.true_or, Bool.or_false, Bool.false_or, TY10.down, h5, hg, List.length_map]; repeat' ((first | with_reducible refine fw_rc ?_ ?_ | with_reducible refine fw_cd ?_ ?_ | with_reducible refine fw_rq ?_ ?_ | with_reducible refine fw_rw ?_ ?_ | with_reducible refine fw_rl ?_ ?_ | (with_reducible refine fw_gdT ?_ ?_; kernel_rfl) | (with_reducible refine fw_dwT ?_ ?_ ?_; (first | exact fnE_none | exact fnS_none | exact rnd_none); decide +kernel) | (with_reducible refine fw_dnT ?_ ?_ ?_; (first | exact fnE_none | exact fnS_none | exact rnd_none); decide +kernel) | (with_reducible refine fw_dlT ?_ ?_ ?_; (first | exact fnE_none | exact fnS_none | exact rnd_none); decide +kernel)) <;> (intro hb; (try simp only [hb, EVa.down, EVb.down, EVc.down, EVd.down, EVe.down, EVf.down, EVg.down, EVh.down, EVi.down, EVj.down, EVk.down, EVl.down, EVm.down, EVn.down, EVo.down, EVp.down, EVq.down, om_md, compO, evalO, evalOs, ofVal, ofLit, happ, happ1, setRow, setCells, bsK, oneA, Nat.reduceLT, Nat.reduceLeDiff, Nat.reduceEqDiff, Nat.reduceAdd, Nat.reduceSub, Nat.reducePow, Nat.reduceMul, ↓reduceIte, reduceCtorEq, decide_true, EVr.down, seP_some, Nat.reduceBEq, Bool.or_true, Bool.true_or, Bool.or_false, Bool.false_or, TY10.down, h5, hg, List.length_map]); try (revert hb; intro (_ : True)))))
      exact ⟨true, w, fun r e => by subst e; exact ⟨fun h => (Bool.noConfusion h), rfl, rfl⟩⟩
end Go.Proofs.YtkonpmbcipbhbaaGreatDoor
