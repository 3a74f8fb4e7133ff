/- Layer 6: what goes in one direction. -/
import Derived.Test.YtdbiogihimdpcaaGreatDoorB33
set_option linter.unusedSimpArgs false
set_option linter.unusedVariables false
namespace Go.Proofs.YtdbiogihimdpcaaGreatDoor
open Go.Ev Go
set_option maxRecDepth 100000
set_option maxHeartbeats 1000000
def dirI (sg x : Int) : Int := posI (IntKind.i64.wrap (sg * x))
def wayS (f o : Bool) : List BCon → List Int → Int → Int
  | c :: cs, x :: l, n => wayS f o cs l (if ((c.firm && f) || (!c.firm && o)) = true then IntKind.i64.wrap (n + x) else n)
  | _, _, n => n
theorem w_way (s : BStore) {l : List Int} {nn : Bool} {sg : Int} {f o : Bool} (hcl : l.length = s.cons.length) (hl : l.length ≤ maxLen) : om'.call (.fn 22) [.agg [.int .i64 s.space, .int .i64 s.inn, .int .i64 s.out, .int .i64 s.lead, .int .i64 s.fuel, slv 11 false s.nn (s.cons.map BCon.cells)], slv 1 true nn (l.map iv), .int .i64 sg, .bool f, .bool o] [] = some (.ret (.int .i64 (wayS f o s.cons (l.map (dirI sg)) 0)), []) := by
  (refine ClQ.eq (stOf rfl Tryz.func22 rfl rfl ?_); simp only [Tryz.f22]; simp only [EVa.down, EVb.down, EVc.down, EVd.down, EVe.down, EVf.down, EVg.down, EVh.down, EVi.down, EVj.down, EVk.down, EVl.down, EVm.down, EVn.down, compO, evalO, evalOs, ofVal, ofLit, happ, happ1, setRow, setCells, bsK, oneA, Nat.reduceLT, Nat.reduceLeDiff, Nat.reduceEqDiff, Nat.reduceAdd, Nat.reduceSub, Nat.reducePow, Nat.reduceMul, ↓reduceIte, reduceCtorEq, decide_true, TY22.down, List.length_map]; repeat' ((first | with_reducible refine fw_rc ?_ ?_ | with_reducible refine fw_cd ?_ ?_ | with_reducible refine fw_rq ?_ ?_ | with_reducible refine fw_rw ?_ ?_ | with_reducible refine fw_rl ?_ ?_ | (with_reducible refine fw_gdT ?_ ?_; kernel_rfl) | (with_reducible refine fw_dwT ?_ ?_ ?_; (first | exact fnE_none | exact rnd_none); decide +kernel) | (with_reducible refine fw_dnT ?_ ?_ ?_; (first | exact fnE_none | exact rnd_none); decide +kernel) | (with_reducible refine fw_dlT ?_ ?_ ?_; (first | exact fnE_none | exact rnd_none); decide +kernel)) <;> (intro hb; (try simp only [hb, EVa.down, EVb.down, EVc.down, EVd.down, EVe.down, EVf.down, EVg.down, EVh.down, EVi.down, EVj.down, EVk.down, EVl.down, EVm.down, EVn.down, compO, evalO, evalOs, ofVal, ofLit, happ, happ1, setRow, setCells, bsK, oneA, Nat.reduceLT, Nat.reduceLeDiff, Nat.reduceEqDiff, Nat.reduceAdd, Nat.reduceSub, Nat.reducePow, Nat.reduceMul, ↓reduceIte, reduceCtorEq, decide_true, TY22.down, List.length_map]); try (revert hb; intro (_ : True)))))
  refine fw_ot (lst 48 l (fun i (zz : Int × List BCon) t h => t 1 = slv 1 true nn (l.map iv) ∧ t 2 = .int .i64 sg ∧ t 3 = .bool f ∧ t 4 = .bool o ∧ t 5 = .ptr 0 0 0 ∧ t 12 = .int .i64 i ∧ t 11 = .int .i64 zz.1 ∧ h[0]? = some (.live 6 false false [[.int .i64 s.space, .int .i64 s.inn, .int .i64 s.out, .int .i64 s.lead, .int .i64 s.fuel, slv 11 false s.nn (s.cons.map BCon.cells)]]) ∧ zz.2 = s.cons.drop i) (fun rest zz => wayS f o zz.2 (rest.map (dirI sg)) zz.1) (fun r e t h => e = .exit 0 ∧ t 11 = .int .i64 r) ?_ ?_ (0, s.cons) _ _ ?_) (fun e t h hk => ?_)
  · rintro ⟨n, ks⟩ t h Q' kQ ⟨h1, h2, h3, h4, h5, h12, h11, hS, hks⟩
    try dsimp only at *
    (simp only [EVa.down, EVb.down, EVc.down, EVd.down, EVe.down, EVf.down, EVg.down, EVh.down, EVi.down, EVj.down, EVk.down, EVl.down, EVm.down, EVn.down, compO, evalO, evalOs, ofVal, ofLit, happ, happ1, setRow, setCells, bsK, oneA, Nat.reduceLT, Nat.reduceLeDiff, Nat.reduceEqDiff, Nat.reduceAdd, Nat.reduceSub, Nat.reducePow, Nat.reduceMul, ↓reduceIte, reduceCtorEq, decide_true, TY22.down, h1, h2, h3, h4, h5, h12, h11, Int.lt_irrefl, decide_false]; repeat' ((first | with_reducible refine fw_rc ?_ ?_ | with_reducible refine fw_cd ?_ ?_ | with_reducible refine fw_rq ?_ ?_ | with_reducible refine fw_rw ?_ ?_ | with_reducible refine fw_rl ?_ ?_ | (with_reducible refine fw_gdT ?_ ?_; kernel_rfl) | (with_reducible refine fw_dwT ?_ ?_ ?_; (first | exact fnE_none | exact rnd_none); decide +kernel) | (with_reducible refine fw_dnT ?_ ?_ ?_; (first | exact fnE_none | exact rnd_none); decide +kernel) | (with_reducible refine fw_dlT ?_ ?_ ?_; (first | exact fnE_none | exact rnd_none); decide +kernel)) <;> (intro hb; (try simp only [hb, EVa.down, EVb.down, EVc.down, EVd.down, EVe.down, EVf.down, EVg.down, EVh.down, EVi.down, EVj.down, EVk.down, EVl.down, EVm.down, EVn.down, compO, evalO, evalOs, ofVal, ofLit, happ, happ1, setRow, setCells, bsK, oneA, Nat.reduceLT, Nat.reduceLeDiff, Nat.reduceEqDiff, Nat.reduceAdd, Nat.reduceSub, Nat.reducePow, Nat.reduceMul, ↓reduceIte, reduceCtorEq, decide_true, TY22.down, h1, h2, h3, h4, h5, h12, h11, Int.lt_irrefl, decide_false]); try (revert hb; intro (_ : True)))))
    exact kQ _ _ _ ⟨rfl, by simp [up, h11]; cases ks <;> simp [wayS]⟩
  · rintro x rest i ⟨n, ks⟩ t h J Q' kJ kQ hx hi ⟨h1, h2, h3, h4, h5, h12, h11, hS, hks⟩
    have hd : decide ((i : Int) < (l.length : Int)) = true := decide_eq_true (by omega)
    have hw := wrap_next hi hl
    try dsimp only at *
    obtain ⟨c, hc⟩ : ∃ c, s.cons[i]? = some c := ⟨_, List.getElem?_eq_getElem (by omega)⟩
    have hdr : ks = c :: s.cons.drop (i + 1) := by
      rw [hks, List.drop_eq_getElem_cons (by omega)]
      congr 1
      exact Option.some.inj ((List.getElem?_eq_getElem _).symm.trans hc)
    have hS1 := get_app hS
    (simp only [EVa.down, EVb.down, EVc.down, EVd.down, EVe.down, EVf.down, EVg.down, EVh.down, EVi.down, EVj.down, EVk.down, EVl.down, EVm.down, EVn.down, compO, evalO, evalOs, ofVal, ofLit, happ, happ1, setRow, setCells, bsK, oneA, Nat.reduceLT, Nat.reduceLeDiff, Nat.reduceEqDiff, Nat.reduceAdd, Nat.reduceSub, Nat.reducePow, Nat.reduceMul, ↓reduceIte, reduceCtorEq, decide_true, TY22.down, h1, h2, h3, h4, h5, h12, h11, hd, hx, hw, hS, hS1, hc, iv, BCon.cells]; repeat' ((first | with_reducible refine fw_rc ?_ ?_ | with_reducible refine fw_cd ?_ ?_ | with_reducible refine fw_rq ?_ ?_ | with_reducible refine fw_rw ?_ ?_ | with_reducible refine fw_rl ?_ ?_ | (with_reducible refine fw_gdT ?_ ?_; kernel_rfl) | (with_reducible refine fw_dwT ?_ ?_ ?_; (first | exact fnE_none | exact rnd_none); decide +kernel) | (with_reducible refine fw_dnT ?_ ?_ ?_; (first | exact fnE_none | exact rnd_none); decide +kernel) | (with_reducible refine fw_dlT ?_ ?_ ?_; (first | exact fnE_none | exact rnd_none); decide +kernel)) <;> (intro hb; (try simp only [hb, EVa.down, EVb.down, EVc.down, EVd.down, EVe.down, EVf.down, EVg.down, EVh.down, EVi.down, EVj.down, EVk.down, EVl.down, EVm.down, EVn.down, compO, evalO, evalOs, ofVal, ofLit, happ, happ1, setRow, setCells, bsK, oneA, Nat.reduceLT, Nat.reduceLeDiff, Nat.reduceEqDiff, Nat.reduceAdd, Nat.reduceSub, Nat.reducePow, Nat.reduceMul, ↓reduceIte, reduceCtorEq, decide_true, TY22.down, h1, h2, h3, h4, h5, h12, h11, hd, hx, hw, hS, hS1, hc, iv, BCon.cells]); try (revert hb; intro (_ : True)))))
    all_goals first
    | (refine rnd_go (kJ _ _ (IntKind.i64.wrap (n + dirI sg x), s.cons.drop (i + 1)) ⟨?_, ?_, ?_, ?_, ?_, ?_, ?_, hS1 _, rfl⟩ ?_); (simp [up, h1]); (simp [up, h2]); (simp [up, h3]); (simp [up, h4]); (simp [up, h5]); (simp [up]); (simp [up, h11, dirI, posI]); (rw [hdr, List.map_cons, wayS, if_pos (by simp_all)]))
    | (refine rnd_go (kJ _ _ (n, s.cons.drop (i + 1)) ⟨?_, ?_, ?_, ?_, ?_, ?_, ?_, hS1 _, rfl⟩ ?_); (simp [up, h1]); (simp [up, h2]); (simp [up, h3]); (simp [up, h4]); (simp [up, h5]); (simp [up]); (simp [up, h11, dirI, posI]); (rw [hdr, List.map_cons, wayS, if_neg (by simp_all)]))
  · exact ⟨by simp [up, ent], by simp [up, ent], by simp [up, ent], by simp [up, ent], by simp [up, ent], by simp [up], by simp [up, ent], rfl, rfl⟩
  · obtain ⟨rfl, h11⟩ := hk
    (simp only [EVa.down, EVb.down, EVc.down, EVd.down, EVe.down, EVf.down, EVg.down, EVh.down, EVi.down, EVj.down, EVk.down, EVl.down, EVm.down, EVn.down, compO, evalO, evalOs, ofVal, ofLit, happ, happ1, setRow, setCells, bsK, oneA, Nat.reduceLT, Nat.reduceLeDiff, Nat.reduceEqDiff, Nat.reduceAdd, Nat.reduceSub, Nat.reducePow, Nat.reduceMul, ↓reduceIte, reduceCtorEq, decide_true, TY22.down, h11]; repeat' ((first | with_reducible refine fw_rc ?_ ?_ | with_reducible refine fw_cd ?_ ?_ | with_reducible refine fw_rq ?_ ?_ | with_reducible refine fw_rw ?_ ?_ | with_reducible refine fw_rl ?_ ?_ | (with_reducible refine fw_gdT ?_ ?_; kernel_rfl) | (with_reducible refine fw_dwT ?_ ?_ ?_; (first | exact fnE_none | exact rnd_none); decide +kernel) | (with_reducible refine fw_dnT ?_ ?_ ?_; (first | exact fnE_none | exact rnd_none); decide +kernel) | (with_reducible refine fw_dlT ?_ ?_ ?_; (first | exact fnE_none | exact rnd_none); decide +kernel)) <;> (intro hb; (try simp only [hb, EVa.down, EVb.down, EVc.down, EVd.down, EVe.down, EVf.down, EVg.down, EVh.down, EVi.down, EVj.down, EVk.down, EVl.down, EVm.down, EVn.down, compO, evalO, evalOs, ofVal, ofLit, happ, happ1, setRow, setCells, bsK, oneA, Nat.reduceLT, Nat.reduceLeDiff, Nat.reduceEqDiff, Nat.reduceAdd, Nat.reduceSub, Nat.reducePow, Nat.reduceMul, ↓reduceIte, reduceCtorEq, decide_true, TY22.down, h11]); try (revert hb; intro (_ : True)))))
theorem wayS_sum (f o : Bool) : ∀ {cs : List BCon} {l : List Int} {n : Int}, Amts l → l.length ≤ 8 → 0 ≤ n → n ≤ 1000000000 - 100000000 * l.length → wayS f o cs l n = n + (List.zipWith (fun c (x : Int) => if ((c.firm && f) || (!c.firm && o)) = true then x else 0) cs l).sum := by
  intro cs
  induction cs with
  | nil => intro l n _ _ _ _; simp [wayS]
  | cons c cs ih =>
    intro l n h hl h0 h1
    cases l with
    | nil => simp [wayS]
    | cons x l =>
      have hh := h.head
      simp only [List.length_cons] at hl h1
      simp only [wayS, List.zipWith_cons_cons, List.sum_cons]
      split
      · rw [wrap_of (by omega) (by omega), ih h.tail (by omega) (by omega) (by omega)]; omega
      · rw [ih h.tail (by omega) (by omega) (by omega)]; omega
theorem way_tt {cs : List BCon} {l : List Int} (h : Amts l) (hl : l.length ≤ 8) (hc : l.length = cs.length) : wayS true true cs l 0 = l.sum := by
  rw [wayS_sum true true h hl (by omega) (by omega), Int.zero_add]
  congr 1
  refine List.ext_getElem? fun i => ?_
  rw [List.getElem?_zipWith]
  by_cases hi : i < l.length
  · rw [List.getElem?_eq_getElem hi, List.getElem?_eq_getElem (by omega : i < cs.length)]; simp
  · rw [List.getElem?_eq_none (by omega : l.length ≤ i)]; cases cs[i]? <;> rfl
theorem way_tf {cs : List BCon} {l : List Int} (h : Amts l) (hl : l.length ≤ 8) : wayS true false cs l 0 = (fzL cs l).sum := by
  rw [wayS_sum true false h hl (by omega) (by omega), Int.zero_add]
  congr 1
  unfold fzL
  congr 1
  funext c x
  simp [firmW]
theorem way_ft {cs : List BCon} {l : List Int} (h : Amts l) (hl : l.length ≤ 8) : wayS false true cs l 0 = (ozR cs l).sum := by
  rw [wayS_sum false true h hl (by omega) (by omega), Int.zero_add]
  congr 1
  unfold ozR
  congr 1
  funext c x
  cases hf : c.firm <;> simp [othR, hf]
theorem wants_get {l : List Int} (h : wantsB l = true) {i : Nat} {x : Int} (hx : l[i]? = some x) : -100000000 ≤ x ∧ x ≤ 100000000 := by
  have := List.all_eq_true.1 h x (List.mem_of_getElem? hx)
  simp only [inB, Bool.and_eq_true, decide_eq_true_eq] at this
  exact this
theorem dir_pos {x : Int} (h : -1000000000 ≤ x ∧ x ≤ 1000000000) : dirI 1 x = posI x := by
  unfold dirI; rw [Int.one_mul, wrap_of (by omega) (by omega)]
theorem dir_neg {x : Int} : dirI (-1) x = negI x := by
  unfold dirI negI; rw [show -1 * x = 0 - x by omega]
theorem Amts.pos {l : List Int} (h : wantsB l = true) : Amts (l.map posI) := fun w hw => by
  obtain ⟨x, hx, rfl⟩ := List.mem_map.1 hw
  exact pos_in (List.all_eq_true.1 h x hx)
theorem Amts.neg {l : List Int} (h : wantsB l = true) : Amts (l.map negI) := fun w hw => by
  obtain ⟨x, hx, rfl⟩ := List.mem_map.1 hw
  exact neg_in (List.all_eq_true.1 h x hx)
/-- Direction: what is wanted there, and what the hour allows. -/
def dirL (out : Bool) (l : List Int) : List Int := if out = true then l.map negI else l.map posI
def sgn (out : Bool) : Int := if out = true then -1 else 1
theorem dirL_eq {l : List Int} (h : wantsB l = true) (out : Bool) : l.map (dirI (sgn out)) = dirL out l := by
  unfold dirL sgn
  cases out with
  | true => simp only [if_true]; exact List.map_congr_left fun x _ => dir_neg
  | false =>
    simp only [Bool.false_eq_true, if_false]
    refine List.map_congr_left fun x hx => dir_pos ?_
    have := List.all_eq_true.1 h x hx
    simp only [inB, Bool.and_eq_true, decide_eq_true_eq] at this
    omega
theorem dirL_amts {l : List Int} (h : wantsB l = true) (out : Bool) : Amts (dirL out l) := by
  unfold dirL; split
  · exact Amts.neg h
  · exact Amts.pos h
theorem dirL_length (out : Bool) (l : List Int) : (dirL out l).length = l.length := by unfold dirL; split <;> simp
/-- What is granted in all, one contract. -/
theorem grant_one {cs : List BCon} {l : List Int} {a b : Int} (hl : l.length = cs.length) (h8 : l.length ≤ 8) (h : wantsB l = true) (ha : 0 ≤ a) (ha' : a ≤ 800000000) (hb : 0 ≤ b) (hb' : b ≤ 800000000) {i : Nat} {x : Int} (hx : l[i]? = some x) :
    ∃ p q, (grantR cs (l.map posI) a)[i]? = some p ∧ (grantR cs (l.map negI) b)[i]? = some q ∧ (grantAll grantR cs l a b)[i]? = some (p - q) ∧ 0 ≤ p ∧ p ≤ posI x ∧ 0 ≤ q ∧ q ≤ negI x ∧ posI (p - q) = p ∧ posI (q - p) = q := by
  have c1 := cuts (cs := cs) (l := l.map posI) (m := a) (by simpa using hl) (by simpa using h8) (Amts.pos h) ha ha'
  have c2 := cuts (cs := cs) (l := l.map negI) (m := b) (by simpa using hl) (by simpa using h8) (Amts.neg h) hb hb'
  have hi : i < l.length := (List.getElem?_eq_some_iff.1 hx).1
  obtain ⟨p, hp⟩ : ∃ p, (grantR cs (l.map posI) a)[i]? = some p := ⟨_, List.getElem?_eq_getElem (by rw [c1.len]; simpa using hi)⟩
  obtain ⟨q, hq⟩ : ∃ q, (grantR cs (l.map negI) b)[i]? = some q := ⟨_, List.getElem?_eq_getElem (by rw [c2.len]; simpa using hi)⟩
  have i1 := c1.ins hp (w := posI x) (by simp [hx])
  have i2 := c2.ins hq (w := negI x) (by simp [hx])
  have hw := wants_get h hx
  have n1 : negI x = if x < 0 then -x else 0 := by
    unfold negI posI; rw [wrap_of (by omega) (by omega)]; split <;> split <;> omega
  have n2 : posI x = if 0 < x then x else 0 := rfl
  rw [n1] at i2
  rw [n2] at i1
  have hz : p = 0 ∨ q = 0 := by
    split at i1 <;> split at i2 <;> omega
  refine ⟨p, q, hp, hq, ?_, i1.1, by rw [n2]; exact i1.2, i2.1, by rw [n1]; exact i2.2, ?_, ?_⟩
  · unfold grantAll
    rw [List.getElem?_zipWith, hp, hq]
    simp only [subW]
    rw [wrap_of (by split at i1 <;> split at i2 <;> omega) (by split at i1 <;> split at i2 <;> omega)]
  · unfold posI; split <;> omega
  · unfold posI; split <;> omega
theorem grant_dir {cs : List BCon} {l : List Int} {a b : Int} (hl : l.length = cs.length) (h8 : l.length ≤ 8) (h : wantsB l = true) (ha : 0 ≤ a) (ha' : a ≤ 800000000) (hb : 0 ≤ b) (hb' : b ≤ 800000000) (out : Bool) :
    (grantAll grantR cs l a b).map (dirI (sgn out)) = grantR cs (dirL out l) (if out = true then b else a) := by
  have hg : (grantAll grantR cs l a b).length = l.length := by simp [grantAll, grantR_length, hl]
  have hg2 := grantR_length (cs := cs) (l := dirL out l) (by rw [dirL_length]; exact hl) (if out = true then b else a)
  rw [dirL_length] at hg2
  refine List.ext_getElem? fun i => ?_
  by_cases hi : i < l.length
  · obtain ⟨x, hx⟩ : ∃ x, l[i]? = some x := ⟨_, List.getElem?_eq_getElem hi⟩
    obtain ⟨p, q, e1, e2, e3, e4, e5, e6, e7, e8, e9⟩ := grant_one hl h8 h ha ha' hb hb' hx
    have hw := wants_get h hx
    have n1 : negI x ≤ 100000000 := by
      unfold negI posI; rw [wrap_of (by omega) (by omega)]; split <;> omega
    have n2 : posI x ≤ 100000000 := by unfold posI; split <;> omega
    rw [List.getElem?_map, e3]
    unfold dirL sgn
    cases out with
    | true =>
      simp only [if_true, e2, Option.map_some, dir_neg]
      unfold negI
      rw [wrap_of (by omega) (by omega), show 0 - (p - q) = q - p by omega, e9]
    | false =>
      simp only [Bool.false_eq_true, if_false, e1, Option.map_some]
      rw [dir_pos (by omega), e8]
  · rw [List.getElem?_eq_none (by simp; omega), List.getElem?_eq_none (by omega)]
end Go.Proofs.YtdbiogihimdpcaaGreatDoor
