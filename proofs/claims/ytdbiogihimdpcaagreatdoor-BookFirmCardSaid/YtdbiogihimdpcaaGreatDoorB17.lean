/- Layer 6: what is granted in one direction. -/
import Derived.Test.YtdbiogihimdpcaaGreatDoorB16
set_option linter.unusedSimpArgs false
set_option linter.unusedVariables false
namespace Go.Proofs.YtdbiogihimdpcaaGreatDoor
open Go.Ev Go
set_option maxRecDepth 100000
set_option maxHeartbeats 1000000
def addW (x y : Int) : Int := IntKind.i64.wrap (x + y)
def fzL (cs : List BCon) (l : List Int) : List Int := List.zipWith firmW cs l
def ozL (cs : List BCon) (l : List Int) : List Int := List.zipWith othW cs l
def idxL (n : Nat) : List Int := (List.range n).map Int.ofNat
def grantL (cs : List BCon) (l : List Int) (most : Int) : List Int :=
  if sumF l 0 ≤ most then l else if most < sumF (fzL cs l) 0 then shareF most (sumF (fzL cs l) 0) (fzL cs l) 0 0
  else List.zipWith addW (shareF (IntKind.i64.wrap (most - sumF (fzL cs l) 0)) (sumF (ozL cs l) 0) (ozL cs l) 0 0) (fzL cs l)
def grantW (cs : List BCon) (l : List Int) (most : Int) : Bool := if sumF l 0 ≤ most then false else if most < sumF (fzL cs l) 0 then decide (0 < sumF (fzL cs l) 0) else true
theorem idxL_length (n : Nat) : (idxL n).length = n := by simp [idxL]
theorem idxL_succ (n : Nat) : idxL (n + 1) = idxL n ++ [(n : Int)] := by simp [idxL, List.range_succ]
theorem shareF_length (a b : Int) : ∀ (l : List Int) (so got : Int), (shareF a b l so got).length = l.length
  | [], _, _ => rfl
  | x :: l, so, got => by simp [shareF, shareF_length a b l]
theorem zip_get {f : BCon → Int → Int} {cs : List BCon} {l : List Int} {i : Nat} {x : Int} (h : (List.zipWith f cs l)[i]? = some x) : ∃ c w, cs[i]? = some c ∧ l[i]? = some w ∧ x = f c w := by
  rw [List.getElem?_zipWith] at h
  cases hc : cs[i]? with
  | none => simp [hc] at h
  | some c =>
    cases hw : l[i]? with
    | none => simp [hc, hw] at h
    | some w => simp [hc, hw] at h; exact ⟨c, w, rfl, rfl, h.symm⟩
theorem map_idx (l : List Int) : (idxL l.length).map (fun x => (l[x.toNat]?).getD 0) = l := by
  refine List.ext_getElem? fun i => ?_
  simp only [idxL, List.map_map, List.getElem?_map, Function.comp_def]
  by_cases hi : i < l.length
  · rw [List.getElem?_range hi]; simp [hi]
  · rw [List.getElem?_eq_none (by simpa using hi), List.getElem?_eq_none (by simpa using hi)]; rfl
theorem idx_mem {n : Nat} {x : Int} (h : x ∈ idxL n) : ∃ k : Nat, x = (k : Int) ∧ k < n := by
  simp only [idxL, List.mem_map, List.mem_range] at h
  obtain ⟨k, hk, rfl⟩ := h
  exact ⟨k, rfl, hk⟩
theorem set_drop {p sh : List Int} {i : Nat} {y : Int} (hp : p.length = i) (hy : sh[i]? = some y) (v : Int) : ((p ++ sh.drop i).map iv).set i [.int .i64 v] = (p ++ (v :: sh.drop (i + 1))).map iv := by
  have hlt : i < sh.length := (List.getElem?_eq_some_iff.1 hy).1
  subst hp
  rw [List.drop_eq_getElem_cons hlt, List.map_append, List.map_cons, List.set_append_right _ _ (by simp)]
  simp only [List.length_map, Nat.sub_self, List.set_cons_zero, List.map_append, List.map_cons]
  rfl
theorem get_drop {p sh : List Int} {i : Nat} {y : Int} (hp : p.length = i) (hy : sh[i]? = some y) : (p ++ sh.drop i)[i]? = some y := by
  rw [List.getElem?_append_right (by omega), hp, Nat.sub_self, List.getElem?_drop]; simpa using hy
theorem zip_step2 {x y : Int} {rest sh : List Int} {i : Nat} (hy : sh[i]? = some y) (p : List Int) (hp : p.length = i) : (p ++ [addW y x]) ++ List.zipWith addW (sh.drop (p ++ [addW y x]).length) rest = p ++ List.zipWith addW (sh.drop p.length) (x :: rest) := by
  have hlt : i < sh.length := (List.getElem?_eq_some_iff.1 hy).1
  have hd : sh.drop i = y :: sh.drop (i + 1) := by
    rw [List.drop_eq_getElem_cons hlt]
    congr 1
    exact Option.some.inj ((List.getElem?_eq_getElem hlt).symm.trans hy)
  rw [List.length_append, hp, hd]
  simp
theorem e_granted {s : BStore} {l : List Int} {nn : Bool} {most : Int} (hcl : l.length = s.cons.length) (hl : l.length ≤ 1000) (hne : l ≠ []) : om'.call (.fn 96) [.agg [.int .i64 s.space, .int .i64 s.inn, .int .i64 s.out, .int .i64 s.lead, .int .i64 s.fuel, slv 11 false s.nn (s.cons.map BCon.cells)], slv 1 true nn (l.map iv), .int .i64 most] [] = some (.ret (.slr 1 0 0 l.length), [.live 1 true (grantW s.cons l most) ((grantL s.cons l most).map iv)]) := by
  have hl' : l.length ≤ maxLen := by unfold maxLen; omega
  have hsum := e_sum (nn := nn) hl'
  have hcln := e_cloneInt hl hne
  rw [← slv_ne (n := 1) (fl := true) (nn := nn) (rows := l.map iv) (by simpa using hne)] at hcln
  (refine ClQ.eq (stOf rfl Tryz.func96 rfl rfl ?_); simp only [Tryz.f96]; simp only [EVa.down, EVb.down, EVc.down, EVd.down, EVe.down, EVf.down, EVg.down, EVh.down, EVi.down, EVj.down, EVk.down, EVl.down, EVm.down, EVn.down, compO, evalO, evalOs, ofVal, ofLit, happ, happ1, setRow, setCells, bsK, oneA, Nat.reduceLT, Nat.reduceLeDiff, Nat.reduceEqDiff, Nat.reduceAdd, Nat.reduceSub, Nat.reducePow, Nat.reduceMul, ↓reduceIte, reduceCtorEq, decide_true, TY96.down, List.length_map, hsum, hcln]; repeat' ((first | with_reducible refine fw_rc ?_ ?_ | with_reducible refine fw_cd ?_ ?_ | with_reducible refine fw_rq ?_ ?_ | with_reducible refine fw_rw ?_ ?_ | with_reducible refine fw_rl ?_ ?_ | (with_reducible refine fw_gdT ?_ ?_; kernel_rfl) | (with_reducible refine fw_dwT ?_ ?_ ?_; (first | exact fnE_none | exact rnd_none); decide +kernel) | (with_reducible refine fw_dnT ?_ ?_ ?_; (first | exact fnE_none | exact rnd_none); decide +kernel) | (with_reducible refine fw_dlT ?_ ?_ ?_; (first | exact fnE_none | exact rnd_none); decide +kernel)) <;> (intro hb; (try simp only [hb, EVa.down, EVb.down, EVc.down, EVd.down, EVe.down, EVf.down, EVg.down, EVh.down, EVi.down, EVj.down, EVk.down, EVl.down, EVm.down, EVn.down, compO, evalO, evalOs, ofVal, ofLit, happ, happ1, setRow, setCells, bsK, oneA, Nat.reduceLT, Nat.reduceLeDiff, Nat.reduceEqDiff, Nat.reduceAdd, Nat.reduceSub, Nat.reducePow, Nat.reduceMul, ↓reduceIte, reduceCtorEq, decide_true, TY96.down, List.length_map, hsum, hcln]); try (revert hb; intro (_ : True)))))
  · have hb : sumF l 0 ≤ most := by simpa using hb
    simp [grantL, grantW, hb]
  have hq : ¬ sumF l 0 ≤ most := by simpa using hb
  have hfl : (fzL s.cons l).length = l.length := by simp [fzL, hcl]
  have hol : (ozL s.cons l).length = l.length := by simp [ozL, hcl]
  have hfl' : (fzL s.cons l).length ≤ maxLen := by omega
  refine fw_ot (lst 73 l (fun i (zz : Unit) t h => t 2 = .int .i64 most ∧ t 3 = .ptr 0 0 0 ∧ t 4 = .ptr 1 0 0 ∧ t 22 = .int .i64 l.length ∧ t 23 = .int .i64 i ∧ h[0]? = some (.live 6 false false [[.int .i64 s.space, .int .i64 s.inn, .int .i64 s.out, .int .i64 s.lead, .int .i64 s.fuel, slv 11 false s.nn (s.cons.map BCon.cells)]]) ∧ h[1]? = some (.live 1 false false [[slv 1 true nn (l.map iv)]]) ∧ ((i = 0 ∧ t 7 = .nils ∧ h.length = 2) ∨ (0 < i ∧ ∃ b, 2 ≤ b ∧ t 7 = .slr 1 b 0 i ∧ h[b]? = some (.live 1 true false ((idxL i).map iv))))) (fun rest zz => ()) (fun r e t h => e = .exit 0 ∧ t 2 = .int .i64 most ∧ t 3 = .ptr 0 0 0 ∧ t 4 = .ptr 1 0 0 ∧ h[0]? = some (.live 6 false false [[.int .i64 s.space, .int .i64 s.inn, .int .i64 s.out, .int .i64 s.lead, .int .i64 s.fuel, slv 11 false s.nn (s.cons.map BCon.cells)]]) ∧ h[1]? = some (.live 1 false false [[slv 1 true nn (l.map iv)]]) ∧ (∃ b, 2 ≤ b ∧ t 7 = .slr 1 b 0 l.length ∧ h[b]? = some (.live 1 true false ((idxL l.length).map iv)))) ?_ ?_ () _ _ ?_) (fun e tA hA hk => ?_)
  · rintro _ t h Q' kQ ⟨h2, h3, h4, h22, h23, hS, hW, hc⟩
    (simp only [EVa.down, EVb.down, EVc.down, EVd.down, EVe.down, EVf.down, EVg.down, EVh.down, EVi.down, EVj.down, EVk.down, EVl.down, EVm.down, EVn.down, compO, evalO, evalOs, ofVal, ofLit, happ, happ1, setRow, setCells, bsK, oneA, Nat.reduceLT, Nat.reduceLeDiff, Nat.reduceEqDiff, Nat.reduceAdd, Nat.reduceSub, Nat.reducePow, Nat.reduceMul, ↓reduceIte, reduceCtorEq, decide_true, TY96.down, h2, h3, h4, h22, h23, Int.lt_irrefl, decide_false]; repeat' ((first | with_reducible refine fw_rc ?_ ?_ | with_reducible refine fw_cd ?_ ?_ | with_reducible refine fw_rq ?_ ?_ | with_reducible refine fw_rw ?_ ?_ | with_reducible refine fw_rl ?_ ?_ | (with_reducible refine fw_gdT ?_ ?_; kernel_rfl) | (with_reducible refine fw_dwT ?_ ?_ ?_; (first | exact fnE_none | exact rnd_none); decide +kernel) | (with_reducible refine fw_dnT ?_ ?_ ?_; (first | exact fnE_none | exact rnd_none); decide +kernel) | (with_reducible refine fw_dlT ?_ ?_ ?_; (first | exact fnE_none | exact rnd_none); decide +kernel)) <;> (intro hb; (try simp only [hb, EVa.down, EVb.down, EVc.down, EVd.down, EVe.down, EVf.down, EVg.down, EVh.down, EVi.down, EVj.down, EVk.down, EVl.down, EVm.down, EVn.down, compO, evalO, evalOs, ofVal, ofLit, happ, happ1, setRow, setCells, bsK, oneA, Nat.reduceLT, Nat.reduceLeDiff, Nat.reduceEqDiff, Nat.reduceAdd, Nat.reduceSub, Nat.reducePow, Nat.reduceMul, ↓reduceIte, reduceCtorEq, decide_true, TY96.down, h2, h3, h4, h22, h23, Int.lt_irrefl, decide_false]); try (revert hb; intro (_ : True)))))
    rcases hc with ⟨hz, _⟩ | ⟨_, b, hb2, h7, hb⟩
    · exact (hne (List.length_eq_zero_iff.1 hz)).elim
    · exact kQ _ _ _ ⟨rfl, by simp [up, h2], by simp [up, h3], by simp [up, h4], hS, hW, b, hb2, by simp [up, h7], hb⟩
  · rintro x rest i _ t h J Q' kJ kQ hx hi ⟨h2, h3, h4, h22, h23, hS, hW, hc⟩
    have hd : decide ((i : Int) < (l.length : Int)) = true := decide_eq_true (by omega)
    have hw := wrap_next hi hl'
    rcases hc with ⟨rfl, h7, hlen⟩ | ⟨h0, b, hb2, h7, hb⟩
    · (simp only [EVa.down, EVb.down, EVc.down, EVd.down, EVe.down, EVf.down, EVg.down, EVh.down, EVi.down, EVj.down, EVk.down, EVl.down, EVm.down, EVn.down, compO, evalO, evalOs, ofVal, ofLit, happ, happ1, setRow, setCells, bsK, oneA, Nat.reduceLT, Nat.reduceLeDiff, Nat.reduceEqDiff, Nat.reduceAdd, Nat.reduceSub, Nat.reducePow, Nat.reduceMul, ↓reduceIte, reduceCtorEq, decide_true, TY96.down, h2, h3, h4, h22, h23, h7, hd, hx, hw, iv]; repeat' ((first | with_reducible refine fw_rc ?_ ?_ | with_reducible refine fw_cd ?_ ?_ | with_reducible refine fw_rq ?_ ?_ | with_reducible refine fw_rw ?_ ?_ | with_reducible refine fw_rl ?_ ?_ | (with_reducible refine fw_gdT ?_ ?_; kernel_rfl) | (with_reducible refine fw_dwT ?_ ?_ ?_; (first | exact fnE_none | exact rnd_none); decide +kernel) | (with_reducible refine fw_dnT ?_ ?_ ?_; (first | exact fnE_none | exact rnd_none); decide +kernel) | (with_reducible refine fw_dlT ?_ ?_ ?_; (first | exact fnE_none | exact rnd_none); decide +kernel)) <;> (intro hb; (try simp only [hb, EVa.down, EVb.down, EVc.down, EVd.down, EVe.down, EVf.down, EVg.down, EVh.down, EVi.down, EVj.down, EVk.down, EVl.down, EVm.down, EVn.down, compO, evalO, evalOs, ofVal, ofLit, happ, happ1, setRow, setCells, bsK, oneA, Nat.reduceLT, Nat.reduceLeDiff, Nat.reduceEqDiff, Nat.reduceAdd, Nat.reduceSub, Nat.reducePow, Nat.reduceMul, ↓reduceIte, reduceCtorEq, decide_true, TY96.down, h2, h3, h4, h22, h23, h7, hd, hx, hw, iv]); try (revert hb; intro (_ : True)))))
      (refine rnd_go (kJ _ _ () ⟨?_, ?_, ?_, ?_, ?_, get_app hS _, get_app hW _, .inr ⟨by omega, h.length + 1, by omega, by simp [up], by rw [hp_getk]; simp [idxL, iv]⟩⟩ ?_); (simp [up, h2]); (simp [up, h3]); (simp [up, h4]); (simp [up, h22]); (simp [up]); exact rfl)
    · have hbl : b < h.length := (List.getElem?_eq_some_iff.1 hb).1
      have hA := get_app hb
      have hSt := set_app hbl
      have hi39 : (i + 1 ≤ 549755813888) = True := eq_true (by omega)
      have hlp : 0 + i = (idxL i).length := by simp [idxL_length]
      (simp only [EVa.down, EVb.down, EVc.down, EVd.down, EVe.down, EVf.down, EVg.down, EVh.down, EVi.down, EVj.down, EVk.down, EVl.down, EVm.down, EVn.down, compO, evalO, evalOs, ofVal, ofLit, happ, happ1, setRow, setCells, bsK, oneA, Nat.reduceLT, Nat.reduceLeDiff, Nat.reduceEqDiff, Nat.reduceAdd, Nat.reduceSub, Nat.reducePow, Nat.reduceMul, ↓reduceIte, reduceCtorEq, decide_true, TY96.down, h2, h3, h4, h22, h23, h7, hd, hx, hw, iv, hA, hSt, gset0, gsetk, List.length_set, hi39, idxL_length]; repeat' ((first | with_reducible refine fw_rc ?_ ?_ | with_reducible refine fw_cd ?_ ?_ | with_reducible refine fw_rq ?_ ?_ | with_reducible refine fw_rw ?_ ?_ | with_reducible refine fw_rl ?_ ?_ | (with_reducible refine fw_gdT ?_ ?_; kernel_rfl) | (with_reducible refine fw_dwT ?_ ?_ ?_; (first | exact fnE_none | exact rnd_none); decide +kernel) | (with_reducible refine fw_dnT ?_ ?_ ?_; (first | exact fnE_none | exact rnd_none); decide +kernel) | (with_reducible refine fw_dlT ?_ ?_ ?_; (first | exact fnE_none | exact rnd_none); decide +kernel)) <;> (intro hb; (try simp only [hb, EVa.down, EVb.down, EVc.down, EVd.down, EVe.down, EVf.down, EVg.down, EVh.down, EVi.down, EVj.down, EVk.down, EVl.down, EVm.down, EVn.down, compO, evalO, evalOs, ofVal, ofLit, happ, happ1, setRow, setCells, bsK, oneA, Nat.reduceLT, Nat.reduceLeDiff, Nat.reduceEqDiff, Nat.reduceAdd, Nat.reduceSub, Nat.reducePow, Nat.reduceMul, ↓reduceIte, reduceCtorEq, decide_true, TY96.down, h2, h3, h4, h22, h23, h7, hd, hx, hw, iv, hA, hSt, gset0, gsetk, List.length_set, hi39, idxL_length]); try (revert hb; intro (_ : True)))))
      (refine rnd_go (kJ _ _ () ⟨?_, ?_, ?_, ?_, ?_, gset_ne _ (by omega) hS _, gset_ne _ (by omega) hW _, .inr ⟨by omega, h.length + 1, by omega, by simp [up], by rw [gsetk]; simp [idxL_succ, iv]⟩⟩ ?_); (simp [up, h2]); (simp [up, h3]); (simp [up, h4]); (simp [up, h22]); (simp [up]); exact rfl)
  · exact ⟨by simp [up, ent], by simp [up, ent], by simp [up, ent], by simp [up, ent], by simp [up], rfl, rfl, .inl ⟨rfl, by simp [up], rfl⟩⟩
  · obtain ⟨rfl, h2, h3, h4, hS, hW, b, hb2, h7, hbi⟩ := hk
    have hbl : b < hA.length := (List.getElem?_eq_some_iff.1 hbi).1
    have hS1 := get_app hS
    have hW1 := get_app hW
    have hb1 := get_app hbi
    have z1 : (hA.length = 0) = False := eq_false (by omega)
    have z2 : (1 = hA.length) = False := eq_false (by omega)
    have y1 : (b == 1) = false := by simp; omega
    have y2 : (b == hA.length) = false := by simp; omega
    have y3 : (b == 0) = false := by simp; omega
    have z3 : (0 = hA.length) = False := eq_false (by omega)
    (simp only [EVa.down, EVb.down, EVc.down, EVd.down, EVe.down, EVf.down, EVg.down, EVh.down, EVi.down, EVj.down, EVk.down, EVl.down, EVm.down, EVn.down, compO, evalO, evalOs, ofVal, ofLit, happ, happ1, setRow, setCells, bsK, oneA, Nat.reduceLT, Nat.reduceLeDiff, Nat.reduceEqDiff, Nat.reduceAdd, Nat.reduceSub, Nat.reducePow, Nat.reduceMul, ↓reduceIte, reduceCtorEq, decide_true, TY96.down, h2, h3, h4, h7, hS1, hW1]; repeat' ((first | with_reducible refine fw_rc ?_ ?_ | with_reducible refine fw_cd ?_ ?_ | with_reducible refine fw_rq ?_ ?_ | with_reducible refine fw_rw ?_ ?_ | with_reducible refine fw_rl ?_ ?_ | (with_reducible refine fw_gdT ?_ ?_; kernel_rfl) | (with_reducible refine fw_dwT ?_ ?_ ?_; (first | exact fnE_none | exact rnd_none); decide +kernel) | (with_reducible refine fw_dnT ?_ ?_ ?_; (first | exact fnE_none | exact rnd_none); decide +kernel) | (with_reducible refine fw_dlT ?_ ?_ ?_; (first | exact fnE_none | exact rnd_none); decide +kernel)) <;> (intro hb; (try simp only [hb, EVa.down, EVb.down, EVc.down, EVd.down, EVe.down, EVf.down, EVg.down, EVh.down, EVi.down, EVj.down, EVk.down, EVl.down, EVm.down, EVn.down, compO, evalO, evalOs, ofVal, ofLit, happ, happ1, setRow, setCells, bsK, oneA, Nat.reduceLT, Nat.reduceLeDiff, Nat.reduceEqDiff, Nat.reduceAdd, Nat.reduceSub, Nat.reducePow, Nat.reduceMul, ↓reduceIte, reduceCtorEq, decide_true, TY96.down, h2, h3, h4, h7, hS1, hW1]); try (revert hb; intro (_ : True)))))
    refine fw_ot (lst 73 (fzL s.cons l) (fun i (zz : Int) t h => t 2 = .int .i64 most ∧ t 7 = .slr 1 b 0 l.length ∧ t 9 = .ptr hA.length 0 0 ∧ t 10 = .func (.func 126) [] [.ptr 1 0 0, .ptr hA.length 0 0] ∧ t 34 = .int .i64 (fzL s.cons l).length ∧ t 35 = .int .i64 i ∧ t 11 = .int .i64 zz ∧ h = hA ++ [.live 1 false true [[.func (.func 125) [] [.ptr 0 0 0, .ptr 1 0 0]]]]) (fun rest zz => sumF rest zz) (fun r e t h => e = .exit 2 ∧ t 2 = .int .i64 most ∧ t 7 = .slr 1 b 0 l.length ∧ t 9 = .ptr hA.length 0 0 ∧ t 10 = .func (.func 126) [] [.ptr 1 0 0, .ptr hA.length 0 0] ∧ t 11 = .int .i64 r ∧ h = hA ++ [.live 1 false true [[.func (.func 125) [] [.ptr 0 0 0, .ptr 1 0 0]]]]) ?_ ?_ (0) _ _ ?_) (fun e tB hB hk => ?_)
    · rintro a' t h Q' kQ ⟨h2, h7, h9, h10, h34, h35, h11, rfl⟩
      (simp only [EVa.down, EVb.down, EVc.down, EVd.down, EVe.down, EVf.down, EVg.down, EVh.down, EVi.down, EVj.down, EVk.down, EVl.down, EVm.down, EVn.down, compO, evalO, evalOs, ofVal, ofLit, happ, happ1, setRow, setCells, bsK, oneA, Nat.reduceLT, Nat.reduceLeDiff, Nat.reduceEqDiff, Nat.reduceAdd, Nat.reduceSub, Nat.reducePow, Nat.reduceMul, ↓reduceIte, reduceCtorEq, decide_true, TY96.down, h2, h7, h9, h10, h34, h35, h11, Int.lt_irrefl, decide_false]; repeat' ((first | with_reducible refine fw_rc ?_ ?_ | with_reducible refine fw_cd ?_ ?_ | with_reducible refine fw_rq ?_ ?_ | with_reducible refine fw_rw ?_ ?_ | with_reducible refine fw_rl ?_ ?_ | (with_reducible refine fw_gdT ?_ ?_; kernel_rfl) | (with_reducible refine fw_dwT ?_ ?_ ?_; (first | exact fnE_none | exact rnd_none); decide +kernel) | (with_reducible refine fw_dnT ?_ ?_ ?_; (first | exact fnE_none | exact rnd_none); decide +kernel) | (with_reducible refine fw_dlT ?_ ?_ ?_; (first | exact fnE_none | exact rnd_none); decide +kernel)) <;> (intro hb; (try simp only [hb, EVa.down, EVb.down, EVc.down, EVd.down, EVe.down, EVf.down, EVg.down, EVh.down, EVi.down, EVj.down, EVk.down, EVl.down, EVm.down, EVn.down, compO, evalO, evalOs, ofVal, ofLit, happ, happ1, setRow, setCells, bsK, oneA, Nat.reduceLT, Nat.reduceLeDiff, Nat.reduceEqDiff, Nat.reduceAdd, Nat.reduceSub, Nat.reducePow, Nat.reduceMul, ↓reduceIte, reduceCtorEq, decide_true, TY96.down, h2, h7, h9, h10, h34, h35, h11, Int.lt_irrefl, decide_false]); try (revert hb; intro (_ : True)))))
      exact kQ _ _ _ ⟨rfl, by simp [up, h2], by simp [up, h7], by simp [up, h9], by simp [up, h10], by simp [up, h11, sumF], rfl⟩
    · rintro x rest i a' t h J Q' kJ kQ hx hi ⟨h2, h7, h9, h10, h34, h35, h11, rfl⟩
      have hd : decide ((i : Int) < ((fzL s.cons l).length : Int)) = true := decide_eq_true (by omega)
      have hw := wrap_next hi hfl'
      obtain ⟨c, w, hc, hw', rfl⟩ := zip_get hx
      have hg := e_granted1 (nn := nn) hc hw'
      (simp only [EVa.down, EVb.down, EVc.down, EVd.down, EVe.down, EVf.down, EVg.down, EVh.down, EVi.down, EVj.down, EVk.down, EVl.down, EVm.down, EVn.down, compO, evalO, evalOs, ofVal, ofLit, happ, happ1, setRow, setCells, bsK, oneA, Nat.reduceLT, Nat.reduceLeDiff, Nat.reduceEqDiff, Nat.reduceAdd, Nat.reduceSub, Nat.reducePow, Nat.reduceMul, ↓reduceIte, reduceCtorEq, decide_true, TY96.down, h2, h7, h9, h10, h34, h35, h11, hd, hx, hw, hS1, hW1, hg]; repeat' ((first | with_reducible refine fw_rc ?_ ?_ | with_reducible refine fw_cd ?_ ?_ | with_reducible refine fw_rq ?_ ?_ | with_reducible refine fw_rw ?_ ?_ | with_reducible refine fw_rl ?_ ?_ | (with_reducible refine fw_gdT ?_ ?_; kernel_rfl) | (with_reducible refine fw_dwT ?_ ?_ ?_; (first | exact fnE_none | exact rnd_none); decide +kernel) | (with_reducible refine fw_dnT ?_ ?_ ?_; (first | exact fnE_none | exact rnd_none); decide +kernel) | (with_reducible refine fw_dlT ?_ ?_ ?_; (first | exact fnE_none | exact rnd_none); decide +kernel)) <;> (intro hb; (try simp only [hb, EVa.down, EVb.down, EVc.down, EVd.down, EVe.down, EVf.down, EVg.down, EVh.down, EVi.down, EVj.down, EVk.down, EVl.down, EVm.down, EVn.down, compO, evalO, evalOs, ofVal, ofLit, happ, happ1, setRow, setCells, bsK, oneA, Nat.reduceLT, Nat.reduceLeDiff, Nat.reduceEqDiff, Nat.reduceAdd, Nat.reduceSub, Nat.reducePow, Nat.reduceMul, ↓reduceIte, reduceCtorEq, decide_true, TY96.down, h2, h7, h9, h10, h34, h35, h11, hd, hx, hw, hS1, hW1, hg]); try (revert hb; intro (_ : True)))))
      (refine rnd_go (kJ _ _ (IntKind.i64.wrap (a' + firmW c w)) ⟨?_, ?_, ?_, ?_, ?_, ?_, ?_, rfl⟩ ?_); (simp [up, h2]); (simp [up, h7]); (simp [up, h9]); (simp [up, h10]); (simp [up, h34]); (simp [up]); (simp [up, h11]); exact rfl)
    · exact ⟨by simp [up, ent, h2, h3, h4, h7, hfl], by simp [up, ent, h2, h3, h4, h7, hfl], by simp [up, ent, h2, h3, h4, h7, hfl], by simp [up, ent, h2, h3, h4, h7, hfl], by simp [up, ent, h2, h3, h4, h7, hfl], by simp [up], by simp [up, ent, h2, h3, h4, h7, hfl], rfl⟩
    · obtain ⟨rfl, h2, h7, h9, h10, h11, rfl⟩ := hk
      have htk : ((idxL l.length).map iv).take l.length = (idxL l.length).map iv := List.take_of_length_le (by simp [idxL_length])
      have hshA := e_shareA (amount := most) (nn := true) (g := 125) (s := s) (wl := l) (wn := nn) (l := idxL l.length) (w := fun x => ((fzL s.cons l)[x.toNat]?).getD 0) (fun x hx => by
        obtain ⟨k, rfl, hk⟩ := idx_mem hx
        obtain ⟨y, hy⟩ : ∃ y, (fzL s.cons l)[k]? = some y := ⟨_, List.getElem?_eq_getElem (by omega)⟩
        obtain ⟨c, w, hc, hw', rfl⟩ := zip_get hy
        simp only [Int.toNat_natCast, hy, Option.getD_some]
        exact e_granted1 hc hw') (by rw [idxL_length]; exact hl)
      have hshB := e_shareB (amount := IntKind.i64.wrap (most - sumF (fzL s.cons l) 0)) (nn := true) (g := 126) (q := 125) (s := s) (wl := l) (wn := nn) (l := idxL l.length) (w := fun x => ((ozL s.cons l)[x.toNat]?).getD 0) (fun x hx => by
        obtain ⟨k, rfl, hk⟩ := idx_mem hx
        obtain ⟨y, hy⟩ : ∃ y, (ozL s.cons l)[k]? = some y := ⟨_, List.getElem?_eq_getElem (by omega)⟩
        obtain ⟨c, w, hc, hw', rfl⟩ := zip_get hy
        simp only [Int.toNat_natCast, hy, Option.getD_some]
        exact e_granted2 hc hw') (by rw [idxL_length]; exact hl)
      have m1 := map_idx (fzL s.cons l)
      have m2 := map_idx (ozL s.cons l)
      rw [hfl] at m1
      rw [hol] at m2
      rw [slv_true, m1, idxL_length] at hshA
      rw [slv_true, m2, idxL_length] at hshB
      simp only [List.cons_append, List.nil_append] at hshA hshB
      have hle : (0 + l.length ≤ (idxL l.length).length) = True := eq_true (by simp [idxL_length])
      (simp only [EVa.down, EVb.down, EVc.down, EVd.down, EVe.down, EVf.down, EVg.down, EVh.down, EVi.down, EVj.down, EVk.down, EVl.down, EVm.down, EVn.down, compO, evalO, evalOs, ofVal, ofLit, happ, happ1, setRow, setCells, bsK, oneA, Nat.reduceLT, Nat.reduceLeDiff, Nat.reduceEqDiff, Nat.reduceAdd, Nat.reduceSub, Nat.reducePow, Nat.reduceMul, ↓reduceIte, reduceCtorEq, decide_true, TY96.down, h2, h7, h9, h10, h11, hS1, hW1, hb1, hshA, hshB, y1, y2, y3, z1, z2, z3, htk, idxL_length]; repeat' ((first | with_reducible refine fw_rc ?_ ?_ | with_reducible refine fw_cd ?_ ?_ | with_reducible refine fw_rq ?_ ?_ | with_reducible refine fw_rw ?_ ?_ | with_reducible refine fw_rl ?_ ?_ | (with_reducible refine fw_gdT ?_ ?_; kernel_rfl) | (with_reducible refine fw_dwT ?_ ?_ ?_; (first | exact fnE_none | exact rnd_none); decide +kernel) | (with_reducible refine fw_dnT ?_ ?_ ?_; (first | exact fnE_none | exact rnd_none); decide +kernel) | (with_reducible refine fw_dlT ?_ ?_ ?_; (first | exact fnE_none | exact rnd_none); decide +kernel)) <;> (intro hb; (try simp only [hb, EVa.down, EVb.down, EVc.down, EVd.down, EVe.down, EVf.down, EVg.down, EVh.down, EVi.down, EVj.down, EVk.down, EVl.down, EVm.down, EVn.down, compO, evalO, evalOs, ofVal, ofLit, happ, happ1, setRow, setCells, bsK, oneA, Nat.reduceLT, Nat.reduceLeDiff, Nat.reduceEqDiff, Nat.reduceAdd, Nat.reduceSub, Nat.reducePow, Nat.reduceMul, ↓reduceIte, reduceCtorEq, decide_true, TY96.down, h2, h7, h9, h10, h11, hS1, hW1, hb1, hshA, hshB, y1, y2, y3, z1, z2, z3, htk, idxL_length]); try (revert hb; intro (_ : True)))))
      · have hb : most < sumF (fzL s.cons l) 0 := by simpa using hb
        simp [grantL, grantW, hq, hb]
      have hb : ¬ most < sumF (fzL s.cons l) 0 := by simpa using hb
      have hshl : ∀ a b, (shareF a b (ozL s.cons l) 0 0).length = l.length := fun a b => by rw [shareF_length, hol]
      refine fw_ot (lst 73 (fzL s.cons l) (fun i (zz : List Int × Bool) t h => t 9 = .ptr hA.length 0 0 ∧ t 13 = .slr 1 (hA.length + 1) 0 l.length ∧ t 58 = .int .i64 (fzL s.cons l).length ∧ t 59 = .int .i64 i ∧ h = hA ++ [.live 1 false true [[.func (.func 125) [] [.ptr 0 0 0, .ptr 1 0 0]]], .live 1 true zz.2 ((zz.1 ++ (shareF (IntKind.i64.wrap (most - sumF (fzL s.cons l) 0)) (sumF (ozL s.cons l) 0) (ozL s.cons l) 0 0).drop i).map iv)] ∧ zz.1.length = i ∧ (i = 0 ∨ zz.2 = true)) (fun rest zz => zz.1 ++ List.zipWith addW ((shareF (IntKind.i64.wrap (most - sumF (fzL s.cons l) 0)) (sumF (ozL s.cons l) 0) (ozL s.cons l) 0 0).drop zz.1.length) rest) (fun r e t h => e = .exit 4 ∧ t 13 = .slr 1 (hA.length + 1) 0 l.length ∧ h = hA ++ [.live 1 false true [[.func (.func 125) [] [.ptr 0 0 0, .ptr 1 0 0]]], .live 1 true true (r.map iv)]) ?_ ?_ ([], decide (0 < sumF (ozL s.cons l) 0)) _ _ ?_) (fun e tC hC hk => ?_)
      · rintro ⟨p, wf⟩ t h Q' kQ ⟨h9, h13, h58, h59, rfl, hp, hf⟩
        try dsimp only at *
        (simp only [EVa.down, EVb.down, EVc.down, EVd.down, EVe.down, EVf.down, EVg.down, EVh.down, EVi.down, EVj.down, EVk.down, EVl.down, EVm.down, EVn.down, compO, evalO, evalOs, ofVal, ofLit, happ, happ1, setRow, setCells, bsK, oneA, Nat.reduceLT, Nat.reduceLeDiff, Nat.reduceEqDiff, Nat.reduceAdd, Nat.reduceSub, Nat.reducePow, Nat.reduceMul, ↓reduceIte, reduceCtorEq, decide_true, TY96.down, h9, h13, h58, h59, Int.lt_irrefl, decide_false]; repeat' ((first | with_reducible refine fw_rc ?_ ?_ | with_reducible refine fw_cd ?_ ?_ | with_reducible refine fw_rq ?_ ?_ | with_reducible refine fw_rw ?_ ?_ | with_reducible refine fw_rl ?_ ?_ | (with_reducible refine fw_gdT ?_ ?_; kernel_rfl) | (with_reducible refine fw_dwT ?_ ?_ ?_; (first | exact fnE_none | exact rnd_none); decide +kernel) | (with_reducible refine fw_dnT ?_ ?_ ?_; (first | exact fnE_none | exact rnd_none); decide +kernel) | (with_reducible refine fw_dlT ?_ ?_ ?_; (first | exact fnE_none | exact rnd_none); decide +kernel)) <;> (intro hb; (try simp only [hb, EVa.down, EVb.down, EVc.down, EVd.down, EVe.down, EVf.down, EVg.down, EVh.down, EVi.down, EVj.down, EVk.down, EVl.down, EVm.down, EVn.down, compO, evalO, evalOs, ofVal, ofLit, happ, happ1, setRow, setCells, bsK, oneA, Nat.reduceLT, Nat.reduceLeDiff, Nat.reduceEqDiff, Nat.reduceAdd, Nat.reduceSub, Nat.reducePow, Nat.reduceMul, ↓reduceIte, reduceCtorEq, decide_true, TY96.down, h9, h13, h58, h59, Int.lt_irrefl, decide_false]); try (revert hb; intro (_ : True)))))
        rcases hf with hz | rfl
        · exact (hne (List.length_eq_zero_iff.1 (by omega))).elim
        · exact kQ _ _ _ ⟨rfl, by simp [up, h13], by rw [List.drop_eq_nil_iff.2 (by rw [hshl]; omega)]; simp⟩
      · rintro x rest i ⟨p, wf⟩ t h J Q' kJ kQ hx hi ⟨h9, h13, h58, h59, rfl, hp, hf⟩
        have hd : decide ((i : Int) < ((fzL s.cons l).length : Int)) = true := decide_eq_true (by omega)
        have hw := wrap_next hi hfl'
        try dsimp only at *
        obtain ⟨c, w, hc, hw', rfl⟩ := zip_get hx
        have hg := e_granted1 (nn := nn) hc hw'
        obtain ⟨y, hy⟩ : ∃ y, (shareF (IntKind.i64.wrap (most - sumF (fzL s.cons l) 0)) (sumF (ozL s.cons l) 0) (ozL s.cons l) 0 0)[i]? = some y := ⟨_, List.getElem?_eq_getElem (by rw [hshl]; omega)⟩
        have hset := set_drop hp hy
        have hget := get_drop hp hy
        have hii : ((i : Int) < (l.length : Int)) = True := eq_true (by omega)
        (simp only [EVa.down, EVb.down, EVc.down, EVd.down, EVe.down, EVf.down, EVg.down, EVh.down, EVi.down, EVj.down, EVk.down, EVl.down, EVm.down, EVn.down, compO, evalO, evalOs, ofVal, ofLit, happ, happ1, setRow, setCells, bsK, oneA, Nat.reduceLT, Nat.reduceLeDiff, Nat.reduceEqDiff, Nat.reduceAdd, Nat.reduceSub, Nat.reducePow, Nat.reduceMul, ↓reduceIte, reduceCtorEq, decide_true, TY96.down, h9, h13, h58, h59, hd, hx, hw, hS1, hW1, hg, hset, hget, hii, iv]; repeat' ((first | with_reducible refine fw_rc ?_ ?_ | with_reducible refine fw_cd ?_ ?_ | with_reducible refine fw_rq ?_ ?_ | with_reducible refine fw_rw ?_ ?_ | with_reducible refine fw_rl ?_ ?_ | (with_reducible refine fw_gdT ?_ ?_; kernel_rfl) | (with_reducible refine fw_dwT ?_ ?_ ?_; (first | exact fnE_none | exact rnd_none); decide +kernel) | (with_reducible refine fw_dnT ?_ ?_ ?_; (first | exact fnE_none | exact rnd_none); decide +kernel) | (with_reducible refine fw_dlT ?_ ?_ ?_; (first | exact fnE_none | exact rnd_none); decide +kernel)) <;> (intro hb; (try simp only [hb, EVa.down, EVb.down, EVc.down, EVd.down, EVe.down, EVf.down, EVg.down, EVh.down, EVi.down, EVj.down, EVk.down, EVl.down, EVm.down, EVn.down, compO, evalO, evalOs, ofVal, ofLit, happ, happ1, setRow, setCells, bsK, oneA, Nat.reduceLT, Nat.reduceLeDiff, Nat.reduceEqDiff, Nat.reduceAdd, Nat.reduceSub, Nat.reducePow, Nat.reduceMul, ↓reduceIte, reduceCtorEq, decide_true, TY96.down, h9, h13, h58, h59, hd, hx, hw, hS1, hW1, hg, hset, hget, hii, iv]); try (revert hb; intro (_ : True)))))
        (refine rnd_go (kJ _ _ (p ++ [addW y (firmW c w)], true) ⟨?_, ?_, ?_, ?_, by simp [addW], by simp [hp], .inr rfl⟩ ?_); (simp [up, h9]); (simp [up, h13]); (simp [up, h58]); (simp [up]); (exact zip_step2 hy p hp))
      · exact ⟨by simp [up, ent, h2, h7, h9, h10, h11, hfl], by simp [up, ent, h2, h7, h9, h10, h11, hfl], by simp [up, ent, h2, h7, h9, h10, h11, hfl], by simp [up], by simp, rfl, .inl rfl⟩
      · obtain ⟨rfl, h13, rfl⟩ := hk
        (simp only [EVa.down, EVb.down, EVc.down, EVd.down, EVe.down, EVf.down, EVg.down, EVh.down, EVi.down, EVj.down, EVk.down, EVl.down, EVm.down, EVn.down, compO, evalO, evalOs, ofVal, ofLit, happ, happ1, setRow, setCells, bsK, oneA, Nat.reduceLT, Nat.reduceLeDiff, Nat.reduceEqDiff, Nat.reduceAdd, Nat.reduceSub, Nat.reducePow, Nat.reduceMul, ↓reduceIte, reduceCtorEq, decide_true, TY96.down, h13]; repeat' ((first | with_reducible refine fw_rc ?_ ?_ | with_reducible refine fw_cd ?_ ?_ | with_reducible refine fw_rq ?_ ?_ | with_reducible refine fw_rw ?_ ?_ | with_reducible refine fw_rl ?_ ?_ | (with_reducible refine fw_gdT ?_ ?_; kernel_rfl) | (with_reducible refine fw_dwT ?_ ?_ ?_; (first | exact fnE_none | exact rnd_none); decide +kernel) | (with_reducible refine fw_dnT ?_ ?_ ?_; (first | exact fnE_none | exact rnd_none); decide +kernel) | (with_reducible refine fw_dlT ?_ ?_ ?_; (first | exact fnE_none | exact rnd_none); decide +kernel)) <;> (intro hb; (try simp only [hb, EVa.down, EVb.down, EVc.down, EVd.down, EVe.down, EVf.down, EVg.down, EVh.down, EVi.down, EVj.down, EVk.down, EVl.down, EVm.down, EVn.down, compO, evalO, evalOs, ofVal, ofLit, happ, happ1, setRow, setCells, bsK, oneA, Nat.reduceLT, Nat.reduceLeDiff, Nat.reduceEqDiff, Nat.reduceAdd, Nat.reduceSub, Nat.reducePow, Nat.reduceMul, ↓reduceIte, reduceCtorEq, decide_true, TY96.down, h13]); try (revert hb; intro (_ : True)))))
        simp [grantL, grantW, hq, hb]
end Go.Proofs.YtdbiogihimdpcaaGreatDoor
