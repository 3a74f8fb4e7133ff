/- Layer 6, plain: the theorem of cuts in one direction. -/
import Derived.Test.YtdbiogihimdpcaaGreatDoorB32
set_option linter.unusedSimpArgs false
set_option linter.unusedVariables false
namespace Go.Proofs.YtdbiogihimdpcaaGreatDoor
open Go.Ev Go
set_option maxRecDepth 100000
set_option maxHeartbeats 1000000
theorem Amts.fz : ∀ {cs : List BCon} {l : List Int}, Amts l → Amts (fzL cs l)
  | [], _, _ => fun w hw => by simp [fzL] at hw
  | _ :: _, [], _ => fun w hw => by simp [fzL] at hw
  | c :: cs, x :: l, h => fun w hw => by
    simp only [fzL, List.zipWith_cons_cons, List.mem_cons] at hw
    rcases hw with rfl | hw
    · have := h.head; unfold firmW; split <;> omega
    · exact Amts.fz h.tail w hw
theorem Amts.oz : ∀ {cs : List BCon} {l : List Int}, Amts l → Amts (ozR cs l)
  | [], _, _ => fun w hw => by simp [ozR] at hw
  | _ :: _, [], _ => fun w hw => by simp [ozR] at hw
  | c :: cs, x :: l, h => fun w hw => by
    simp only [ozR, List.zipWith_cons_cons, List.mem_cons] at hw
    rcases hw with rfl | hw
    · have := h.head; unfold othR; split <;> omega
    · exact Amts.oz h.tail w hw
theorem fo_sum : ∀ {cs : List BCon} {l : List Int}, l.length = cs.length → (fzL cs l).sum + (ozR cs l).sum = l.sum
  | [], [], _ => rfl
  | c :: cs, x :: l, h => by
    have ih := fo_sum (cs := cs) (l := l) (by simpa using h)
    simp only [fzL, ozR, List.zipWith_cons_cons, List.sum_cons, firmW, othR] at ih ⊢
    split <;> omega
/-- What is granted to contracts, in numbers. -/
structure Cuts (cs : List BCon) (l A : List Int) (m : Int) : Prop where
  len : A.length = l.length
  ins : ∀ {i : Nat} {x w : Int}, A[i]? = some x → l[i]? = some w → 0 ≤ x ∧ x ≤ w
  all : A.sum = min l.sum m
  firm : (fzL cs A).sum < (fzL cs l).sum → (ozR cs A).sum = 0
  near : ∀ {i : Nat} {c : BCon} {x w : Int}, cs[i]? = some c → A[i]? = some x → l[i]? = some w →
    (c.firm = true → x * (fzL cs l).sum - min m (fzL cs l).sum * w < max 1 (fzL cs l).sum ∧ -(max 1 (fzL cs l).sum) < x * (fzL cs l).sum - min m (fzL cs l).sum * w) ∧
    (c.firm = false → x * (ozR cs l).sum - min (max 0 (m - (fzL cs l).sum)) (ozR cs l).sum * w < max 1 (ozR cs l).sum ∧ -(max 1 (ozR cs l).sum) < x * (ozR cs l).sum - min (max 0 (m - (fzL cs l).sum)) (ozR cs l).sum * w)
theorem fz_fz : ∀ {cs : List BCon} {l A : List Int}, (∀ {i : Nat} {c : BCon} {x w : Int}, cs[i]? = some c → A[i]? = some x → l[i]? = some w → c.firm = true → x = w) → l.length = cs.length → A.length = l.length → fzL cs A = fzL cs l
  | [], _, _, _, _, _ => rfl
  | c :: cs, w :: l, x :: A, h, h1, h2 => by
    have ih := fz_fz (cs := cs) (l := l) (A := A) (fun {i c x w} hc hx hw => h (i := i + 1) (by simpa using hc) (by simpa using hx) (by simpa using hw)) (by simpa using h1) (by simpa using h2)
    simp only [fzL, List.zipWith_cons_cons] at ih ⊢
    rw [ih]
    congr 1
    unfold firmW
    split
    · rename_i hf; exact h (i := 0) rfl rfl rfl hf
    · rfl
  | c :: cs, [], _, _, h1, _ => by simp at h1
  | c :: cs, _ :: _, [], _, _, h2 => by simp at h2
theorem oz_none : ∀ {cs : List BCon} {A : List Int}, (∀ {i : Nat} {c : BCon} {x : Int}, cs[i]? = some c → A[i]? = some x → c.firm = false → x = 0) → (ozR cs A).sum = 0
  | [], _, _ => rfl
  | _ :: _, [], _ => rfl
  | c :: cs, x :: A, h => by
    have ih := oz_none (cs := cs) (A := A) (fun {i c x} hc hx => h (i := i + 1) (by simpa using hc) (by simpa using hx))
    simp only [ozR, List.zipWith_cons_cons, List.sum_cons] at ih ⊢
    rw [ih]
    unfold othR
    split
    · rfl
    · rename_i hf; rw [h (i := 0) rfl rfl (by simpa using hf)]; rfl
theorem zip3 {cs : List BCon} {l : List Int} {f : BCon → Int → Int} {i : Nat} {c : BCon} {w : Int} (hc : cs[i]? = some c) (hw : l[i]? = some w) : (List.zipWith f cs l)[i]? = some (f c w) := by simp [List.getElem?_zipWith, hc, hw]
theorem cuts {cs : List BCon} {l : List Int} {m : Int} (hl : l.length = cs.length) (h8 : l.length ≤ 8) (ha : Amts l) (hm : 0 ≤ m) (hm' : m ≤ 800000000) : Cuts cs l (grantR cs l m) m := by
  have hf := ha.fz (cs := cs)
  have ho := ha.oz (cs := cs)
  have lf : (fzL cs l).length = l.length := by simp [fzL, hl]
  have lo : (ozR cs l).length = l.length := by simp [ozR, hl]
  have s1 := sumF_0 ha (by omega)
  have s2 := sumF_0 hf (by omega)
  have s3 := sumF_0 ho (by omega)
  have bf := hf.sum
  have bo := ho.sum
  have bl := ha.sum
  have hfo := fo_sum hl
  unfold grantR
  rw [s1, s2, s3]
  split
  · rename_i h1
    refine ⟨rfl, fun hx hw => ?_, by omega, fun h => by omega, fun {i c x w} hc hx hw => ?_⟩
    · rw [hx] at hw; cases hw
      exact ⟨(ha _ (List.mem_of_getElem? hx)).1, Int.le_refl _⟩
    · rw [hx] at hw; cases hw
      have e1 : min m (fzL cs l).sum = (fzL cs l).sum := by omega
      have e2 : min (max 0 (m - (fzL cs l).sum)) (ozR cs l).sum = (ozR cs l).sum := by omega
      rw [e1, e2, Int.mul_comm x, Int.mul_comm x]
      exact ⟨fun _ => by omega, fun _ => by omega⟩
  · rename_i h1
    split
    · rename_i h2
      rw [shareF_0 hm (by omega) (by omega) hf (by omega)]
      have hg := fun {i : Nat} {x w : Int} hx hw => shareX_get (l := fzL cs l) (so := 0) hm (by omega : m ≤ (fzL cs l).sum) (by omega) hf (i := i) (x := x) (w := w) hx hw
      have hz : ∀ {i : Nat} {c : BCon} {x : Int}, cs[i]? = some c → (shareX m (fzL cs l).sum (fzL cs l) 0)[i]? = some x → c.firm = false → x = 0 := fun {i c x} hc hx hfm => by
        have hi : i < l.length := by
          have := (List.getElem?_eq_some_iff.1 hx).1
          rw [shareX_length, lf] at this; exact this
        obtain ⟨w, hw⟩ : ∃ w, l[i]? = some w := ⟨_, List.getElem?_eq_getElem hi⟩
        have := hg hx (zip3 (f := firmW) hc hw)
        simp only [firmW, hfm, Bool.false_eq_true, if_false] at this
        omega
      refine ⟨by rw [shareX_length, lf], fun {i x w} hx hw => ?_, ?_, fun _ => oz_none hz, fun {i c x w} hc hx hw => ?_⟩
      · have hi : i < cs.length := by
          have := (List.getElem?_eq_some_iff.1 hw).1; omega
        obtain ⟨c, hc⟩ : ∃ c, cs[i]? = some c := ⟨_, List.getElem?_eq_getElem hi⟩
        have := hg hx (zip3 (f := firmW) hc hw)
        have hw0 := ha _ (List.mem_of_getElem? hw)
        unfold firmW at this
        split at this <;> omega
      · rw [shareX_all (by omega)]; omega
      · have := hg hx (zip3 (f := firmW) hc hw)
        constructor
        · intro hfm
          simp only [firmW, hfm, if_true] at this
          rw [Int.min_eq_left (by omega)]
          exact ⟨by omega, by omega⟩
        · intro hfm
          rw [hz hc hx hfm, show min (max 0 (m - (fzL cs l).sum)) (ozR cs l).sum = 0 by omega]
          omega
    · rename_i h2
      have e0 : IntKind.i64.wrap (m - (fzL cs l).sum) = m - (fzL cs l).sum := wrap_of (by omega) (by omega)
      rw [e0, shareF_0 (by omega) (by omega) (by omega) ho (by omega)]
      have hg := fun {i : Nat} {x w : Int} hx hw => shareX_get (l := ozR cs l) (so := 0) (by omega : 0 ≤ m - (fzL cs l).sum) (by omega : m - (fzL cs l).sum ≤ (ozR cs l).sum) (by omega) ho (i := i) (x := x) (w := w) hx hw
      have hA : ∀ {i : Nat} {c : BCon} {x w : Int}, cs[i]? = some c → l[i]? = some w → (List.zipWith addW (shareX (m - (fzL cs l).sum) (ozR cs l).sum (ozR cs l) 0) (fzL cs l))[i]? = some x → (c.firm = true → x = w) ∧ (c.firm = false → 0 ≤ x ∧ x ≤ w ∧ x * (ozR cs l).sum - (m - (fzL cs l).sum) * w < (ozR cs l).sum ∧ -(ozR cs l).sum < x * (ozR cs l).sum - (m - (fzL cs l).sum) * w) := fun {i c x w} hc hw hx => by
        rw [List.getElem?_zipWith, zip3 (f := firmW) hc hw (cs := cs) (l := l) |> (fun h => (show (fzL cs l)[i]? = some (firmW c w) from h))] at hx
        cases hy : (shareX (m - (fzL cs l).sum) (ozR cs l).sum (ozR cs l) 0)[i]? with
        | none => rw [hy] at hx; simp at hx
        | some y =>
          rw [hy] at hx
          simp only [Option.some.injEq] at hx
          have := hg hy (zip3 (f := othR) hc hw)
          have hw0 := ha _ (List.mem_of_getElem? hw)
          subst hx
          constructor
          · intro hfm
            simp only [othR, hfm, if_true] at this
            simp only [addW, firmW, hfm, if_true]
            rw [wrap_of (by omega) (by omega)]; omega
          · intro hfm
            simp only [othR, hfm, Bool.false_eq_true, if_false] at this
            simp only [addW, firmW, hfm, Bool.false_eq_true, if_false]
            rw [wrap_of (by omega) (by omega), Int.add_zero]
            exact this
      have hlen : (List.zipWith addW (shareX (m - (fzL cs l).sum) (ozR cs l).sum (ozR cs l) 0) (fzL cs l)).length = l.length := by simp [shareX_length, lf, lo]
      have hfz := fz_fz (cs := cs) (l := l) (A := List.zipWith addW (shareX (m - (fzL cs l).sum) (ozR cs l).sum (ozR cs l) 0) (fzL cs l)) (fun {i c x w} hc hx hw hfm => (hA hc hw hx).1 hfm) hl hlen
      have hoz : ozR cs (List.zipWith addW (shareX (m - (fzL cs l).sum) (ozR cs l).sum (ozR cs l) 0) (fzL cs l)) = shareX (m - (fzL cs l).sum) (ozR cs l).sum (ozR cs l) 0 := by
        refine List.ext_getElem? fun i => ?_
        by_cases hi : i < l.length
        · obtain ⟨w, hw⟩ : ∃ w, l[i]? = some w := ⟨_, List.getElem?_eq_getElem hi⟩
          obtain ⟨c, hc⟩ : ∃ c, cs[i]? = some c := ⟨_, List.getElem?_eq_getElem (by omega)⟩
          obtain ⟨y, hy⟩ : ∃ y, (shareX (m - (fzL cs l).sum) (ozR cs l).sum (ozR cs l) 0)[i]? = some y := ⟨_, List.getElem?_eq_getElem (by rw [shareX_length, lo]; exact hi)⟩
          have := hg hy (zip3 (f := othR) hc hw)
          have hw0 := ha _ (List.mem_of_getElem? hw)
          have hz : (List.zipWith addW (shareX (m - (fzL cs l).sum) (ozR cs l).sum (ozR cs l) 0) (fzL cs l))[i]? = some (addW y (firmW c w)) := by
            rw [List.getElem?_zipWith, hy, show (fzL cs l)[i]? = some (firmW c w) from zip3 hc hw]
          rw [hy, show (ozR cs _)[i]? = some (othR c (addW y (firmW c w))) from zip3 hc hz]
          unfold othR at this ⊢
          split at this
          · rename_i hfm; rw [if_pos hfm]; congr 1; omega
          · rename_i hfm
            rw [if_neg hfm]
            simp only [addW, firmW, hfm, Bool.false_eq_true, if_false]
            rw [wrap_of (by omega) (by omega), Int.add_zero]
        · rw [List.getElem?_eq_none (by simp [ozR, shareX_length, lo, lf]; omega), List.getElem?_eq_none (by rw [shareX_length, lo]; omega)]
      have hs := fo_sum (cs := cs) (l := List.zipWith addW (shareX (m - (fzL cs l).sum) (ozR cs l).sum (ozR cs l) 0) (fzL cs l)) (by omega)
      rw [hfz, hoz, shareX_all (by omega)] at hs
      refine ⟨hlen, fun {i x w} hx hw => ?_, by omega, fun h => by rw [hfz] at h; omega, fun {i c x w} hc hx hw => ?_⟩
      · have hi : i < cs.length := by
          have := (List.getElem?_eq_some_iff.1 hw).1; omega
        obtain ⟨c, hc⟩ : ∃ c, cs[i]? = some c := ⟨_, List.getElem?_eq_getElem hi⟩
        have hq := hA hc hw hx
        have hw0 := ha _ (List.mem_of_getElem? hw)
        cases hfm : c.firm with
        | true => have := hq.1 hfm; omega
        | false => have := hq.2 hfm; omega
      · have hq := hA hc hw hx
        constructor
        · intro hfm
          rw [hq.1 hfm, Int.min_eq_right (by omega), Int.mul_comm w]
          omega
        · intro hfm
          have := hq.2 hfm
          rw [show min (max 0 (m - (fzL cs l).sum)) (ozR cs l).sum = m - (fzL cs l).sum by omega]
          exact ⟨by omega, by omega⟩
end Go.Proofs.YtdbiogihimdpcaaGreatDoor
