/- Layer 6, plain: shares without overflow; what is granted in one direction. -/
import Derived.Test.YtdbiogihimdpcaaGreatDoorB31
set_option linter.unusedSimpArgs false
set_option linter.unusedVariables false
namespace Go.Proofs.YtdbiogihimdpcaaGreatDoor
open Go.Ev Go
set_option maxRecDepth 100000
set_option maxHeartbeats 1000000
/-- Amounts of one direction. -/
def Amts (l : List Int) : Prop := ∀ w ∈ l, 0 ≤ w ∧ w ≤ 100000000
theorem Amts.tail {x : Int} {l : List Int} (h : Amts (x :: l)) : Amts l := fun w hw => h w (List.mem_cons_of_mem _ hw)
theorem Amts.head {x : Int} {l : List Int} (h : Amts (x :: l)) : 0 ≤ x ∧ x ≤ 100000000 := h x (List.mem_cons_self ..)
theorem Amts.sum : ∀ {l : List Int}, Amts l → 0 ≤ l.sum ∧ l.sum ≤ 100000000 * l.length
  | [], _ => by simp
  | x :: l, h => by
    have := Amts.sum h.tail
    have := h.head
    simp only [List.sum_cons, List.length_cons]
    omega
theorem sumF_sum {l : List Int} {a : Int} (h : Amts l) (hl : l.length ≤ 1000) (h0 : 0 ≤ a) (h1 : a ≤ 1000000000000 - 100000000 * l.length) : sumF l a = a + l.sum := by
  induction l generalizing a with
  | nil => simp [sumF]
  | cons x l ih =>
    have := h.head
    simp only [List.length_cons] at hl h1
    rw [sumF, wrap_of (by omega) (by omega), ih h.tail (by omega) (by omega) (by omega), List.sum_cons]
    omega
theorem sumF_0 {l : List Int} (h : Amts l) (hl : l.length ≤ 1000) : sumF l 0 = l.sum := by
  rw [sumF_sum h hl (by omega) (by omega)]; omega
def shareX (amount whole : Int) : List Int → Int → List Int
  | [], _ => []
  | w :: rest, so => (amount * (so + w) / whole - amount * so / whole) :: shareX amount whole rest (so + w)
theorem mul_le {a b c d : Int} (h0 : 0 ≤ a) (h1 : a ≤ c) (h2 : 0 ≤ b) (h3 : b ≤ d) : 0 ≤ a * b ∧ a * b ≤ c * d :=
  ⟨Int.mul_nonneg h0 h2, Int.mul_le_mul h1 h3 h2 (by omega)⟩
theorem div_in {x y : Int} (h0 : 0 ≤ x) (hy : 0 < y) : 0 ≤ x / y ∧ x / y ≤ x := ⟨Int.ediv_nonneg h0 (by omega), Int.ediv_le_self _ h0⟩
theorem shareF_X {amount whole : Int} (ha : 0 ≤ amount) (ha' : amount ≤ 1000000000) (hw : 0 < whole) {l : List Int} {so : Int} (h : Amts l) (hl : l.length ≤ 8) (h0 : 0 ≤ so) (h1 : so ≤ 1000000000 - 100000000 * l.length) : shareF amount whole l so (amount * so / whole) = shareX amount whole l so := by
  induction l generalizing so with
  | nil => rfl
  | cons w l ih =>
    have hh := h.head
    simp only [List.length_cons] at hl h1
    have e1 : IntKind.i64.wrap (so + w) = so + w := wrap_of (by omega) (by omega)
    have m1 := mul_le ha ha' (b := so + w) (d := 1000000000) (by omega) (by omega)
    have m2 := mul_le ha ha' (b := so) (d := 1000000000) (by omega) (by omega)
    have d1 := div_in m1.1 hw
    have d2 := div_in m2.1 hw
    have e2 : IntKind.i64.wrap (amount * (so + w)) = amount * (so + w) := wrap_of (by omega) (by omega)
    have e3 : (amount * (so + w)).tdiv whole = amount * (so + w) / whole := Int.tdiv_eq_ediv_of_nonneg m1.1
    have e4 : IntKind.i64.wrap (amount * (so + w) / whole) = amount * (so + w) / whole := wrap_of (by omega) (by omega)
    have e5 : IntKind.i64.wrap (amount * (so + w) / whole - amount * so / whole) = amount * (so + w) / whole - amount * so / whole := wrap_of (by omega) (by omega)
    have e6 : amount * so / whole + (amount * (so + w) / whole - amount * so / whole) = amount * (so + w) / whole := by omega
    simp only [shareF, shareX, part1, hw, if_true, e1, e2, e3, e4, e5, e6]
    rw [ih h.tail (by omega) (by omega) (by omega)]
theorem shareF_0 {amount whole : Int} (ha : 0 ≤ amount) (ha' : amount ≤ 1000000000) (hw : 0 < whole) {l : List Int} (h : Amts l) (hl : l.length ≤ 8) : shareF amount whole l 0 0 = shareX amount whole l 0 := by
  have := shareF_X ha ha' hw h hl (Int.le_refl 0) (by omega)
  simpa using this
/-- Each one has its part, to less than one. -/
theorem part_near {amount whole so w : Int} (hw : 0 < whole) : (amount * (so + w) / whole - amount * so / whole) * whole - amount * w < whole ∧ -whole < (amount * (so + w) / whole - amount * so / whole) * whole - amount * w := by
  have a1 := Int.emod_add_mul_ediv (amount * (so + w)) whole
  have a2 := Int.emod_add_mul_ediv (amount * so) whole
  have b1 := Int.emod_nonneg (amount * (so + w)) (by omega : whole ≠ 0)
  have b2 := Int.emod_nonneg (amount * so) (by omega : whole ≠ 0)
  have c1 := Int.emod_lt_of_pos (amount * (so + w)) hw
  have c2 := Int.emod_lt_of_pos (amount * so) hw
  have e : amount * (so + w) = amount * so + amount * w := Int.mul_add ..
  rw [Int.sub_mul, Int.mul_comm (amount * (so + w) / whole), Int.mul_comm (amount * so / whole)]
  constructor <;> omega
theorem part_in {amount whole so w : Int} (ha : 0 ≤ amount) (haw : amount ≤ whole) (hw : 0 < whole) (hw0 : 0 ≤ w) : 0 ≤ amount * (so + w) / whole - amount * so / whole ∧ amount * (so + w) / whole - amount * so / whole ≤ w := by
  have e : amount * (so + w) = amount * so + amount * w := Int.mul_add ..
  have p : 0 ≤ amount * w := Int.mul_nonneg ha hw0
  have q : amount * w ≤ whole * w := Int.mul_le_mul_of_nonneg_right haw hw0
  have m1 : amount * so / whole ≤ amount * (so + w) / whole := Int.ediv_le_ediv hw (by omega)
  have m2 : amount * (so + w) / whole ≤ (amount * so + w * whole) / whole := Int.ediv_le_ediv hw (by rw [Int.mul_comm w]; omega)
  rw [Int.add_mul_ediv_right _ _ (by omega)] at m2
  omega
theorem shareX_get {amount whole : Int} (ha : 0 ≤ amount) (haw : amount ≤ whole) (hw : 0 < whole) : ∀ {l : List Int} {so : Int}, Amts l → ∀ {i : Nat} {x w : Int}, (shareX amount whole l so)[i]? = some x → l[i]? = some w → 0 ≤ x ∧ x ≤ w ∧ x * whole - amount * w < whole ∧ -whole < x * whole - amount * w
  | [], _, _, i, x, w, hx, _ => by simp [shareX] at hx
  | y :: l, so, h, 0, x, w, hx, hw' => by
    simp only [shareX, List.getElem?_cons_zero, Option.some.injEq] at hx hw'
    subst hx hw'
    have := part_in (so := so) ha haw hw h.head.1
    have := part_near (amount := amount) (so := so) (w := y) hw
    exact ⟨by omega, by omega, by omega, by omega⟩
  | y :: l, so, h, i + 1, x, w, hx, hw' => by
    simp only [shareX, List.getElem?_cons_succ] at hx hw'
    exact shareX_get ha haw hw h.tail hx hw'
theorem shareX_length (amount whole : Int) : ∀ (l : List Int) (so : Int), (shareX amount whole l so).length = l.length
  | [], _ => rfl
  | x :: l, so => by simp [shareX, shareX_length amount whole l]
theorem shareX_sum (amount whole : Int) : ∀ (l : List Int) (so : Int), (shareX amount whole l so).sum = amount * (so + l.sum) / whole - amount * so / whole
  | [], so => by simp [shareX]
  | w :: l, so => by
    rw [shareX, List.sum_cons, shareX_sum, List.sum_cons, Int.add_assoc so]
    omega
theorem shareX_all {amount : Int} {l : List Int} (hw : 0 < l.sum) : (shareX amount l.sum l 0).sum = amount := by
  rw [shareX_sum]; simp [Int.mul_ediv_cancel _ (by omega : l.sum ≠ 0)]
end Go.Proofs.YtdbiogihimdpcaaGreatDoor
