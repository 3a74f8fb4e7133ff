/- Layer 6, plain: no rival beats the best sale. -/
import Derived.Test.YtkonpmbcipbhbaaGreatDoorB60
set_option linter.unusedSimpArgs false
set_option linter.unusedVariables false
namespace Go.Proofs.YtkonpmbcipbhbaaGreatDoor
open Go.Ev Go
set_option maxRecDepth 100000
set_option maxHeartbeats 1000000
theorem bit_test : ∀ z < 256, ∀ i < 8, (and1 (shrN ((z : Nat) : Int) i) == 1) = z.testBit i := by decide +kernel
def Inc (lo hi : Int) : List Int → Prop
  | [] => True
  | x :: l => lo ≤ x ∧ x < hi ∧ Inc (x + 1) hi l
theorem Inc.mono {lo lo' hi : Int} (h : lo' ≤ lo) : ∀ {l : List Int}, Inc lo hi l → Inc lo' hi l
  | [], _ => trivial
  | x :: l, k => ⟨by have := k.1; omega, k.2⟩
theorem Inc.mem {hi : Int} : ∀ {l : List Int} {lo : Int}, Inc lo hi l → ∀ x ∈ l, lo ≤ x ∧ x < hi
  | [], _, _, x, hx => by cases hx
  | y :: l, lo, k, x, hx => by
    rcases List.mem_cons.1 hx with rfl | hx
    · exact ⟨k.1, k.2.1⟩
    · have := Inc.mem k.2.2 x hx
      have := k.1
      omega
theorem setB_inc (n : Nat) : ∀ (l : List Int) (p : Option Int), (setB n l p = true ↔ Inc (match p with | none => 0 | some q => if q + 1 ≤ 0 then 0 else q + 1) n l)
  | [], p => by simp [setB, Inc]
  | x :: l, p => by
    simp only [setB, Inc, Bool.and_eq_true, Bool.not_eq_true', decide_eq_false_iff_not, setB_inc n l (some x)]
    cases p with
    | none =>
      simp only [Option.all_none, true_and]
      constructor
      · rintro ⟨h1, h2, h3⟩
        rw [if_neg (by omega)] at h3
        exact ⟨by omega, by omega, h3⟩
      · rintro ⟨h1, h2, h3⟩
        rw [if_neg (by omega)]
        exact ⟨by omega, by omega, h3⟩
    | some q =>
      simp only [Option.all_some, decide_eq_true_eq]
      constructor
      · rintro ⟨h1, h2, h4, h3⟩
        rw [if_neg (by omega)] at h3
        exact ⟨by split <;> omega, by omega, h3⟩
      · rintro ⟨h1, h2, h3⟩
        have : 0 ≤ x ∧ q < x := by split at h1 <;> omega
        rw [if_neg (by omega)]
        exact ⟨by omega, by omega, this.2, h3⟩
theorem setB_iff {n : Nat} {l : List Int} : setB n l none = true ↔ Inc 0 n l := setB_inc n l none
/-- The list of a predicate on numbers. -/
def bitsP (p : Nat → Bool) : Nat → Nat → List Int
  | 0, _ => []
  | n + 1, i => if p i = true then (i : Int) :: bitsP p n (i + 1) else bitsP p n (i + 1)
theorem bitsF_P (z : Int) : ∀ n i, bitsF z n i = bitsP (fun j => and1 (shrN z j) == 1) n i
  | 0, _ => rfl
  | n + 1, i => by unfold bitsF bitsP; rw [bitsF_P z n (i + 1)]
theorem bitsP_congr {p q : Nat → Bool} : ∀ (n i : Nat), (∀ j, i ≤ j → j < i + n → p j = q j) → bitsP p n i = bitsP q n i
  | 0, _, _ => rfl
  | n + 1, i, h => by
    unfold bitsP
    rw [h i (by omega) (by omega), bitsP_congr n (i + 1) fun j h1 h2 => h j (by omega) (by omega)]
theorem bitsP_inc (p : Nat → Bool) : ∀ (n i : Nat), Inc i ((i + n : Nat) : Int) (bitsP p n i)
  | 0, _ => trivial
  | n + 1, i => by
    have h := bitsP_inc p n (i + 1)
    rw [show i + 1 + n = i + (n + 1) by omega] at h
    unfold bitsP
    split
    · exact ⟨Int.le_refl _, by omega, by simpa using h⟩
    · exact h.mono (by omega)
theorem bitsP_mem : ∀ (n i : Nat) (l : List Int), Inc i ((i + n : Nat) : Int) l → bitsP (fun j => decide ((j : Int) ∈ l)) n i = l
  | 0, i, l, h => by
    cases l with
    | nil => rfl
    | cons x l => have := h.1; have := h.2.1; omega
  | n + 1, i, l, h => by
    unfold bitsP
    cases l with
    | nil =>
      have := bitsP_mem n (i + 1) [] trivial
      simpa using this
    | cons x l =>
      by_cases hx : x = i
      · subst hx
        have h2 : Inc ((i + 1 : Nat) : Int) ((i + 1 + n : Nat) : Int) l := by
          rw [show i + 1 + n = i + (n + 1) by omega]; simpa using h.2.2
        have := bitsP_mem n (i + 1) l h2
        rw [if_pos (by simp)]
        congr 1
        rw [← this]
        refine bitsP_congr n (i + 1) fun j h3 h4 => ?_
        rw [this]
        have : ((j : Int) = (i : Int)) = False := eq_false (by omega)
        simp [List.mem_cons, this]
      · have h1 : (i : Int) < x := by have := h.1; omega
        have hi : ((i : Int) ∈ x :: l) = False := eq_false fun hm => by
          rcases List.mem_cons.1 hm with h3 | h3
          · omega
          · have := (Inc.mem h.2.2 _ h3).1; omega
        rw [if_neg (by simp [hi])]
        refine bitsP_mem n (i + 1) (x :: l) ?_
        rw [show i + 1 + n = i + (n + 1) by omega]
        exact ⟨by omega, h.2.1, h.2.2⟩
theorem bits_ex (p : Nat → Bool) : ∀ n : Nat, ∀ i, ∃ z, z < 2 ^ n ∧ ∀ j, j < n → z.testBit j = p (i + j)
  | 0, i => ⟨0, by simp, fun j h => by omega⟩
  | n + 1, i => by
    obtain ⟨z, h1, h2⟩ := bits_ex p n (i + 1)
    refine ⟨2 * z + (if p i = true then 1 else 0), ?_, fun j hj => ?_⟩
    · rw [Nat.pow_succ]; split <;> omega
    · cases j with
      | zero =>
        rw [Nat.testBit_zero]
        cases p i <;> simp [Nat.add_mod] <;> omega
      | succ j =>
        rw [Nat.testBit_succ]
        have : (2 * z + (if p i = true then 1 else 0)) / 2 = z := by split <;> omega
        rw [this, h2 j (by omega)]
        congr 1; omega
/-- Each increasing list is that of some bits. -/
theorem bits_of {n : Nat} (hn : n ≤ 8) {l : List Int} (h : Inc 0 n l) : ∃ z ∈ List.range (2 ^ n), bitsF (z : Int) n 0 = l := by
  obtain ⟨z, h1, h2⟩ := bits_ex (fun j => decide ((j : Int) ∈ l)) n 0
  have hz : z < 256 := Nat.lt_of_lt_of_le h1 (Nat.pow_le_pow_right (by omega) hn : 2 ^ n ≤ 2 ^ 8)
  refine ⟨z, List.mem_range.2 h1, ?_⟩
  rw [bitsF_P, bitsP_congr (q := fun j => decide ((j : Int) ∈ l)) n 0 fun j _ hj => ?_]
  · exact bitsP_mem n 0 l (by simpa using h)
  · rw [bit_test z hz j (by omega), h2 j (by omega), Nat.zero_add]
theorem bits_inc (z : Int) (n : Nat) : Inc 0 n (bitsF z n 0) := by
  have := bitsP_inc (fun j => and1 (shrN z j) == 1) n 0
  rw [bitsF_P]; simpa using this
theorem cmp_refl : ∀ l : List Int, cmpF l l = 0
  | [] => rfl
  | x :: l => by simp [cmpF, cmp_refl l]
theorem cmp_anti : ∀ a b : List Int, cmpF a b < 0 → ¬ cmpF b a < 0
  | [], [], h => by simp [cmpF] at h
  | [], _ :: _, _ => by simp [cmpF]
  | _ :: _, [], h => by simp [cmpF] at h
  | x :: a, y :: b, h => by
    unfold cmpF at h ⊢
    split at h
    · rename_i h1; rw [if_neg (by omega), if_pos h1]; omega
    · split at h
      · omega
      · rw [if_neg (by omega), if_neg (by omega)]; exact cmp_anti a b h
theorem cmp_trans : ∀ a b c : List Int, ¬ cmpF a b < 0 → ¬ cmpF b c < 0 → ¬ cmpF a c < 0
  | [], [], _, _, h => h
  | [], _ :: _, _, h, _ => by simp [cmpF] at h
  | _ :: _, [], [], _, _ => by simp [cmpF]
  | _ :: _, [], _ :: _, _, h => by simp [cmpF] at h
  | _ :: _, _ :: _, [], _, _ => by simp [cmpF]
  | x :: a, y :: b, z :: c, h1, h2 => by
    unfold cmpF at h1 h2 ⊢
    split at h1
    · omega
    · split at h2
      · omega
      · split at h1
        · split at h2
          · rw [if_neg (by omega), if_pos (by omega)]; omega
          · rw [if_neg (by omega), if_pos (by omega)]; omega
        · split at h2
          · rw [if_neg (by omega), if_pos (by omega)]; omega
          · rw [if_neg (by omega), if_neg (by omega)]; exact cmp_trans a b c h1 h2
/-- The second is at least as good a sale. -/
def Pref (off : List BCon) (a b : List Int) : Prop := togF off a 0 < togF off b 0 ∨ togF off a 0 = togF off b 0 ∧ ¬ cmpF a b < 0
theorem Pref.refl (off : List BCon) (a : List Int) : Pref off a a := .inr ⟨rfl, by rw [cmp_refl]; omega⟩
theorem Pref.trans {off : List BCon} {a b c : List Int} (h1 : Pref off a b) (h2 : Pref off b c) : Pref off a c := by
  rcases h1 with h1 | ⟨h1, k1⟩ <;> rcases h2 with h2 | ⟨h2, k2⟩
  · exact .inl (by omega)
  · exact .inl (by omega)
  · exact .inl (by omega)
  · exact .inr ⟨by omega, cmp_trans a b c k1 k2⟩
def fitL (s : BStore) (off : List BCon) (l : List Int) : Bool := decide ((withL off s.cons l).length ≤ 8) && onceB s (withL off s.cons l)
theorem best1_pref (s : BStore) (off : List BCon) (z : Int) (b : List Int) : Pref off b (best1 s off z b) ∧ (fitL s off (bitsF z off.length 0) = true → Pref off (bitsF z off.length 0) (best1 s off z b)) := by
  unfold best1
  split
  · rename_i h
    simp only [Bool.and_eq_true, Bool.or_eq_true, decide_eq_true_eq, beq_iff_eq] at h
    refine ⟨?_, fun _ => .refl ..⟩
    rcases h.2 with h | ⟨h1, h2⟩
    · exact .inl h
    · exact .inr ⟨h1.symm, cmp_anti _ _ h2⟩
  · rename_i h
    refine ⟨.refl .., fun hf => ?_⟩
    unfold fitL at hf
    rw [hf, Bool.true_and] at h
    simp only [Bool.or_eq_true, Bool.and_eq_true, decide_eq_true_eq, beq_iff_eq, not_or, not_and] at h
    rcases Int.lt_trichotomy (togF off (bitsF z off.length 0) 0) (togF off b 0) with h1 | h1 | h1
    · exact .inl h1
    · exact .inr ⟨h1, h.2 h1⟩
    · exact absurd h1 h.1
theorem best_pref (s : BStore) (off : List BCon) : ∀ (l : List Nat) (b : List Int), Pref off b (bestF s off l b) ∧ ∀ z ∈ l, fitL s off (bitsF (z : Int) off.length 0) = true → Pref off (bitsF (z : Int) off.length 0) (bestF s off l b)
  | [], b => ⟨.refl .., fun _ h => by cases h⟩
  | x :: l, b => by
    have h1 := best1_pref s off (x : Int) b
    have h2 := best_pref s off l (best1 s off (x : Int) b)
    unfold bestF
    refine ⟨h1.1.trans h2.1, fun z hz hf => ?_⟩
    rcases List.mem_cons.1 hz with rfl | hz
    · exact (h1.2 hf).trans h2.1
    · exact h2.2 z hz hf
theorem best_fit (s : BStore) (off : List BCon) : ∀ (l : List Nat) (b : List Int), fitL s off b = true ∧ Inc 0 off.length b → fitL s off (bestF s off l b) = true ∧ Inc 0 off.length (bestF s off l b)
  | [], _, h => h
  | x :: l, b, h => by
    unfold bestF
    refine best_fit s off l _ ?_
    unfold best1
    split
    · rename_i k
      rw [Bool.and_eq_true] at k
      exact ⟨k.1, bits_inc _ _⟩
    · exact h
/-- The best sale, of all. -/
theorem best_all {s : BStore} {off : List BCon} (hs : storeB s = true) (ho : off.length ≤ 8) : fitL s off (bestF s off (List.range (2 ^ off.length)) []) = true ∧ Inc 0 off.length (bestF s off (List.range (2 ^ off.length)) []) ∧
    ∀ l, Inc 0 off.length l → fitL s off l = true → Pref off l (bestF s off (List.range (2 ^ off.length)) []) := by
  have h0 : fitL s off [] = true := by
    simp only [storeB, Bool.and_eq_true] at hs
    simp only [fitL, withL, List.map_nil, List.append_nil, Bool.and_eq_true]
    exact ⟨hs.1.1.2, hs.2⟩
  have h1 := best_fit s off (List.range (2 ^ off.length)) [] ⟨h0, trivial⟩
  refine ⟨h1.1, h1.2, fun l hl hf => ?_⟩
  obtain ⟨z, hz, rfl⟩ := bits_of ho hl
  exact (best_pref s off (List.range (2 ^ off.length)) []).2 z hz hf
theorem with_all {s : BStore} {off : List BCon} {l : List Int} (hs : storeB s = true) (ho : off.all conB = true) (hn : numB off.length l) : (withL off s.cons l).all conB = true := List.all_eq_true.2 fun c hc => by
  rcases with_mem hn hc with h | h
  · exact List.all_eq_true.1 (storeB_con hs) c h
  · exact List.all_eq_true.1 ho c h
theorem fit_sums {s : BStore} {off : List BCon} {l : List Int} (hs : storeB s = true) (ho : off.all conB = true) (hn : numB off.length l) (hf : fitL s off l = true) {h : Int} (h0 : 0 ≤ h) (h1 : h < 48) :
    spacesF (withL off s.cons l) 0 ≤ s.space ∧ (soldF h (withL off s.cons l) (0, 0)).1 ≤ s.inn ∧ (soldF h (withL off s.cons l) (0, 0)).2 ≤ s.out := by
  have hc := allOK (with_all hs ho hn)
  simp only [fitL, Bool.and_eq_true, decide_eq_true_eq] at hf
  have h2 := (onceB_iff hc (by omega)).1 hf.2
  have h3 := h2.1 h h0 h1
  rw [spacesF_eq hc (by omega) (by omega), soldF_eq hc (by omega) (by omega) (by omega) (by omega)]
  simp only [Int.zero_add]
  exact ⟨h2.2, h3.1, h3.2⟩
end Go.Proofs.YtkonpmbcipbhbaaGreatDoor
