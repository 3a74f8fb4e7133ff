/- Layer 6, plain: what is sold, in exact sums. -/
import Derived.Test.YtdbiogihimdpcaaGreatDoorB52
set_option linter.unusedSimpArgs false
set_option linter.unusedVariables false
namespace Go.Proofs.YtdbiogihimdpcaaGreatDoor
open Go.Ev Go
set_option maxRecDepth 100000
set_option maxHeartbeats 1000000
def inR (c : BCon) : Int := (c.rates.head?.map BRate.inn).getD 0
def outR (c : BCon) : Int := (c.rates.getLast?.map BRate.out).getD 0
def actv (h : Int) (c : BCon) : Bool := c.firm && inB h c.lo c.hi
def inS (h : Int) : List BCon → Int
  | [] => 0
  | c :: l => (if actv h c = true then inR c else 0) + inS h l
def outS (h : Int) : List BCon → Int
  | [] => 0
  | c :: l => (if actv h c = true then outR c else 0) + outS h l
def spS : List BCon → Int
  | [] => 0
  | c :: l => c.space + spS l
theorem ratesB_mem : ∀ {l : List BRate} {p : Option BRate} {r : BRate}, ratesB l p = true → r ∈ l → 0 ≤ r.inn ∧ r.inn ≤ 100000000 ∧ 0 ≤ r.out ∧ r.out ≤ 100000000
  | x :: l, p, r, h, hr => by
    simp only [ratesB, Bool.and_eq_true] at h
    rcases List.mem_cons.1 hr with rfl | hr
    · have := h.1
      simp only [rateB, inB, Bool.and_eq_true, decide_eq_true_eq] at this
      omega
    · exact ratesB_mem h.2 hr
structure ConOK (c : BCon) : Prop where
  inn : 0 ≤ inR c ∧ inR c ≤ 100000000
  out : 0 ≤ outR c ∧ outR c ≤ 100000000
  space : 1 ≤ c.space ∧ c.space ≤ 100000000
  fixed : 0 ≤ c.fixed ∧ c.fixed ≤ 10000
  hours : 0 ≤ c.lo ∧ c.lo ≤ c.hi ∧ c.hi < 48
  rates : c.rates ≠ [] ∧ c.rates.length ≤ 6
theorem conOK {c : BCon} (h : conB c = true) : ConOK c := by
  have h0 := h
  simp only [conB, Bool.and_eq_true, inB, hoursB, decide_eq_true_eq, List.all_cons] at h
  obtain ⟨⟨⟨⟨⟨h1, h2⟩, h3⟩, h4⟩, h5⟩, h6⟩ := h
  have hr : c.rates ≠ [] := fun e => by rw [e] at h4; simp at h4
  refine ⟨?_, ?_, h2, h6.1, ?_, hr, by omega⟩
  · unfold inR
    cases hh : c.rates.head? with
    | none => simp
    | some r => have := ratesB_mem h1 (List.mem_of_head? hh); simp; omega
  · unfold outR
    cases hh : c.rates.getLast? with
    | none => simp
    | some r => have := ratesB_mem h1 (List.mem_of_getLast? hh); simp; omega
  · omega
theorem allOK {l : List BCon} (h : l.all conB = true) : ∀ c ∈ l, ConOK c := fun c hc => conOK (List.all_eq_true.1 h c hc)
theorem inS_le {h : Int} : ∀ {l : List BCon}, (∀ c ∈ l, ConOK c) → 0 ≤ inS h l ∧ inS h l ≤ 100000000 * l.length
  | [], _ => by simp [inS]
  | c :: l, hl => by
    have h1 := inS_le (h := h) (l := l) fun c hc => hl c (List.mem_cons_of_mem _ hc)
    have h2 := (hl c (List.mem_cons_self ..)).inn
    simp only [inS, List.length_cons]
    split <;> omega
theorem outS_le {h : Int} : ∀ {l : List BCon}, (∀ c ∈ l, ConOK c) → 0 ≤ outS h l ∧ outS h l ≤ 100000000 * l.length
  | [], _ => by simp [outS]
  | c :: l, hl => by
    have h1 := outS_le (h := h) (l := l) fun c hc => hl c (List.mem_cons_of_mem _ hc)
    have h2 := (hl c (List.mem_cons_self ..)).out
    simp only [outS, List.length_cons]
    split <;> omega
theorem spS_le : ∀ {l : List BCon}, (∀ c ∈ l, ConOK c) → 0 ≤ spS l ∧ spS l ≤ 100000000 * l.length
  | [], _ => by simp [spS]
  | c :: l, hl => by
    have h1 := spS_le (l := l) fun c hc => hl c (List.mem_cons_of_mem _ hc)
    have h2 := (hl c (List.mem_cons_self ..)).space
    simp only [spS, List.length_cons]
    omega
theorem soldF_eq {h : Int} : ∀ {l : List BCon} {a b : Int}, (∀ c ∈ l, ConOK c) → 0 ≤ a → 0 ≤ b → a + 100000000 * l.length < 2 ^ 62 → b + 100000000 * l.length < 2 ^ 62 → soldF h l (a, b) = (a + inS h l, b + outS h l)
  | [], a, b, _, _, _, _, _ => by simp [soldF, inS, outS]
  | c :: l, a, b, hl, ha, hb, h1, h2 => by
    have c1 := (hl c (List.mem_cons_self ..)).inn
    have c2 := (hl c (List.mem_cons_self ..)).out
    simp only [List.length_cons] at h1 h2
    have ht : ∀ c ∈ l, ConOK c := fun c hc => hl c (List.mem_cons_of_mem _ hc)
    simp only [soldF, sold1, inS, outS]
    cases hx : actv h c with
    | true =>
      have hx' : (c.firm && inB h c.lo c.hi) = true := hx
      rw [if_pos hx', if_pos rfl, if_pos rfl]
      change soldF h l (IntKind.i64.wrap (a + inR c), IntKind.i64.wrap (b + outR c)) = _
      rw [wrap_of (by omega) (by omega), wrap_of (by omega) (by omega), soldF_eq ht (by omega) (by omega) (by omega) (by omega)]
      simp only [Int.add_assoc]
    | false =>
      have hx' : (c.firm && inB h c.lo c.hi) = false := hx
      rw [if_neg (by rw [hx']; simp), if_neg (by simp), if_neg (by simp), soldF_eq ht (by omega) (by omega) (by omega) (by omega)]
      simp
theorem spacesF_eq : ∀ {l : List BCon} {a : Int}, (∀ c ∈ l, ConOK c) → 0 ≤ a → a + 100000000 * l.length < 2 ^ 62 → spacesF l a = a + spS l
  | [], a, _, _, _ => by simp [spacesF, spS]
  | c :: l, a, hl, ha, h1 => by
    have c1 := (hl c (List.mem_cons_self ..)).space
    simp only [List.length_cons] at h1
    simp only [spacesF, spS]
    rw [wrap_of (by omega) (by omega), spacesF_eq (fun c hc => hl c (List.mem_cons_of_mem _ hc)) (by omega) (by omega)]
    omega
theorem inS_app (h : Int) (c : BCon) : ∀ l : List BCon, inS h (l ++ [c]) = inS h l + (if actv h c = true then inR c else 0)
  | [] => by simp [inS]
  | x :: l => by simp only [List.cons_append, inS, inS_app h c l]; omega
theorem outS_app (h : Int) (c : BCon) : ∀ l : List BCon, outS h (l ++ [c]) = outS h l + (if actv h c = true then outR c else 0)
  | [] => by simp [outS]
  | x :: l => by simp only [List.cons_append, outS, outS_app h c l]; omega
theorem spS_app (c : BCon) : ∀ l : List BCon, spS (l ++ [c]) = spS l + c.space
  | [] => by simp [spS]
  | x :: l => by simp only [List.cons_append, spS, spS_app c l]; omega
theorem hoursF_iff {p : Int → Bool} : ∀ {n : Nat}, n ≤ 48 → (hoursF p n = true ↔ ∀ h : Int, 48 - n ≤ h → h < 48 → p h = true)
  | 0, _ => ⟨fun _ h h1 h2 => by omega, fun _ => rfl⟩
  | n + 1, hn => by
    simp only [hoursF, Bool.and_eq_true, hoursF_iff (n := n) (by omega)]
    constructor
    · rintro ⟨h1, h2⟩ h h3 h4
      by_cases he : h = 48 - ((n + 1 : Nat) : Int)
      · rw [he]; exact h1
      · exact h2 h (by omega) h4
    · exact fun hk => ⟨hk _ (by omega) (by omega), fun h h3 h4 => hk h (by omega) h4⟩
theorem onceB_iff {s : BStore} {l : List BCon} (hl : ∀ c ∈ l, ConOK c) (hn : l.length ≤ 1000) : onceB s l = true ↔ (∀ h : Int, 0 ≤ h → h < 48 → inS h l ≤ s.inn ∧ outS h l ≤ s.out) ∧ spS l ≤ s.space := by
  simp only [onceB, Bool.and_eq_true, decide_eq_true_eq, hoursF_iff (Nat.le_refl 48)]
  rw [spacesF_eq hl (by omega) (by omega)]
  simp only [okH, Bool.and_eq_true, decide_eq_true_eq]
  constructor
  · rintro ⟨h1, h2⟩
    refine ⟨fun h h3 h4 => ?_, by omega⟩
    have := h1 h (by omega) h4
    rw [soldF_eq hl (by omega) (by omega) (by omega) (by omega)] at this
    simpa using this
  · rintro ⟨h1, h2⟩
    refine ⟨fun h h3 h4 => ?_, by omega⟩
    rw [soldF_eq hl (by omega) (by omega) (by omega) (by omega)]
    simpa using h1 h (by omega) h4
/-- What can still be sold, by bounds. -/
theorem freeF_iff {s : BStore} (hl : ∀ c ∈ s.cons, ConOK c) (hn : s.cons.length ≤ 8) (hi0 : -800000000 ≤ s.inn ∧ s.inn ≤ 800000000) (ho0 : -800000000 ≤ s.out ∧ s.out ≤ 800000000) (hi : Int) (r : Int) : ∀ (n : Nat) (a b : Int),
    (r ≤ (freeF s hi n (a, b)).1 ↔ r ≤ a ∧ ∀ k : Nat, k < n → r ≤ s.inn - inS (hi - k) s.cons) ∧ (r ≤ (freeF s hi n (a, b)).2 ↔ r ≤ b ∧ ∀ k : Nat, k < n → r ≤ s.out - outS (hi - k) s.cons)
  | 0, a, b => by simp [freeF]
  | n + 1, a, b => by
    have b1 := inS_le (h := hi - n) hl
    have b2 := outS_le (h := hi - n) hl
    have e : freeStep s (hi - n) (a, b) = (min2 a (s.inn - inS (hi - n) s.cons), min2 b (s.out - outS (hi - n) s.cons)) := by
      simp only [freeStep, soldF_eq (h := hi - n) hl (Int.le_refl 0) (Int.le_refl 0) (by omega) (by omega), Int.zero_add]
      rw [wrap_of (by omega) (by omega), wrap_of (by omega) (by omega)]
    simp only [freeF, e]
    obtain ⟨i1, i2⟩ := freeF_iff hl hn hi0 ho0 hi r n (min2 a (s.inn - inS (hi - n) s.cons)) (min2 b (s.out - outS (hi - n) s.cons))
    have m : ∀ x y : Int, r ≤ min2 x y ↔ r ≤ x ∧ r ≤ y := fun x y => by unfold min2; split <;> omega
    rw [i1, i2, m, m]
    constructor
    · constructor
      · rintro ⟨⟨h1, h2⟩, h3⟩
        refine ⟨h1, fun k hk => ?_⟩
        rcases Nat.lt_or_ge k n with h | h
        · exact h3 k h
        · obtain rfl : k = n := by omega
          exact h2
      · rintro ⟨h1, h2⟩
        exact ⟨⟨h1, h2 n (by omega)⟩, fun k hk => h2 k (by omega)⟩
    · constructor
      · rintro ⟨⟨h1, h2⟩, h3⟩
        refine ⟨h1, fun k hk => ?_⟩
        rcases Nat.lt_or_ge k n with h | h
        · exact h3 k h
        · obtain rfl : k = n := by omega
          exact h2
      · rintro ⟨h1, h2⟩
        exact ⟨⟨h1, h2 n (by omega)⟩, fun k hk => h2 k (by omega)⟩
/-- One contract more can be sold just if it fits. -/
def fitsB (s : BStore) (c : BCon) : Bool := decide (c.space ≤ s.space - spS s.cons) && (!c.firm || (decide (inR c ≤ (freeF s c.hi (c.hi - c.lo + 1).toNat (s.inn, s.out)).1) && decide (outR c ≤ (freeF s c.hi (c.hi - c.lo + 1).toNat (s.inn, s.out)).2)))
structure StoreOK (s : BStore) : Prop where
  space : 0 ≤ s.space ∧ s.space ≤ 800000000
  inn : 0 ≤ s.inn ∧ s.inn ≤ 800000000
  out : 0 ≤ s.out ∧ s.out ≤ 800000000
  lead : 0 ≤ s.lead ∧ s.lead ≤ 48
  fuel : 0 ≤ s.fuel ∧ s.fuel ≤ 1000
  len : s.cons.length ≤ 8
  cons : ∀ c ∈ s.cons, ConOK c
  once : (∀ h : Int, 0 ≤ h → h < 48 → inS h s.cons ≤ s.inn ∧ outS h s.cons ≤ s.out) ∧ spS s.cons ≤ s.space
theorem storeOK {s : BStore} (h : storeB s = true) : StoreOK s := by
  have h1 := allOK (storeB_con h)
  have h2 := storeB_len' h
  simp only [storeB, Bool.and_eq_true, inB, decide_eq_true_eq, List.all_cons] at h
  exact ⟨h.1.1.1.1.1.1, h.1.1.1.1.1.2.1, h.1.1.1.1.1.2.2.1, h.1.1.1.1.2, h.1.1.1.2, h2, h1, (onceB_iff h1 (by omega)).1 h.2⟩
theorem once_more {s : BStore} {c : BCon} (hs : storeB s = true) (hc : conB c = true) : onceB s (s.cons ++ [c]) = fitsB s c := by
  have S := storeOK hs
  have C := conOK hc
  have hl : ∀ x ∈ s.cons ++ [c], ConOK x := fun x hx => by
    rcases List.mem_append.1 hx with h | h
    · exact S.cons x h
    · rw [List.mem_singleton] at h; subst h; exact C
  have S1 := S.inn; have S2 := S.out; have S3 := S.len; have S4 := S.once
  have C1 := C.inn; have C2 := C.out; have C3 := C.hours
  rw [Bool.eq_iff_iff, onceB_iff hl (by simp; omega)]
  have f1 := (freeF_iff S.cons S3 (by omega) (by omega) c.hi (inR c) (c.hi - c.lo + 1).toNat s.inn s.out).1
  have f2 := (freeF_iff S.cons S3 (by omega) (by omega) c.hi (outR c) (c.hi - c.lo + 1).toNat s.inn s.out).2
  simp only [fitsB, Bool.and_eq_true, Bool.or_eq_true, decide_eq_true_eq, Bool.not_eq_true', f1, f2, inS_app, outS_app, spS_app]
  have act : ∀ h : Int, actv h c = true ↔ c.firm = true ∧ c.lo ≤ h ∧ h ≤ c.hi := fun h => by simp [actv, inB]
  constructor
  · rintro ⟨h1, h2⟩
    refine ⟨by omega, ?_⟩
    cases hf : c.firm with
    | false => exact .inl rfl
    | true =>
      refine .inr ⟨⟨?_, fun k hk => ?_⟩, ?_, fun k hk => ?_⟩
      · have := h1 c.lo (by omega) (by omega)
        rw [if_pos ((act _).2 ⟨hf, by omega, by omega⟩)] at this
        have := inS_le (h := c.lo) S.cons; omega
      · have := (h1 (c.hi - k) (by omega) (by omega)).1
        rw [if_pos ((act _).2 ⟨hf, by omega, by omega⟩)] at this; omega
      · have := (h1 c.lo (by omega) (by omega)).2
        rw [if_pos ((act _).2 ⟨hf, by omega, by omega⟩)] at this
        have := outS_le (h := c.lo) S.cons; omega
      · have := (h1 (c.hi - k) (by omega) (by omega)).2
        rw [if_pos ((act _).2 ⟨hf, by omega, by omega⟩)] at this; omega
  · rintro ⟨h1, h2⟩
    refine ⟨fun h h3 h4 => ?_, by omega⟩
    have h5 := S4.1 h h3 h4
    cases ha : actv h c with
    | false => simpa using h5
    | true =>
      obtain ⟨hf, h6, h7⟩ := (act h).1 ha
      rcases h2 with h2 | ⟨⟨_, h8⟩, _, h9⟩
      · rw [hf] at h2; cases h2
      · have h10 := h8 (c.hi - h).toNat (by omega)
        have h11 := h9 (c.hi - h).toNat (by omega)
        rw [show c.hi - (((c.hi - h).toNat : Nat) : Int) = h by omega] at h10 h11
        simp only [if_true]
        omega
end Go.Proofs.YtdbiogihimdpcaaGreatDoor
