/- Layer 6, plain: what is sold, in exact sums. -/
import Derived.Test.YtkonpmbcipbhbaaGreatDoorB52
set_option linter.unusedSimpArgs false
set_option linter.unusedVariables false
namespace Go.Proofs.YtkonpmbcipbhbaaGreatDoor
open Go.Ev Go
set_option maxRecDepth 100000
set_option maxHeartbeats 1000000
def inR (c : BCon) : Int := (c.rates.head?.map BRate.inn).getD 0
def outR (c : BCon) : Int := (c.rates.getLast?.map BRate.out).getD 0
def actv (h : Int) (c : BCon) : Bool := c.firm && inB h c.lo c.hi
def inS (h : Int) : List BCon → Int
  | [] => 0
  | c :: l => (if actv h c = true then inR c else 0) + inS h l
def outS (h : Int) : List BCon → Int
  | [] => 0
  | c :: l => (if actv h c = true then outR c else 0) + outS h l
def spS : List BCon → Int
  | [] => 0
  | c :: l => c.space + spS l
theorem ratesB_mem : ∀ {l : List BRate} {p : Option BRate} {r : BRate}, ratesB l p = true → r ∈ l → 0 ≤ r.inn ∧ r.inn ≤ 100000000 ∧ 0 ≤ r.out ∧ r.out ≤ 100000000
  | x :: l, p, r, h, hr => by
    simp only [ratesB, Bool.and_eq_true] at h
    rcases List.mem_cons.1 hr with rfl | hr
    · have := h.1
      simp only [rateB, inB, Bool.and_eq_true, decide_eq_true_eq] at this
      omega
    · exact ratesB_mem h.2 hr
structure ConOK (c : BCon) : Prop where
  inn : 0 ≤ inR c ∧ inR c ≤ 100000000
  out : 0 ≤ outR c ∧ outR c ≤ 100000000
  space : 1 ≤ c.space ∧ c.space ≤ 100000000
  fixed : 0 ≤ c.fixed ∧ c.fixed ≤ 10000
  hours : 0 ≤ c.lo ∧ c.lo ≤ c.hi ∧ c.hi < 48
  rates : c.rates ≠ [] ∧ c.rates.length ≤ 6
theorem conOK {c : BCon} (h : conB c = true) : ConOK c := by
  have h0 := h
  simp only [conB, Bool.and_eq_true, inB, hoursB, decide_eq_true_eq, List.all_cons] at h
  obtain ⟨⟨⟨⟨⟨h1, h2⟩, h3⟩, h4⟩, h5⟩, h6⟩ := h
  have hr : c.rates ≠ [] := fun e => by rw [e] at h4; simp at h4
  refine ⟨?_, ?_, h2, h6.1, ?_, hr, by omega⟩
  · unfold inR
    cases hh : c.rates.head? with
    | none => simp
    | some r => have := ratesB_mem h1 (List.mem_of_head? hh); simp; omega
  · unfold outR
    cases hh : c.rates.getLast? with
    | none => simp
    | some r => have := ratesB_mem h1 (List.mem_of_getLast? hh); simp; omega
  · omega
theorem allOK {l : List BCon} (h : l.all conB = true) : ∀ c ∈ l, ConOK c := fun c hc => conOK (List.all_eq_true.1 h c hc)
theorem soldF_eq {h : Int} : ∀ {l : List BCon} {a b : Int}, (∀ c ∈ l, ConOK c) → 0 ≤ a → 0 ≤ b → a + 100000000 * l.length < 2 ^ 62 → b + 100000000 * l.length < 2 ^ 62 → soldF h l (a, b) = (a + inS h l, b + outS h l)
  | [], a, b, _, _, _, _, _ => by simp [soldF, inS, outS]
  | c :: l, a, b, hl, ha, hb, h1, h2 => by
    have c1 := (hl c (List.mem_cons_self ..)).inn
    have c2 := (hl c (List.mem_cons_self ..)).out
    simp only [List.length_cons] at h1 h2
    have ht : ∀ c ∈ l, ConOK c := fun c hc => hl c (List.mem_cons_of_mem _ hc)
    simp only [soldF, sold1, inS, outS]
    cases hx : actv h c with
    | true =>
      have hx' : (c.firm && inB h c.lo c.hi) = true := hx
      rw [if_pos hx', if_pos rfl, if_pos rfl]
      change soldF h l (IntKind.i64.wrap (a + inR c), IntKind.i64.wrap (b + outR c)) = _
      rw [wrap_of (by omega) (by omega), wrap_of (by omega) (by omega), soldF_eq ht (by omega) (by omega) (by omega) (by omega)]
      simp only [Int.add_assoc]
    | false =>
      have hx' : (c.firm && inB h c.lo c.hi) = false := hx
      rw [if_neg (by rw [hx']; simp), if_neg (by simp), if_neg (by simp), soldF_eq ht (by omega) (by omega) (by omega) (by omega)]
      simp
theorem spacesF_eq : ∀ {l : List BCon} {a : Int}, (∀ c ∈ l, ConOK c) → 0 ≤ a → a + 100000000 * l.length < 2 ^ 62 → spacesF l a = a + spS l
  | [], a, _, _, _ => by simp [spacesF, spS]
  | c :: l, a, hl, ha, h1 => by
    have c1 := (hl c (List.mem_cons_self ..)).space
    simp only [List.length_cons] at h1
    simp only [spacesF, spS]
    rw [wrap_of (by omega) (by omega), spacesF_eq (fun c hc => hl c (List.mem_cons_of_mem _ hc)) (by omega) (by omega)]
    omega
theorem hoursF_iff {p : Int → Bool} : ∀ {n : Nat}, n ≤ 48 → (hoursF p n = true ↔ ∀ h : Int, 48 - n ≤ h → h < 48 → p h = true)
  | 0, _ => ⟨fun _ h h1 h2 => by omega, fun _ => rfl⟩
  | n + 1, hn => by
    simp only [hoursF, Bool.and_eq_true, hoursF_iff (n := n) (by omega)]
    constructor
    · rintro ⟨h1, h2⟩ h h3 h4
      by_cases he : h = 48 - ((n + 1 : Nat) : Int)
      · rw [he]; exact h1
      · exact h2 h (by omega) h4
    · exact fun hk => ⟨hk _ (by omega) (by omega), fun h h3 h4 => hk h (by omega) h4⟩
theorem onceB_iff {s : BStore} {l : List BCon} (hl : ∀ c ∈ l, ConOK c) (hn : l.length ≤ 1000) : onceB s l = true ↔ (∀ h : Int, 0 ≤ h → h < 48 → inS h l ≤ s.inn ∧ outS h l ≤ s.out) ∧ spS l ≤ s.space := by
  simp only [onceB, Bool.and_eq_true, decide_eq_true_eq, hoursF_iff (Nat.le_refl 48)]
  rw [spacesF_eq hl (by omega) (by omega)]
  simp only [okH, Bool.and_eq_true, decide_eq_true_eq]
  constructor
  · rintro ⟨h1, h2⟩
    refine ⟨fun h h3 h4 => ?_, by omega⟩
    have := h1 h (by omega) h4
    rw [soldF_eq hl (by omega) (by omega) (by omega) (by omega)] at this
    simpa using this
  · rintro ⟨h1, h2⟩
    refine ⟨fun h h3 h4 => ?_, by omega⟩
    rw [soldF_eq hl (by omega) (by omega) (by omega) (by omega)]
    simpa using h1 h (by omega) h4
end Go.Proofs.YtkonpmbcipbhbaaGreatDoor
