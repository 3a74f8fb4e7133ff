/- Layer 6: the document's examples. -/
import Derived.Test.YtkonpmbcipbhbaaGreatDoorLibD
import Derived.Test.YtkonpmbcipbhbaaGreatDoorB7
set_option linter.unusedSimpArgs false
set_option linter.unusedVariables false
namespace Go.Proofs.YtkonpmbcipbhbaaGreatDoor
open Go.Ev Go
set_option maxRecDepth 100000
set_option maxHeartbeats 1000000

def dRate : List AV → Option BRate
  | [.int .i64 a, .int .i64 b, .int .i64 c] => some ⟨a, b, c⟩
  | _ => none
def dSl {α : Type} (n : Nat) (fl : Bool) (d : List AV → Option α) : AV → Option (Bool × List α)
  | .nils => some (false, [])
  | .imm n' fl' rows => if n' = n ∧ fl' = fl then (omap d rows).map fun l => (true, l) else none
  | _ => none
def dCon : List AV → Option BCon
  | [.bool f, .int .i64 sp, .int .i64 lo, .int .i64 hi, r, .int .i64 g, .int .i64 fx, .int .i64 a, .int .i64 b, .int .i64 c, .int .i64 l] => (dSl 3 true dRate r).map fun x => ⟨f, sp, lo, hi, x.1, x.2, g, fx, a, b, c, l⟩
  | _ => none
def dStore : List AV → Option BStore
  | [.int .i64 sp, .int .i64 a, .int .i64 b, .int .i64 l, .int .i64 f, r] => (dSl 11 false dCon r).map fun x => ⟨sp, a, b, l, f, x.1, x.2⟩
  | _ => none
theorem dRate_eq {cs : List AV} {x : BRate} (h : dRate cs = some x) : cs = x.cells := by
  unfold dRate at h
  split at h
  · cases h; rfl
  · cases h
theorem omap_map {α : Type} {d : List AV → Option α} {f : α → List AV} (hd : ∀ cs x, d cs = some x → cs = f x) : ∀ {rows : List (List AV)} {l : List α}, omap d rows = some l → rows = l.map f
  | [], l, h => by simp [omap] at h; subst h; rfl
  | r :: rows, l, h => by
    simp only [omap, Option.bind_eq_some_iff, Option.map_eq_some_iff] at h
    obtain ⟨x, h1, l', h2, rfl⟩ := h
    rw [hd r x h1, omap_map hd h2]; rfl
theorem dSl_eq {α : Type} {n : Nat} {fl : Bool} {d : List AV → Option α} {f : α → List AV} (hd : ∀ cs x, d cs = some x → cs = f x) {v : AV} {x : Bool × List α} (h : dSl n fl d v = some x) : v = slv n fl x.1 (x.2.map f) := by
  unfold dSl at h
  split at h
  · cases h; rfl
  · split at h
    · rename_i hq
      obtain ⟨rfl, rfl⟩ := hq
      obtain ⟨l, h1, rfl⟩ := Option.map_eq_some_iff.1 h
      rw [omap_map hd h1]
      cases l <;> rfl
    · cases h
  · cases h
theorem dCon_eq {cs : List AV} {x : BCon} (h : dCon cs = some x) : cs = x.cells := by
  unfold dCon at h
  split at h
  · obtain ⟨y, h1, rfl⟩ := Option.map_eq_some_iff.1 h
    rw [dSl_eq (fun cs x => dRate_eq) h1]; rfl
  · cases h
theorem dStore_eq {cs : List AV} {x : BStore} (h : dStore cs = some x) : cs = x.cells := by
  unfold dStore at h
  split at h
  · obtain ⟨y, h1, rfl⟩ := Option.map_eq_some_iff.1 h
    rw [dSl_eq (fun cs x => dCon_eq) h1]; rfl
  · cases h
def smallB (l : List BCon) : Bool := decide (l.length ≤ 1000) && l.all fun c => decide (c.rates.length ≤ 1000)
theorem smallB_cons {l : List BCon} (h : smallB l = true) : l.length ≤ maxLen ∧ ∀ c ∈ l, c.rates.length ≤ maxLen := by
  simp only [smallB, Bool.and_eq_true, decide_eq_true_eq, List.all_eq_true] at h
  unfold maxLen
  exact ⟨by omega, fun c hc => by have := h.2 c hc; omega⟩
def pStore : List AV → Heap → Option (Out × Heap)
  | [.agg cs], [] => (dStore cs).bind fun s => if smallB s.cons = true then some (.ret (.bool (storeB s)), []) else none
  | _, _ => none
def ratesOKB (l : List BCon) : Bool := l.all fun c => !c.rates.isEmpty && decide (c.rates.length ≤ 6)
def pSold : List AV → Heap → Option (Out × Heap)
  | [v, .int .i64 h], [] => (dSl 11 false dCon v).bind fun x => if (smallB x.2 && ratesOKB x.2) = true then (match soldF h x.2 (0, 0) with | (a, b) => some (.ret (.tup [.int .i64 a, .int .i64 b]), [])) else none
  | _, _ => none
def pr2 : Prims := ⟨fun f => if f = 24 then some pStore else if f = 38 then some pSold else pr f, pr.md⟩
theorem pr2_ok : ∀ f p, pr2 f = some p → ∀ a h r, p a h = some r → om'.call (.fn f) a h = some r := by
  intro f p hp a h r hr
  simp only [pr2] at hp
  split at hp
  · rename_i hf
    subst hf
    cases hp
    unfold pStore at hr
    split at hr
    · rename_i cs
      obtain ⟨s, h1, h2⟩ := Option.bind_eq_some_iff.1 hr
      split at h2
      · rename_i hs
        cases h2
        rw [dStore_eq h1]
        exact e_store s ⟨(smallB_cons hs).1, (smallB_cons hs).2⟩
      · cases h2
    · cases hr
  · split at hp
    · rename_i hf
      subst hf
      cases hp
      unfold pSold at hr
      split at hr
      · rename_i v hour
        obtain ⟨x, h1, h2⟩ := Option.bind_eq_some_iff.1 hr
        split at h2
        · rename_i hs
          simp only [Bool.and_eq_true] at hs
          cases h2
          rw [dSl_eq (fun cs x => dCon_eq) h1]
          exact e_sold hour (smallB_cons hs.1).1 (fun c hc => by
            have := List.all_eq_true.1 hs.2 c hc
            simp only [Bool.and_eq_true, decide_eq_true_eq, Bool.not_eq_eq_eq_not, Bool.not_true, List.isEmpty_eq_false_iff] at this
            exact this)
        · cases h2
      · cases hr
    · exact om_prim hp hr
end Go.Proofs.YtkonpmbcipbhbaaGreatDoor
