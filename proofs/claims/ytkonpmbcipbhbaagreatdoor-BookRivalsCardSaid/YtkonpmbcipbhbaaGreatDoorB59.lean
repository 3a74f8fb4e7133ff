/- Layer 6: the specification's best sale. -/
import Derived.Test.YtkonpmbcipbhbaaGreatDoorB58
set_option linter.unusedSimpArgs false
set_option linter.unusedVariables false
namespace Go.Proofs.YtkonpmbcipbhbaaGreatDoor
open Go.Ev Go
set_option maxRecDepth 100000
set_option maxHeartbeats 1000000
/-- The numbers of the offers of a set of bits. -/
def bitsF (bits : Int) : Nat → Nat → List Int
  | 0, _ => []
  | n + 1, i => if (and1 (shrN bits i) == 1) = true then (i : Int) :: bitsF bits n (i + 1) else bitsF bits n (i + 1)
theorem bits_num (bits : Int) : ∀ (n i : Nat) (x : Int), x ∈ bitsF bits n i → (i : Int) ≤ x ∧ x < ((i + n : Nat) : Int)
  | 0, i, x, h => by simp [bitsF] at h
  | n + 1, i, x, h => by
    unfold bitsF at h
    split at h
    · rcases List.mem_cons.1 h with rfl | h
      · omega
      · have := bits_num bits n (i + 1) x h
        omega
    · have := bits_num bits n (i + 1) x h
      omega
theorem bits_len (bits : Int) : ∀ (n i : Nat), (bitsF bits n i).length ≤ n
  | 0, _ => by simp [bitsF]
  | n + 1, i => by
    unfold bitsF
    have := bits_len bits n (i + 1)
    split
    · simp only [List.length_cons]; omega
    · omega
theorem pick_bits (bits : Int) (all : List BCon) : ∀ (off : List BCon) (i : Nat) (l : List Int) (w : Int) (cs : List BCon), all.drop i = off →
    pickF bits off i (l, w, cs) = (l ++ bitsF bits off.length i, togF all (bitsF bits off.length i) w, withL all cs (bitsF bits off.length i))
  | [], i, l, w, cs, _ => by simp [pickF, bitsF, togF, withL]
  | c :: rest, i, l, w, cs, h => by
    have hi : i < all.length := by
      rcases Nat.lt_or_ge i all.length with h1 | h1
      · exact h1
      · rw [List.drop_eq_nil_of_le h1] at h; cases h
    have hd : all.drop i = all[i] :: all.drop (i + 1) := List.drop_eq_getElem_cons hi
    rw [h] at hd
    have hc : c = all[i] := (List.cons.inj hd).1
    have ht := (List.cons.inj hd).2.symm
    have ha : atO all ((i : Nat) : Int) = c := by unfold atO; rw [Int.toNat_natCast, List.getElem?_eq_getElem hi, hc]; rfl
    unfold pickF
    simp only [List.length_cons]
    unfold bitsF
    split
    · rw [pick_bits bits all rest (i + 1) _ _ _ ht]
      simp [togF, withL, ha]
    · rw [pick_bits bits all rest (i + 1) _ _ _ ht]
/-- One step of the specification's search. -/
def best1 (s : BStore) (off : List BCon) (bits : Int) (b : List Int) : List Int :=
  if (decide ((withL off s.cons (bitsF bits off.length 0)).length ≤ 8) && onceB s (withL off s.cons (bitsF bits off.length 0)) && (decide (togF off b 0 < togF off (bitsF bits off.length 0) 0) || (togF off (bitsF bits off.length 0) 0 == togF off b 0 && decide (cmpF (bitsF bits off.length 0) b < 0)))) = true then bitsF bits off.length 0 else b
def bestF (s : BStore) (off : List BCon) : List Nat → List Int → List Int
  | [], b => b
  | x :: l, b => bestF s off l (best1 s off (x : Int) b)
theorem best1_mem {s : BStore} {off : List BCon} {z : Int} {b : List Int} (hb : numB off.length b ∧ b.length ≤ 8) (ho : off.length ≤ 8) : numB off.length (best1 s off z b) ∧ (best1 s off z b).length ≤ 8 := by
  unfold best1
  split
  · refine ⟨fun x hx => ?_, ?_⟩
    · have := bits_num z off.length 0 x hx; omega
    · have := bits_len z off.length 0; omega
  · exact hb
end Go.Proofs.YtkonpmbcipbhbaaGreatDoor
