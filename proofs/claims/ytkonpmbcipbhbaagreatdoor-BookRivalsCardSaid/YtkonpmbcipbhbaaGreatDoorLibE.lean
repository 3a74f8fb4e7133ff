/- The evaluator and its soundness, part E. -/
import Derived.Test.YtkonpmbcipbhbaaGreatDoorLibD
set_option linter.unusedSimpArgs false
set_option linter.unusedVariables false
/- What a value says: readings of values in a heap, with the blocks they go through; how they are kept by other heaps and by new names. -/
namespace Go.Ev

def rowsB : CB → Option (Nat × Bool × List (List AV))
  | .live st fl _ rows => some (st, fl, rows)
  | .frz st fl rows => some (st, fl, rows)
  | _ => none

def rdL (f : AV → Option (AV × List Nat)) : List AV → Option (List AV × List Nat)
  | [] => some ([], [])
  | a :: l => (f a).bind fun p => (rdL f l).map fun q => (p.1 :: q.1, p.2 ++ q.2)
def rdRows (f : AV → Option (AV × List Nat)) : List (List AV) → Option (List (List AV) × List Nat)
  | [] => some ([], [])
  | r :: rs => (rdL f r).bind fun p => (rdRows f rs).map fun q => (p.1 :: q.1, p.2 ++ q.2)

/-- A value with its slices, all whole blocks, read as immutable data; the blocks that are read. -/
def rd : Nat → HF → AV → Option (AV × List Nat)
  | 0, _, _ => none
  | d + 1, g, v =>
    match v with
    | .slr st b r len => ((g b).bind rowsB).bind fun z =>
        if z.1 = st ∧ r = 0 ∧ len = z.2.2.length then
          (bif z.2.1 then some (.imm st true z.2.2, [b]) else (rdRows (rd d g) z.2.2).map fun q => (.imm st false q.1, b :: q.2))
        else none
    | .agg cs => (rdL (rd d g) cs).map fun q => (.agg q.1, q.2)
    | .iface t x => (rd d g x).map fun q => (.iface t q.1, q.2)
    | .func fn [] [] => some (.func fn [] [], [])
    | .func _ _ _ => none
    | .tup _ => none
    | .ptr _ _ _ => none
    | .yl _ => none
    | v => some (v, [])

theorem rdL_mono {f f' : AV → Option (AV × List Nat)} : ∀ {l : List AV} {p : List AV × List Nat}, rdL f l = some p → (∀ x ∈ l, ∀ q, f x = some q → (∀ b ∈ q.2, b ∈ p.2) → f' x = some q) → rdL f' l = some p
  | [], p, h, _ => h
  | a :: l, p, h, hf => by
    simp only [rdL, Option.bind_eq_some_iff, Option.map_eq_some_iff] at h ⊢
    obtain ⟨q, hq, r, hr, rfl⟩ := h
    exact ⟨q, hf a (List.mem_cons_self ..) q hq (fun b hb => List.mem_append_left _ hb), r, rdL_mono hr (fun x hx q' hq' hs => hf x (List.mem_cons_of_mem _ hx) q' hq' (fun b hb => List.mem_append_right _ (hs b hb))), rfl⟩
theorem rdRows_mono {f f' : AV → Option (AV × List Nat)} : ∀ {l : List (List AV)} {p : List (List AV) × List Nat}, rdRows f l = some p → (∀ r ∈ l, ∀ x ∈ r, ∀ q, f x = some q → (∀ b ∈ q.2, b ∈ p.2) → f' x = some q) → rdRows f' l = some p
  | [], p, h, _ => h
  | a :: l, p, h, hf => by
    simp only [rdRows, Option.bind_eq_some_iff, Option.map_eq_some_iff] at h ⊢
    obtain ⟨q, hq, r, hr, rfl⟩ := h
    exact ⟨q, rdL_mono hq (fun x hx q' hq' hs => hf a (List.mem_cons_self ..) x hx q' hq' (fun b hb => List.mem_append_left _ (hs b hb))), r,
      rdRows_mono hr (fun r' hr' x hx q' hq' hs => hf r' (List.mem_cons_of_mem _ hr') x hx q' hq' (fun b hb => List.mem_append_right _ (hs b hb))), rfl⟩

/-- Heaps that agree on some blocks' rows. -/
def Agr (R : List Nat) (g g' : HF) : Prop := ∀ b ∈ R, ∀ z, (g b).bind rowsB = some z → (g' b).bind rowsB = some z

theorem rd_agr {g g' : HF} : ∀ {d : Nat} {v : AV} {p : AV × List Nat}, rd d g v = some p → Agr p.2 g g' → rd d g' v = some p
  | 0, v, p, h, _ => by simp [rd] at h
  | d + 1, v, p, h, ha => by
    cases v with
    | slr st b r len =>
      simp only [rd, Option.bind_eq_some_iff] at h ⊢
      obtain ⟨z, ⟨c, hc, hz⟩, h⟩ := h
      split at h
      · rename_i hq
        have hb : b ∈ p.2 := by
          cases hfl : z.2.1 with
          | true => rw [hfl] at h; simp at h; rw [← h]; simp
          | false => rw [hfl] at h; simp only [cond_false, Option.map_eq_some_iff] at h; obtain ⟨q, _, rfl⟩ := h; simp
        have hz' := ha b hb z (by rw [hc]; exact hz)
        obtain ⟨c', hc', hz''⟩ := Option.bind_eq_some_iff.1 hz'
        refine ⟨z, ⟨c', hc', hz''⟩, ?_⟩
        rw [if_pos hq]
        cases hfl : z.2.1 with
        | true => rw [hfl] at h; exact h
        | false =>
          rw [hfl] at h
          simp only [cond_false, Option.map_eq_some_iff] at h ⊢
          obtain ⟨q, hq', rfl⟩ := h
          exact ⟨q, rdRows_mono hq' (fun r' _ x _ q' hx hs => rd_agr hx (fun b' hb' => ha b' (List.mem_cons_of_mem _ (hs b' hb')))), rfl⟩
      · cases h
    | agg cs =>
      simp only [rd, Option.map_eq_some_iff] at h ⊢
      obtain ⟨q, hq, rfl⟩ := h
      exact ⟨q, rdL_mono hq (fun x _ q' hx hs => rd_agr hx (fun b hb => ha b (hs b hb))), rfl⟩
    | iface t x =>
      simp only [rd, Option.map_eq_some_iff] at h ⊢
      obtain ⟨q, hq, rfl⟩ := h
      exact ⟨q, rd_agr hq ha, rfl⟩
    | func fn a b => cases a <;> cases b <;> first | exact h | (simp [rd] at h)
    | _ => first | exact h | (simp [rd] at h)

theorem rd_deep {g : HF} : ∀ {d e : Nat} {v : AV} {p : AV × List Nat}, d ≤ e → rd d g v = some p → rd e g v = some p
  | 0, e, v, p, _, h => by simp [rd] at h
  | d + 1, 0, v, p, he, h => by omega
  | d + 1, e + 1, v, p, he, h => by
    have IH : ∀ x q, rd d g x = some q → rd e g x = some q := fun x q hx => rd_deep (by omega) hx
    cases v with
    | slr st b r len =>
      simp only [rd, Option.bind_eq_some_iff] at h ⊢
      obtain ⟨z, hz, h⟩ := h
      refine ⟨z, hz, ?_⟩
      split at h
      · rename_i hq
        rw [if_pos hq]
        cases hfl : z.2.1 with
        | true => rw [hfl] at h; exact h
        | false =>
          rw [hfl] at h
          simp only [cond_false, Option.map_eq_some_iff] at h ⊢
          obtain ⟨q, hq', rfl⟩ := h
          exact ⟨q, rdRows_mono hq' (fun r' _ x _ q' hx _ => IH x q' hx), rfl⟩
      · cases h
    | agg cs =>
      simp only [rd, Option.map_eq_some_iff] at h ⊢
      obtain ⟨q, hq, rfl⟩ := h
      exact ⟨q, rdL_mono hq (fun x _ q' hx _ => IH x q' hx), rfl⟩
    | iface t x =>
      simp only [rd, Option.map_eq_some_iff] at h ⊢
      obtain ⟨q, hq, rfl⟩ := h
      exact ⟨q, IH _ _ hq, rfl⟩
    | func fn a b => cases a <;> cases b <;> first | exact h | (simp [rd] at h)
    | _ => first | exact h | (simp [rd] at h)

/-- As 'immV' reads. -/
theorem rdL_omap {f : AV → Option (AV × List Nat)} {f' : AV → Option AV} : ∀ {l : List AV} {p : List AV × List Nat}, rdL f l = some p → (∀ x ∈ l, ∀ q, f x = some q → f' x = some q.1) → omap f' l = some p.1
  | [], p, h, _ => by simp [rdL] at h; subst h; rfl
  | a :: l, p, h, hf => by
    simp only [rdL, Option.bind_eq_some_iff, Option.map_eq_some_iff] at h
    obtain ⟨q, hq, r, hr, rfl⟩ := h
    simp only [omap, hf a (List.mem_cons_self ..) q hq, Option.bind_some, rdL_omap hr (fun x hx => hf x (List.mem_cons_of_mem _ hx)), Option.map_some]
theorem rdRows_omap {f : AV → Option (AV × List Nat)} {f' : AV → Option AV} : ∀ {l : List (List AV)} {p : List (List AV) × List Nat}, rdRows f l = some p → (∀ r ∈ l, ∀ x ∈ r, ∀ q, f x = some q → f' x = some q.1) → omap (omap f') l = some p.1
  | [], p, h, _ => by simp [rdRows] at h; subst h; rfl
  | a :: l, p, h, hf => by
    simp only [rdRows, Option.bind_eq_some_iff, Option.map_eq_some_iff] at h
    obtain ⟨q, hq, r, hr, rfl⟩ := h
    simp only [omap, rdL_omap hq (fun x hx => hf a (List.mem_cons_self ..) x hx), Option.bind_some, rdRows_omap hr (fun r' hr' => hf r' (List.mem_cons_of_mem _ hr')), Option.map_some]
theorem rowsOf_rowsB {g : HF} {b : Nat} {z : Nat × Bool × List (List AV)} (h : (g b).bind rowsB = some z) : rowsOf g b 0 z.2.2.length = some z := by
  obtain ⟨c, hc, hz⟩ := Option.bind_eq_some_iff.1 h
  unfold rowsOf
  rw [hc]
  cases c with
  | live st fl w rows => simp [rowsB] at hz; subst hz; simp
  | frz st fl rows => simp [rowsB] at hz; subst hz; simp
  | dead => simp [rowsB] at hz
  | lp => simp [rowsB] at hz
theorem rd_immV {g : HF} : ∀ {d : Nat} {v : AV} {p : AV × List Nat}, rd d g v = some p → immV d g v = some p.1
  | 0, v, p, h => by simp [rd] at h
  | d + 1, v, p, h => by
    cases v with
    | slr st b r len =>
      simp only [rd, Option.bind_eq_some_iff] at h
      obtain ⟨z, hz, h⟩ := h
      split at h
      · rename_i hq
        obtain ⟨rfl, rfl, rfl⟩ := hq
        simp only [immV, rowsOf_rowsB (Option.bind_eq_some_iff.2 hz), Option.bind_some]
        cases hfl : z.2.1 with
        | true => rw [hfl] at h; simp at h; rw [← h]; rfl
        | false =>
          rw [hfl] at h
          simp only [cond_false, Option.map_eq_some_iff] at h
          obtain ⟨q, hq', rfl⟩ := h
          simp [rdRows_omap hq' (fun r' _ x _ q' hx => rd_immV hx)]
      · cases h
    | agg cs =>
      simp only [rd, Option.map_eq_some_iff] at h
      obtain ⟨q, hq, rfl⟩ := h
      simp [immV, rdL_omap hq (fun x _ q' hx => rd_immV hx)]
    | iface t x =>
      simp only [rd, Option.map_eq_some_iff] at h
      obtain ⟨q, hq, rfl⟩ := h
      simp [immV, rd_immV hq]
    | func fn a b => cases a <;> cases b <;> first | (simp [rd] at h; subst h; rfl) | (simp [rd] at h)
    | _ => first | (simp [rd] at h; subst h; rfl) | (simp [rd] at h)

/-- New names, backwards: each name of the new heap stands for one of the old heap. -/
def renO : Nat → (Nat → Option Nat) → AV → Option AV
  | 0, _, _ => none
  | d + 1, F, v =>
    match v with
    | .ptr b r o => (F b).map fun b => .ptr b r o
    | .slr st b r len => (F b).map fun b => .slr st b r len
    | .agg cs => (omap (renO d F) cs).map .agg
    | .tup cs => (omap (renO d F) cs).map .tup
    | .iface t x => (renO d F x).map (.iface t)
    | .func fn a b => (omap (renO d F) a).bind fun a => (omap (renO d F) b).map fun b => .func fn a b
    | .yl b => (F b).map .yl
    | v => some v

/-- The rows of a new heap's blocks are those of the old heap's, under new names. -/
def RenH (F : Nat → Option Nat) (g' g : HF) : Prop := ∀ i b, F i = some b → ∀ z, (g b).bind rowsB = some z →
  ∃ rows', (g' i).bind rowsB = some (z.1, z.2.1, rows') ∧ (z.2.1 = true → rows' = z.2.2) ∧ (z.2.1 = false → omap (omap (renO 8 F)) rows' = some z.2.2)

theorem omap_length {α β : Type} {f : α → Option β} : ∀ {l : List α} {r : List β}, omap f l = some r → l.length = r.length
  | [], r, h => by simp [omap] at h; subst h; rfl
  | a :: l, r, h => by
    simp only [omap, Option.bind_eq_some_iff, Option.map_eq_some_iff] at h
    obtain ⟨b, _, bs, h2, rfl⟩ := h
    simp [omap_length h2]
theorem rdL_ren {f f' : AV → Option (AV × List Nat)} {F : AV → Option AV} : ∀ {l l' : List AV} {p : List AV × List Nat}, omap F l' = some l → rdL f l = some p →
    (∀ x' x q, F x' = some x → f x = some q → ∃ R', f' x' = some (q.1, R') ∧ R'.length = q.2.length) → ∃ R', rdL f' l' = some (p.1, R') ∧ R'.length = p.2.length
  | l, [], p, ho, h, _ => by
    simp [omap] at ho; subst ho
    simp [rdL] at h; subst h
    exact ⟨[], rfl, rfl⟩
  | l, a' :: l', p, ho, h, hf => by
    simp only [omap, Option.bind_eq_some_iff, Option.map_eq_some_iff] at ho
    obtain ⟨a, ha, l1, hl1, rfl⟩ := ho
    simp only [rdL, Option.bind_eq_some_iff, Option.map_eq_some_iff] at h
    obtain ⟨q, hq, r, hr, rfl⟩ := h
    obtain ⟨R1, e1, e2⟩ := hf a' a q ha hq
    obtain ⟨R2, e3, e4⟩ := rdL_ren hl1 hr hf
    exact ⟨R1 ++ R2, by simp [rdL, e1, e3], by simp [e2, e4]⟩
theorem rdRows_ren {f f' : AV → Option (AV × List Nat)} {F : AV → Option AV} : ∀ {l l' : List (List AV)} {p : List (List AV) × List Nat}, omap (omap F) l' = some l → rdRows f l = some p →
    (∀ x' x q, F x' = some x → f x = some q → ∃ R', f' x' = some (q.1, R') ∧ R'.length = q.2.length) → ∃ R', rdRows f' l' = some (p.1, R') ∧ R'.length = p.2.length
  | l, [], p, ho, h, _ => by
    simp [omap] at ho; subst ho
    simp [rdRows] at h; subst h
    exact ⟨[], rfl, rfl⟩
  | l, a' :: l', p, ho, h, hf => by
    simp only [omap, Option.bind_eq_some_iff, Option.map_eq_some_iff] at ho
    obtain ⟨a, ha, l1, hl1, rfl⟩ := ho
    simp only [rdRows, Option.bind_eq_some_iff, Option.map_eq_some_iff] at h
    obtain ⟨q, hq, r, hr, rfl⟩ := h
    obtain ⟨R1, e1, e2⟩ := rdL_ren ha hq hf
    obtain ⟨R2, e3, e4⟩ := rdRows_ren hl1 hr hf
    exact ⟨R1 ++ R2, by simp [rdRows, e1, e3], by simp [e2, e4]⟩

theorem rd_ren {F : Nat → Option Nat} {g' g : HF} (H : RenH F g' g) : ∀ {d e : Nat} {x' x : AV} {p : AV × List Nat}, renO e F x' = some x → rd d g x = some p → ∃ R', rd d g' x' = some (p.1, R') ∧ R'.length = p.2.length
  | 0, e, x', x, p, _, h => by simp [rd] at h
  | d + 1, 0, x', x, p, hx, _ => by simp [renO] at hx
  | d + 1, e + 1, x', x, p, hx, h => by
    have IH : ∀ e x' x q, renO e F x' = some x → rd d g x = some q → ∃ R', rd d g' x' = some (q.1, R') ∧ R'.length = q.2.length := fun e x' x q h1 h2 => rd_ren H h1 h2
    cases x' with
    | slr st i r len =>
      simp only [renO, Option.map_eq_some_iff] at hx
      obtain ⟨b, hb, rfl⟩ := hx
      simp only [rd, Option.bind_eq_some_iff] at h
      obtain ⟨z, hz, h⟩ := h
      split at h
      · rename_i hq
        obtain ⟨rows', k1, k2, k3⟩ := H i b hb z (Option.bind_eq_some_iff.2 hz)
        simp only [rd, k1, Option.bind_some]
        cases hfl : z.2.1 with
        | true =>
          rw [hfl] at h; simp at h
          rw [if_pos ⟨hq.1, hq.2.1, by rw [k2 hfl]; exact hq.2.2⟩, ← h, k2 hfl]
          exact ⟨[i], rfl, rfl⟩
        | false =>
          rw [hfl] at h
          simp only [cond_false, Option.map_eq_some_iff] at h
          obtain ⟨q, hq', rfl⟩ := h
          have hl := omap_length (k3 hfl)
          rw [if_pos ⟨hq.1, hq.2.1, by rw [hl]; exact hq.2.2⟩]
          obtain ⟨R', e1, e2⟩ := rdRows_ren (f' := rd d g') (k3 hfl) hq' (fun x' x q h1 h2 => IH 8 x' x q h1 h2)
          exact ⟨i :: R', by simp [e1], by simp [e2]⟩
      · cases h
    | agg cs =>
      simp only [renO, Option.map_eq_some_iff] at hx
      obtain ⟨cs', hcs, rfl⟩ := hx
      simp only [rd, Option.map_eq_some_iff] at h
      obtain ⟨q, hq, rfl⟩ := h
      obtain ⟨R', e1, e2⟩ := rdL_ren (f' := rd d g') hcs hq (fun x' x q h1 h2 => IH e x' x q h1 h2)
      exact ⟨R', by simp [rd, e1], e2⟩
    | iface t y =>
      simp only [renO, Option.map_eq_some_iff] at hx
      obtain ⟨y', hy, rfl⟩ := hx
      simp only [rd, Option.map_eq_some_iff] at h
      obtain ⟨q, hq, rfl⟩ := h
      obtain ⟨R', e1, e2⟩ := IH e _ _ q hy hq
      exact ⟨R', by simp [rd, e1], e2⟩
    | func fn a b =>
      simp only [renO, Option.bind_eq_some_iff, Option.map_eq_some_iff] at hx
      obtain ⟨a1, ha, b1, hb, rfl⟩ := hx
      have la := omap_length ha
      have lb := omap_length hb
      cases a1 with
      | cons => simp [rd] at h
      | nil =>
        cases b1 with
        | cons => simp [rd] at h
        | nil =>
          simp at la lb
          obtain rfl := la
          obtain rfl := lb
          simp [rd] at h; subst h
          exact ⟨[], rfl, rfl⟩
    | ptr b r o =>
      simp only [renO, Option.map_eq_some_iff] at hx
      obtain ⟨b, hb, rfl⟩ := hx
      simp [rd] at h
    | tup cs =>
      simp only [renO, Option.map_eq_some_iff] at hx
      obtain ⟨b, hb, rfl⟩ := hx
      simp [rd] at h
    | yl b =>
      simp only [renO, Option.map_eq_some_iff] at hx
      obtain ⟨b, hb, rfl⟩ := hx
      simp [rd] at h
    | _ => simp [renO] at hx; subst hx; simp [rd] at h; subst h; exact ⟨[], rfl, rfl⟩
end Go.Ev

/- Calls on the caller's heap, in equations. -/
namespace Go.Ev
open Go.RowKit
section
variable {P : Program} {O : Orc} {pr : Prims}
/-- A function's end, on the caller's heap. -/
def fnS (P : Program) (rs : List ResultVar) (x : R) : Option (Out × Heap) :=
  match x with
  | some (.normal, s) | some (.ret, s) => (resA P s rs).map fun vs => (.ret (oneA vs), s.h)
  | some (.pan v, s) => some (.pan v, s.h)
  | _ => none
theorem evS_eq {f : Nat} {fn : Func} (hf : P.funcs[f]? = some fn) {c : Code} (hb : fn.body = some c) {args : List AV} (hl : args.length ≤ fn.ntmps) (h : Heap) :
    evS O P f args h = fnS P fn.results.toList (evM O P fuelM c [] ⟨mk fn.ntmps (ent args), h⟩) := by
  unfold evS
  simp only [hf, hb]
  rw [ent_mk _ _ hl]
  cases evM O P fuelM c [] ⟨mk fn.ntmps (ent args), h⟩ with
  | none => rfl
  | some x =>
    obtain ⟨e, s⟩ := x
    cases e <;> rfl
def FnS (P : Program) (rs : List ResultVar) (Q : Out → Heap → Prop) (x : R) : Prop := ∃ o h, fnS P rs x = some (o, h) ∧ Q o h
def RtS (vs : Option (List AV)) (h : Heap) (Q : Out → Heap → Prop) : Prop :=
  match vs with
  | some vs => Q (.ret (oneA vs)) h
  | none => False
theorem fs_ret (rs : List ResultVar) (Q : Out → Heap → Prop) (t : List AV) (h : Heap) : FnS P rs Q (some (.ret, ⟨t, h⟩)) = RtS (resA P ⟨t, h⟩ rs) h Q := by
  cases hr : resA P ⟨t, h⟩ rs with
  | none => simp [FnS, fnS, RtS, hr]
  | some vs =>
    have e : fnS P rs (some (.ret, ⟨t, h⟩)) = some (.ret (oneA vs), h) := by simp [fnS, hr]
    exact propext (Iff.intro (fun ⟨o, h', e', q⟩ => by rw [e] at e'; cases e'; exact q) (fun q => ⟨_, _, e, q⟩))
theorem fs_normal (rs : List ResultVar) (Q : Out → Heap → Prop) (t : List AV) (h : Heap) : FnS P rs Q (some (.normal, ⟨t, h⟩)) = RtS (resA P ⟨t, h⟩ rs) h Q := by
  rw [← fs_ret]; rfl
theorem rtS_some (vs : List AV) (h : Heap) (Q : Out → Heap → Prop) : RtS (some vs) h Q = Q (.ret (oneA vs)) h := Eq.trans rfl rfl
theorem fnS_none {rs : List ResultVar} {Q : Out → Heap → Prop} : ¬ FnS P rs Q none := fun ⟨_, _, h, _⟩ => by simp [fnS] at h
/-- A call's outcome, on the caller's heap. -/
def ShQ (O : Orc) (f : Nat) (args : List AV) (h : Heap) (Q : Out → Heap → Prop) : Prop := ∃ o h', O.call (.sh f) args h = some (o, h') ∧ Q o h'
theorem ShQ.start {f : Nat} {fn : Func} {c : Code} {args : List AV} {h : Heap} {Q : Out → Heap → Prop} (hp : pr f = none) (hf : P.funcs[f]? = some fn) (hb : fn.body = some c) (hl : Nat.ble args.length fn.ntmps = true)
    (he : FnS P fn.results.toList Q (evM (om P pr) P 5000 c [] ⟨mk fn.ntmps (ent args), h⟩)) : ShQ (om P pr) f args h Q := by
  obtain ⟨o, h', e, q⟩ := he
  exact ⟨o, h', om_sh hp ((evS_eq hf hb (Nat.le_of_ble_eq_true hl) h).trans e), q⟩
theorem ShQ.eq {f : Nat} {args : List AV} {h : Heap} {o : Out} {h' : Heap} (k : ShQ O f args h fun o1 h1 => (o1, h1) = (o, h')) : O.call (.sh f) args h = some (o, h') := by
  obtain ⟨o1, h1, e, q⟩ := k
  rw [e, q]
def ncK (x : Option AV) : OE :=
  match x with
  | some (.ptr b r o) => some (.ret (.ptr b r o), [])
  | some (.iptr cs) => some (.ret (.iptr cs), [])
  | some (.func (.func f) a c) => some (.ret (.func (.func f) a c), [])
  | _ => none
theorem nc_ptr (b r o : Nat) : ncK (some (.ptr b r o)) = some (.ret (.ptr b r o), []) := Eq.trans rfl rfl
theorem nc_iptr (cs : List AV) : ncK (some (.iptr cs)) = some (.ret (.iptr cs), []) := Eq.trans rfl rfl
theorem nc_func (f : Nat) (a c : List AV) : ncK (some (.func (.func f) a c)) = some (.ret (.func (.func f) a c), []) := Eq.trans rfl rfl
theorem ex_nc (t : List AV) (h : Heap) (x : Operand) : exOp O P t h (.nilCheck x) = ncK (evalO t x) := by
  rw [ex_other _ _ _ rfl]
  simp only [exec, ncK]
  cases evalO t x with
  | none => rfl
  | some v =>
    cases v with
    | func fn a c => cases fn <;> rfl
    | _ => rfl
theorem ft_nc (t : List AV) (h : Heap) (x : Operand) : ftA O P t h (.nilCheck x) = some [] := Eq.trans rfl rfl
end
def EVq := PLift.up (And.intro @fs_ret (And.intro @fs_normal (And.intro @rtS_some (And.intro @nc_ptr (And.intro @nc_iptr (And.intro @nc_func (And.intro @ex_nc @ft_nc)))))))
end Go.Ev

/- More operations in equations. -/
namespace Go.Ev
open Go.RowKit
section
variable {P : Program} {O : Orc}
theorem ex_min3 (t : List AV) (h : Heap) (x y z : Operand) (ts : Array TypeId) : exOp O P t h (.call ⟨.builtin .min, #[x, y, z], ts⟩) = r1 ((evalO t x).bind fun a => (evalO t y).bind fun b => (evalO t z).bind fun c => (aMin2 a b).bind fun q => aMin2 q c) := by
  rw [ex_other _ _ _ rfl]
  simp only [exec, evalOs]
  cases evalO t x with
  | none => rfl
  | some a =>
    cases evalO t y with
    | none => rfl
    | some b =>
      cases evalO t z with
      | none => rfl
      | some c => exact rD_purely _
theorem ex_max3 (t : List AV) (h : Heap) (x y z : Operand) (ts : Array TypeId) : exOp O P t h (.call ⟨.builtin .max, #[x, y, z], ts⟩) = r1 ((evalO t x).bind fun a => (evalO t y).bind fun b => (evalO t z).bind fun c => (aMax2 a b).bind fun q => aMax2 q c) := by
  rw [ex_other _ _ _ rfl]
  simp only [exec, evalOs]
  cases evalO t x with
  | none => rfl
  | some a =>
    cases evalO t y with
    | none => rfl
    | some b =>
      cases evalO t z with
      | none => rfl
      | some c => exact rD_purely _
end

/-- A slice of our own in what lies behind the first k blocks: nothing, or a whole block. -/
def OwnS (k st : Nat) (fl : Bool) (rows : List (List AV)) (v : AV) (g : Heap) : Prop :=
  (rows = [] ∧ v = .nils) ∨ ∃ b w, v = .slr st (b + k) 0 rows.length ∧ g[b]? = some (.live st fl w rows)
/-- The blocks behind the first k, that of a slice no more. -/
def kl (k : Nat) (v : AV) (g : Heap) : Heap :=
  match v with
  | .slr _ b _ _ => g.set (b - k) .dead
  | _ => g
def Sep (v u : AV) : Prop := ∀ a b r n a' b' r' n', v = .slr a b r n → u = .slr a' b' r' n' → b ≠ b'
theorem Sep.nils (v : AV) : Sep v .nils := fun _ _ _ _ _ _ _ _ _ h => by cases h
theorem Sep.nils' (v : AV) : Sep .nils v := fun _ _ _ _ _ _ _ _ h => by cases h
theorem Sep.symm {v u : AV} (h : Sep v u) : Sep u v := fun a b r n a' b' r' n' h1 h2 e => h a' b' r' n' a b r n h2 h1 e.symm
theorem OwnS.nil (k st : Nat) (fl : Bool) (g : Heap) : OwnS k st fl [] .nils g := .inl ⟨rfl, rfl⟩
theorem OwnS.blk {k st : Nat} {fl w : Bool} {rows : List (List AV)} {g : Heap} {b n c : Nat} (h : g[b]? = some (.live st fl w rows)) (hc : c = b + k) (hn : n = rows.length) : OwnS k st fl rows (.slr st c 0 n) g := by
  subst hc hn; exact .inr ⟨b, w, rfl, h⟩
theorem OwnS.app {k st : Nat} {fl : Bool} {rows : List (List AV)} {v : AV} {g : Heap} (h : OwnS k st fl rows v g) (l : Heap) : OwnS k st fl rows v (g ++ l) := by
  rcases h with h | ⟨b, w, h1, h2⟩
  · exact .inl h
  · exact .inr ⟨b, w, h1, by rw [List.getElem?_append_left (List.getElem?_eq_some_iff.1 h2).1]; exact h2⟩
theorem OwnS.kl {k st st' : Nat} {fl fl' : Bool} {rows rows' : List (List AV)} {v u : AV} {g : Heap} (h : OwnS k st fl rows u g) (hv : OwnS k st' fl' rows' v g) (hs : Sep v u) : OwnS k st fl rows u (kl k v g) := by
  rcases h with h | ⟨b, w, h1, h2⟩
  · exact .inl h
  · refine .inr ⟨b, w, h1, ?_⟩
    rcases hv with ⟨_, rfl⟩ | ⟨b', w', rfl, h4⟩
    · exact h2
    · have hne : b' ≠ b := fun e => hs _ _ _ _ _ _ _ _ rfl h1 (by omega)
      simp only [Ev.kl, Nat.add_sub_cancel]
      rw [List.getElem?_set_ne hne]; exact h2
theorem kl_length (k : Nat) (v : AV) (g : Heap) : (kl k v g).length = g.length := by
  unfold kl; split <;> simp
theorem quietH_kl {k : Nat} {v : AV} {g : Heap} (h : quietH g = true) : quietH (kl k v g) = true := by
  unfold kl
  split
  · simp only [quietH, List.all_eq_true] at h ⊢
    intro c hc
    rcases List.mem_or_eq_of_mem_set hc with h1 | rfl
    · exact h c h1
    · rfl
  · exact h
/-- A slice of our own is nowhere near a new block. -/
theorem OwnS.sep {k st : Nat} {fl : Bool} {rows : List (List AV)} {v : AV} {g : Heap} (h : OwnS k st fl rows v g) {a b r n : Nat} (hb : g.length + k ≤ b) : Sep v (.slr a b r n) := by
  intro a1 b1 r1 n1 a2 b2 r2 n2 e1 e2
  cases e2
  rcases h with ⟨_, rfl⟩ | ⟨b', w, rfl, h2⟩
  · cases e1
  · cases e1
    have := (List.getElem?_eq_some_iff.1 h2).1
    omega
def apE (v : AV) (st : Nat) (fl : Bool) (rows : List (List AV)) (base : Nat) : List HEdit :=
  match v with
  | .slr _ b _ _ => [.put b .dead, .new base (.live st fl false rows)]
  | _ => [.new base (.live st fl false rows)]
theorem apK_own {k n : Nat} {fl : Bool} {rows : List (List AV)} {v : AV} {g : Heap} (ho : OwnS k n fl rows v g) {pre : Heap} (hk : pre.length = k) (l : Heap) (r : List AV) (new : List (List AV)) (hl : rows.length + (new.length + 1) ≤ 549755813888) :
    apK n (pre ++ (g ++ l)) (some v) (some (fl, r :: new)) = some (.ret (.slr n (pre ++ (g ++ l)).length 0 (rows.length + (r :: new).length)), apE v n fl (rows ++ r :: new) (pre ++ (g ++ l)).length) := by
  rcases ho with ⟨rfl, rfl⟩ | ⟨b, w, rfl, h2⟩
  · rw [apK_n1, if_pos (by simp at hl ⊢; omega)]
    simp [apE]
  · have hb := (List.getElem?_eq_some_iff.1 h2).1
    have hq : (pre ++ (g ++ l))[b + k]? = some (.live n fl w rows) := by
      rw [List.getElem?_append_right (by omega), List.getElem?_append_left (by omega)]
      rw [show b + k - pre.length = b by omega]; exact h2
    rw [apK_s1, hq, apS_live, if_pos ⟨rfl, by omega, by simp only [List.length_cons]; omega⟩]
    simp [apE]
theorem happ_apE {k n : Nat} {fl : Bool} {rows : List (List AV)} {v : AV} {g : Heap} (ho : OwnS k n fl rows v g) {pre : Heap} (hk : pre.length = k) (l : Heap) (st : Nat) (fl' : Bool) (rows' : List (List AV)) (base : Nat) :
    happ (pre ++ (g ++ l)) (apE v st fl' rows' base) = pre ++ (kl k v g ++ (l ++ [.live st fl' false rows'])) := by
  rcases ho with ⟨rfl, rfl⟩ | ⟨b, w, rfl, h2⟩
  · simp [apE, happ, happ1, kl]
  · have hb := (List.getElem?_eq_some_iff.1 h2).1
    simp only [apE, happ, happ1, kl, Nat.add_sub_cancel]
    rw [List.set_append_right _ _ (by omega), show b + k - pre.length = b by omega, List.set_append_left _ _ hb]
    simp
/-- Rows that hold no reference, read as immutable. -/
def rdM (st : Nat) (x : Option (List (List AV))) : Option AV := x.map (.imm st false)
theorem rdM_some (st : Nat) (rows : List (List AV)) : rdM st (some rows) = some (.imm st false rows) := Eq.trans rfl rfl
theorem rdS_lf (q : AV → Option AV) (st : Nat) (w : Bool) (rows : List (List AV)) (r len : Nat) : rdS q (some (.live st false w rows)) r len = if r + len ≤ rows.length then rdM st (omap (omap q) ((rows.drop r).take len)) else none := by
  simp only [rdS, rdR]
  split <;> rfl
/-- A call that looks at slices of ours alone, and gives back no reference. -/
theorem call_ro {O : Orc} {h : Heap} {f : Cal} {args vs : List AV} {r : AV} (hv : omap (argV 12 (hf h)) args = some vs) (hp : vs.all (pureV 8) = true) (hc : O.call f vs [] = some (.ret r, [])) (hr : pureV 8 r = true) (hi : hasImm 8 r = false) :
    cr (aCallP O (hf h) h.length f args) = some (.ret r, []) := by
  rw [List.all_eq_true] at hp
  have h2 : pack (hf h) [] vs = some (vs, [], []) := by
    unfold pack
    rw [refL_same fun x hx => refV_pure [] (hp x hx)]
    rfl
  have h4 : renOf [] h.length = fun i => h.length + i := by funext i; simp [renOf]
  have h5 : ∀ l : List Nat, l.any (fun b => ([] : List Nat).contains b) = false := fun l => by simp
  unfold aCallP
  simp only [hv, h2, Option.bind_some, h5, Bool.false_eq_true, if_false, List.map_nil, hc, unpack, h4, List.length_nil, List.take_zero, List.drop_zero, putsE, newsE, Out.v, renV_pure _ hr, hi, List.append_nil, List.any_nil, Bool.or_false, Bool.not_false, Bool.or_true, if_true, cr, Option.map_some, Out.map]
theorem cl_ro {O : Orc} {h : Heap} {f : Nat} {args vs : List AV} {r : AV} (hd : hdR args = false) (hv : omap (argV 12 (hf h)) args = some vs) (hp : vs.all (pureV 8) = true) (hc : O.call (.fn f) vs [] = some (.ret r, [])) (hr : pureV 8 r = true) (hi : hasImm 8 r = false) :
    cl O h (some (.func (.func f) [] [])) (some args) = some (.ret r, []) := by
  rw [cl_fn]
  simp only [List.nil_append, List.append_nil, hd, Bool.false_eq_true, if_false]
  exact call_ro hv hp hc hr hi
theorem OwnS.hd {k st : Nat} {fl : Bool} {rows : List (List AV)} {v : AV} {g : Heap} (h : OwnS k st fl rows v g) (l : List AV) : hdR (v :: l) = false := by
  rcases h with ⟨_, rfl⟩ | ⟨b, w, rfl, _⟩ <;> rfl
theorem OwnS.argV {k st : Nat} {fl : Bool} {rows : List (List AV)} {v : AV} {g : Heap} (h : OwnS k st fl rows v g) {pre : Heap} (hk : pre.length = k) (l : Heap) (d : Nat)
    (hp : fl = false → ∀ g', omap (omap (immV d g')) rows = some rows) : ∃ nn, argV (d + 1) (hf (pre ++ (g ++ l))) v = some (slv st fl nn rows) := by
  rcases h with ⟨rfl, rfl⟩ | ⟨b, w, rfl, h2⟩
  · exact ⟨false, rfl⟩
  · refine ⟨true, ?_⟩
    have hb := (List.getElem?_eq_some_iff.1 h2).1
    have hq : (pre ++ (g ++ l))[b + k]? = some (.live st fl w rows) := by
      rw [List.getElem?_append_right (by omega), List.getElem?_append_left (by omega)]
      rw [show b + k - pre.length = b by omega]; exact h2
    rw [av_slr, hq]
    cases fl with
    | true => rw [rdS_live]; simp [slv_true]
    | false => rw [rdS_lf]; simp [hp rfl, rdM, slv_true]
theorem OwnS.ln {P : Program} {k st : Nat} {fl : Bool} {rows : List (List AV)} {v : AV} {g : Heap} (h : OwnS k st fl rows v g) {ty e : TypeId} (hu : P.underlying ty = some (.slice e)) : ln P ty (some v) = some (.ret (.int .i64 rows.length), []) := by
  rcases h with ⟨rfl, rfl⟩ | ⟨b, w, rfl, _⟩
  · simp [Ev.ln, aLen, hu, r1]
  · simp [Ev.ln, aLen, hu, r1]
/-- Shifts and bits, by numbers. -/
def shrN (a : Int) (i : Nat) : Int := a.fdiv (2 ^ (min i 64))
def and1 (a : Int) : Int := IntKind.i64.wrap ((BitVec.ofInt 64 a &&& BitVec.ofInt 64 1).toNat : Int)
def shlN (n : Nat) : Int := IntKind.i64.wrap (1 * 2 ^ (min n 64))
section
variable {P : Program} (ty : TypeId)
theorem b_shrN (a : Int) (i : Nat) : aBin P .shr ty (.int .i64 a) (.int .i64 (i : Int)) = some (.int .i64 (shrN a i)) := by
  simp [aBin, shrN, IntKind.bits]
theorem b_and1 (a : Int) : aBin P .and ty (.int .i64 a) (.int .i64 1) = some (.int .i64 (and1 a)) := by
  show (if IntKind.i64 = IntKind.i64 then aIntBin .and .i64 a 1 else none) = _
  rw [if_pos rfl]; rfl
theorem b_shlN (n : Nat) : aBin P .shl ty (.int .i64 1) (.int .i64 (n : Int)) = some (.int .i64 (shlN n)) := by
  simp [aBin, shlN, IntKind.bits]
end
theorem omap_id {α : Type} {f : α → Option α} : ∀ {l : List α}, (∀ x ∈ l, f x = some x) → omap f l = some l
  | [], _ => rfl
  | a :: l, h => by simp only [omap, h a (List.mem_cons_self ..), Option.bind_some, omap_id (fun x hx => h x (List.mem_cons_of_mem _ hx)), Option.map_some]
theorem lvS_lf (b : Nat) (st : Nat) (w : Bool) (rows : List (List AV)) (q : AV → List Nat) (r len : Nat) (h : ∀ cs ∈ rows, ∀ x ∈ cs, q x = []) : lvS b (some (.live st false w rows)) q r len = [b] := by
  have e : ∀ l : List (List AV), (∀ cs ∈ l, ∀ x ∈ cs, q x = []) → (l.flatMap fun cs => cs.flatMap q) = [] := fun l hl => by
    simp only [List.flatMap_eq_nil_iff]
    exact fun cs hc x hx => hl cs hc x hx
  simp only [lvS]
  split
  · rw [e _ (fun cs hc => h cs (List.mem_of_mem_drop (List.mem_of_mem_take hc)))]; rfl
  · rfl
theorem im_bool (d : Nat) (g : HF) (b : Bool) : immV (d + 1) g (.bool b) = some (.bool b) := Eq.trans rfl rfl
theorem im_int (d : Nat) (g : HF) (k : IntKind) (n : Int) : immV (d + 1) g (.int k n) = some (.int k n) := Eq.trans rfl rfl
theorem im_str (d : Nat) (g : HF) (s : List UInt8) : immV (d + 1) g (.str s) = some (.str s) := Eq.trans rfl rfl
theorem im_nils (d : Nat) (g : HF) : immV (d + 1) g .nils = some .nils := Eq.trans rfl rfl
theorem im_nilp (d : Nat) (g : HF) : immV (d + 1) g .nilp = some .nilp := Eq.trans rfl rfl
theorem im_imm (d : Nat) (g : HF) (n : Nat) (fl : Bool) (rows : List (List AV)) : immV (d + 1) g (.imm n fl rows) = some (.imm n fl rows) := Eq.trans rfl rfl
theorem im_slv (d : Nat) (g : HF) (n : Nat) (fl nn : Bool) (rows : List (List AV)) : immV (d + 1) g (slv n fl nn rows) = some (slv n fl nn rows) := by
  cases rows with
  | nil => cases nn <;> rfl
  | cons r rs => rfl
theorem lvS_ff (b : Nat) (st : Nat) (w : Bool) (rows : List (List AV)) (q : AV → List Nat) (r len : Nat) : lvS b (some (.live st false w rows)) q r len = b :: (if r + len ≤ rows.length then ((rows.drop r).take len).flatMap (fun cs => cs.flatMap q) else []) := by
  simp only [lvS]
  split <;> simp
theorem apK_ne {n : Nat} {h : Heap} {nfl : Bool} {rows : List (List AV)} (hr : rows ≠ []) (hl : rows.length ≤ 549755813888) : apK n h (some .nils) (some (nfl, rows)) = some (.ret (.slr n h.length 0 rows.length), [.new h.length (.live n nfl false rows)]) := by
  cases rows with
  | nil => exact (hr rfl).elim
  | cons r new => rw [apK_n1, if_pos (by simpa using hl)]
def EVr := PLift.up (And.intro @ex_min3 (And.intro @ex_max3 (And.intro @b_shrN (And.intro @b_and1 (And.intro @b_shlN (And.intro @rdS_lf (And.intro @im_bool (And.intro @im_int (And.intro @im_str (And.intro @im_nils (And.intro @im_nilp (And.intro @im_imm (And.intro @im_slv @rdM_some)))))))))))))
end Go.Ev

