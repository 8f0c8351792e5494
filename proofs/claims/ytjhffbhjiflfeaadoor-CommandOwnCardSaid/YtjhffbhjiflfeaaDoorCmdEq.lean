/-
  Parts of commands, compared.
-/
import Derived.Test.YtjhffbhjiflfeaaDoorProg
import Derived.Test.YtjhffbhjiflfeaaDoorCmdLaw
namespace Go.Proofs.YtjhffbhjiflfeaaDoor
set_option linter.unusedVariables false
set_option linter.unusedSimpArgs false
set_option maxRecDepth 100000
open Go.RowKit

/-- Are numbers the same from o on? -/
def eqP (o m : Nat) (c d : Nat → Int) : Bool := (List.range m).all fun i => c (o + i) == d (o + i)
theorem eqP_iff {o m : Nat} {c d : Nat → Int} : eqP o m c d = true ↔ ∀ i, i < m → c (o + i) = d (o + i) := by simp [eqP]
set_option maxHeartbeats 16000000 in
theorem eq_conf_lit (c d : Nat → Int) (b : Bool) (w : World) (h : b = true ↔ ∀ i, i < 3 → c (1 + i) = d (1 + i)) : (Op.equalIn 10000 24 (.agg #[.int .u64 (c 1), .int .i64 (c 2), .int .u64 (c 3)]) (.agg #[.int .u64 (d 1), .int .i64 (d 2), .int .u64 (d 3)])).run Tryd.prog w = .ok b w := by
  simp [go_sem]
  cases b with
  | true =>
    have h := h.1 rfl
    have e1 : c 1 = d 1 := h 0 (by decide)
    have e2 : c 2 = d 2 := h 1 (by decide)
    have e3 : c 3 = d 3 := h 2 (by decide)
    simp only [e1, e2, e3, if_true]
  | false =>
    have h : ¬ (∀ i, i < 3 → c (1 + i) = d (1 + i)) := fun k => by have := h.2 k; cases this
    by_cases e1 : c 1 = d 1
    rotate_left
    · rw [if_neg e1]
    rw [if_pos e1]
    by_cases e2 : c 2 = d 2
    rotate_left
    · rw [if_neg e2]
    rw [if_pos e2]
    by_cases e3 : c 3 = d 3
    rotate_left
    · rw [if_neg e3]
    rw [if_pos e3]
    exfalso
    apply h
    intro i hi
    rcases (show i = 0 ∨ i = 1 ∨ i = 2 by omega) with rfl | rfl | rfl <;> assumption
theorem eq_conf (c d : Nat → Int) (w : World) : (Op.equalIn 10000 24 (.agg (partA cmdT 1 3 c).toArray) (.agg (partA cmdT 1 3 d).toArray)).run Tryd.prog w = .ok (eqP 1 3 c d) w := by
  exact eq_conf_lit c d (eqP 1 3 c d) w eqP_iff
set_option maxHeartbeats 16000000 in
theorem eq_spec_lit (c d : Nat → Int) (fc fd : Bool) (b : Bool) (w : World) (h : b = true ↔ (∀ i, i < 14 → i ≠ 2 → c (4 + i) = d (4 + i)) ∧ fc = fd) : (Op.equalIn 10000 28 (.agg #[.int .i64 (c 4), .int .i64 (c 5), .bool fc, .int .u64 (c 7), .int .u64 (c 8), .int .u64 (c 9), .int .u64 (c 10), .int .u64 (c 11), .int .u64 (c 12), .int .u64 (c 13), .int .u64 (c 14), .int .u64 (c 15), .int .i64 (c 16), .int .i64 (c 17)]) (.agg #[.int .i64 (d 4), .int .i64 (d 5), .bool fd, .int .u64 (d 7), .int .u64 (d 8), .int .u64 (d 9), .int .u64 (d 10), .int .u64 (d 11), .int .u64 (d 12), .int .u64 (d 13), .int .u64 (d 14), .int .u64 (d 15), .int .i64 (d 16), .int .i64 (d 17)])).run Tryd.prog w = .ok b w := by
  simp [go_sem]
  cases b with
  | true =>
    obtain ⟨h, hf⟩ := h.1 rfl
    have e4 : c 4 = d 4 := h 0 (by decide) (by decide)
    have e5 : c 5 = d 5 := h 1 (by decide) (by decide)
    have e7 : c 7 = d 7 := h 3 (by decide) (by decide)
    have e8 : c 8 = d 8 := h 4 (by decide) (by decide)
    have e9 : c 9 = d 9 := h 5 (by decide) (by decide)
    have e10 : c 10 = d 10 := h 6 (by decide) (by decide)
    have e11 : c 11 = d 11 := h 7 (by decide) (by decide)
    have e12 : c 12 = d 12 := h 8 (by decide) (by decide)
    have e13 : c 13 = d 13 := h 9 (by decide) (by decide)
    have e14 : c 14 = d 14 := h 10 (by decide) (by decide)
    have e15 : c 15 = d 15 := h 11 (by decide) (by decide)
    have e16 : c 16 = d 16 := h 12 (by decide) (by decide)
    have e17 : c 17 = d 17 := h 13 (by decide) (by decide)
    simp only [e4, e5, e7, e8, e9, e10, e11, e12, e13, e14, e15, e16, e17, hf, if_true]
  | false =>
    have h : ¬ ((∀ i, i < 14 → i ≠ 2 → c (4 + i) = d (4 + i)) ∧ fc = fd) := fun k => by have := h.2 k; cases this
    by_cases e4 : c 4 = d 4
    rotate_left
    · rw [if_neg e4]
    rw [if_pos e4]
    by_cases e5 : c 5 = d 5
    rotate_left
    · rw [if_neg e5]
    rw [if_pos e5]
    by_cases ef : fc = fd
    rotate_left
    · rw [if_neg ef]
    rw [if_pos ef]
    by_cases e7 : c 7 = d 7
    rotate_left
    · rw [if_neg e7]
    rw [if_pos e7]
    by_cases e8 : c 8 = d 8
    rotate_left
    · rw [if_neg e8]
    rw [if_pos e8]
    by_cases e9 : c 9 = d 9
    rotate_left
    · rw [if_neg e9]
    rw [if_pos e9]
    by_cases e10 : c 10 = d 10
    rotate_left
    · rw [if_neg e10]
    rw [if_pos e10]
    by_cases e11 : c 11 = d 11
    rotate_left
    · rw [if_neg e11]
    rw [if_pos e11]
    by_cases e12 : c 12 = d 12
    rotate_left
    · rw [if_neg e12]
    rw [if_pos e12]
    by_cases e13 : c 13 = d 13
    rotate_left
    · rw [if_neg e13]
    rw [if_pos e13]
    by_cases e14 : c 14 = d 14
    rotate_left
    · rw [if_neg e14]
    rw [if_pos e14]
    by_cases e15 : c 15 = d 15
    rotate_left
    · rw [if_neg e15]
    rw [if_pos e15]
    by_cases e16 : c 16 = d 16
    rotate_left
    · rw [if_neg e16]
    rw [if_pos e16]
    by_cases e17 : c 17 = d 17
    rotate_left
    · rw [if_neg e17]
    rw [if_pos e17]
    exfalso
    apply h
    refine ⟨?_, by assumption⟩
    intro i hi h6
    rcases (show i = 0 ∨ i = 1 ∨ i = 3 ∨ i = 4 ∨ i = 5 ∨ i = 6 ∨ i = 7 ∨ i = 8 ∨ i = 9 ∨ i = 10 ∨ i = 11 ∨ i = 12 ∨ i = 13 by omega) with rfl | rfl | rfl | rfl | rfl | rfl | rfl | rfl | rfl | rfl | rfl | rfl | rfl <;> assumption
theorem eq_spec (c d : Nat → Int) (hc : Fits cmdT 24 c) (hd : Fits cmdT 24 d) (w : World) : (Op.equalIn 10000 28 (.agg (partA cmdT 4 14 c).toArray) (.agg (partA cmdT 4 14 d).toArray)).run Tryd.prog w = .ok (eqP 4 14 c d) w := by
  refine eq_spec_lit c d (decide (c 6 = 1)) (decide (d 6 = 1)) (eqP 4 14 c d) w ?_
  rw [eqP_iff]
  constructor
  · intro h
    exact ⟨fun i hi _ => h i hi, by rw [h 2 (by decide)]⟩
  · rintro ⟨h, hf⟩ i hi
    by_cases h6 : i = 2
    · subst h6
      show c 6 = d 6
      have h1 : c 6 = 0 ∨ c 6 = 1 := hc 6 (by decide)
      have h2 : d 6 = 0 ∨ d 6 = 1 := hd 6 (by decide)
      rcases h1 with h1 | h1 <;> rcases h2 with h2 | h2 <;> rw [h1, h2] at hf ⊢ <;> simp at hf
    · exact h i hi h6
set_option maxHeartbeats 16000000 in
theorem eq_pack_lit (c d : Nat → Int) (b : Bool) (w : World) (h : b = true ↔ ∀ i, i < 4 → c (19 + i) = d (19 + i)) : (Op.equalIn 10000 30 (.agg #[.int .u64 (c 19), .int .i64 (c 20), .int .i64 (c 21), .int .u64 (c 22)]) (.agg #[.int .u64 (d 19), .int .i64 (d 20), .int .i64 (d 21), .int .u64 (d 22)])).run Tryd.prog w = .ok b w := by
  simp [go_sem]
  cases b with
  | true =>
    have h := h.1 rfl
    have e19 : c 19 = d 19 := h 0 (by decide)
    have e20 : c 20 = d 20 := h 1 (by decide)
    have e21 : c 21 = d 21 := h 2 (by decide)
    have e22 : c 22 = d 22 := h 3 (by decide)
    simp only [e19, e20, e21, e22, if_true]
  | false =>
    have h : ¬ (∀ i, i < 4 → c (19 + i) = d (19 + i)) := fun k => by have := h.2 k; cases this
    by_cases e19 : c 19 = d 19
    rotate_left
    · rw [if_neg e19]
    rw [if_pos e19]
    by_cases e20 : c 20 = d 20
    rotate_left
    · rw [if_neg e20]
    rw [if_pos e20]
    by_cases e21 : c 21 = d 21
    rotate_left
    · rw [if_neg e21]
    rw [if_pos e21]
    by_cases e22 : c 22 = d 22
    rotate_left
    · rw [if_neg e22]
    rw [if_pos e22]
    exfalso
    apply h
    intro i hi
    rcases (show i = 0 ∨ i = 1 ∨ i = 2 ∨ i = 3 by omega) with rfl | rfl | rfl | rfl <;> assumption
theorem eq_pack (c d : Nat → Int) (w : World) : (Op.equalIn 10000 30 (.agg (partA cmdT 19 4 c).toArray) (.agg (partA cmdT 19 4 d).toArray)).run Tryd.prog w = .ok (eqP 19 4 c d) w := by
  exact eq_pack_lit c d (eqP 19 4 c d) w eqP_iff

def nz (b : Bool) : Nat := if b = true then 0 else 1
theorem own_at {k i : Nat} {c : Nat → Int} (h : partOf k i = true) : ownC k c i = c i := by
  unfold ownC
  split
  · rename_i e; rw [e]
  · first | rfl | rw [if_pos h]
theorem fits_zo : Fits cmdT 24 fun _ => 0 := by
  intro i hi
  show fitC (cmdT i) 0
  unfold fitC
  split
  · omega
  · obtain h | h | h | h := kinds (cmdT i)
    · rw [h]; exact ⟨by decide, by decide⟩
    · rw [h]; exact ⟨by decide, by decide⟩
    · rw [h]; exact ⟨by decide, by decide⟩
    · obtain ⟨t, ht⟩ : ∃ t, cmdT i = t + 3 := ⟨cmdT i - 3, by omega⟩
      rw [ht]; exact Or.inl rfl
theorem own_off {k i : Nat} {c : Nat → Int} (h : partOf k i = false) (hi : 0 < i) : ownC k c i = 0 := by
  unfold ownC
  rw [if_neg (by omega), if_neg (by rw [h]; decide)]
theorem same_at {k o m : Nat} {c : Nat → Int} (h : ∀ i, i < m → partOf k (o + i) = true) : eqP o m (ownC k c) c = true := eqP_iff.2 fun i hi => own_at (h i hi)
theorem zero_off {k o m : Nat} {c : Nat → Int} (h : ∀ i, i < m → partOf k (o + i) = false) (ho : 0 < o) : eqP o m (ownC k c) (fun _ => 0) = true := eqP_iff.2 fun i hi => own_off (h i hi) (by omega)
/-- What is its own: each part is what it was, or zero; one part at most is more than zero. -/
theorem own_parts (k : Nat) (c : Nat → Int) :
    (eqP 1 3 (ownC k c) c = true ∨ eqP 1 3 (ownC k c) (fun _ => 0) = true) ∧ (eqP 19 4 (ownC k c) c = true ∨ eqP 19 4 (ownC k c) (fun _ => 0) = true) ∧
    (ownC k c 18 = c 18 ∨ ownC k c 18 = 0) ∧ (ownC k c 23 = c 23 ∨ ownC k c 23 = 0) ∧ (ownC k c 4 = c 4 ∨ eqP 4 14 (ownC k c) (fun _ => 0) = true) ∧
    nz (eqP 1 3 (ownC k c) fun _ => 0) + nz (eqP 4 14 (ownC k c) fun _ => 0) + nz (eqP 19 4 (ownC k c) fun _ => 0) + nz (ownC k c 18 == 0) + nz (ownC k c 23 == 0) ≤ 1 := by
  have nb : ∀ b, nz b ≤ 1 := fun b => by cases b <;> decide
  have nt : nz true = 0 := rfl
  match k with
  | 1 =>
    have sC := same_at (k := 1) (o := 1) (m := 3) (c := c) (by decide)
    have zS := zero_off (k := 1) (o := 4) (m := 14) (c := c) (by decide) (by decide)
    have zP := zero_off (k := 1) (o := 19) (m := 4) (c := c) (by decide) (by decide)
    have zI := own_off (k := 1) (i := 18) (c := c) (by decide) (by decide)
    have zT := own_off (k := 1) (i := 23) (c := c) (by decide) (by decide)
    refine ⟨.inl sC, .inr zP, .inr zI, .inr zT, .inr zS, ?_⟩
    have b1 := nb (eqP 1 3 (ownC 1 c) fun _ => 0)
    have b2 := nb (eqP 4 14 (ownC 1 c) fun _ => 0)
    have b3 := nb (eqP 19 4 (ownC 1 c) fun _ => 0)
    have b4 := nb (ownC 1 c 18 == 0)
    have b5 := nb (ownC 1 c 23 == 0)
    rw [zS, zP, zI, zT]
    first | (simp only [nt, show ((0 : Int) == 0) = true from rfl]; omega) | (simp only [nt, show ((0 : Int) == 0) = true from rfl]; decide)
  | 2 =>
    have zC := zero_off (k := 2) (o := 1) (m := 3) (c := c) (by decide) (by decide)
    have sS := own_at (k := 2) (i := 4) (c := c) (by decide)
    have zP := zero_off (k := 2) (o := 19) (m := 4) (c := c) (by decide) (by decide)
    have zI := own_off (k := 2) (i := 18) (c := c) (by decide) (by decide)
    have zT := own_off (k := 2) (i := 23) (c := c) (by decide) (by decide)
    refine ⟨.inr zC, .inr zP, .inr zI, .inr zT, .inl sS, ?_⟩
    have b1 := nb (eqP 1 3 (ownC 2 c) fun _ => 0)
    have b2 := nb (eqP 4 14 (ownC 2 c) fun _ => 0)
    have b3 := nb (eqP 19 4 (ownC 2 c) fun _ => 0)
    have b4 := nb (ownC 2 c 18 == 0)
    have b5 := nb (ownC 2 c 23 == 0)
    rw [zC, zP, zI, zT]
    first | (simp only [nt, show ((0 : Int) == 0) = true from rfl]; omega) | (simp only [nt, show ((0 : Int) == 0) = true from rfl]; decide)
  | 3 =>
    have zC := zero_off (k := 3) (o := 1) (m := 3) (c := c) (by decide) (by decide)
    have sS := own_at (k := 3) (i := 4) (c := c) (by decide)
    have zP := zero_off (k := 3) (o := 19) (m := 4) (c := c) (by decide) (by decide)
    have zI := own_off (k := 3) (i := 18) (c := c) (by decide) (by decide)
    have zT := own_off (k := 3) (i := 23) (c := c) (by decide) (by decide)
    refine ⟨.inr zC, .inr zP, .inr zI, .inr zT, .inl sS, ?_⟩
    have b1 := nb (eqP 1 3 (ownC 3 c) fun _ => 0)
    have b2 := nb (eqP 4 14 (ownC 3 c) fun _ => 0)
    have b3 := nb (eqP 19 4 (ownC 3 c) fun _ => 0)
    have b4 := nb (ownC 3 c 18 == 0)
    have b5 := nb (ownC 3 c 23 == 0)
    rw [zC, zP, zI, zT]
    first | (simp only [nt, show ((0 : Int) == 0) = true from rfl]; omega) | (simp only [nt, show ((0 : Int) == 0) = true from rfl]; decide)
  | 4 =>
    have zC := zero_off (k := 4) (o := 1) (m := 3) (c := c) (by decide) (by decide)
    have zS := zero_off (k := 4) (o := 4) (m := 14) (c := c) (by decide) (by decide)
    have zP := zero_off (k := 4) (o := 19) (m := 4) (c := c) (by decide) (by decide)
    have sI := own_at (k := 4) (i := 18) (c := c) (by decide)
    have zT := own_off (k := 4) (i := 23) (c := c) (by decide) (by decide)
    refine ⟨.inr zC, .inr zP, .inl sI, .inr zT, .inr zS, ?_⟩
    have b1 := nb (eqP 1 3 (ownC 4 c) fun _ => 0)
    have b2 := nb (eqP 4 14 (ownC 4 c) fun _ => 0)
    have b3 := nb (eqP 19 4 (ownC 4 c) fun _ => 0)
    have b4 := nb (ownC 4 c 18 == 0)
    have b5 := nb (ownC 4 c 23 == 0)
    rw [zC, zS, zP, zT]
    first | (simp only [nt, show ((0 : Int) == 0) = true from rfl]; omega) | (simp only [nt, show ((0 : Int) == 0) = true from rfl]; decide)
  | 5 =>
    have zC := zero_off (k := 5) (o := 1) (m := 3) (c := c) (by decide) (by decide)
    have zS := zero_off (k := 5) (o := 4) (m := 14) (c := c) (by decide) (by decide)
    have sP := same_at (k := 5) (o := 19) (m := 4) (c := c) (by decide)
    have zI := own_off (k := 5) (i := 18) (c := c) (by decide) (by decide)
    have zT := own_off (k := 5) (i := 23) (c := c) (by decide) (by decide)
    refine ⟨.inr zC, .inl sP, .inr zI, .inr zT, .inr zS, ?_⟩
    have b1 := nb (eqP 1 3 (ownC 5 c) fun _ => 0)
    have b2 := nb (eqP 4 14 (ownC 5 c) fun _ => 0)
    have b3 := nb (eqP 19 4 (ownC 5 c) fun _ => 0)
    have b4 := nb (ownC 5 c 18 == 0)
    have b5 := nb (ownC 5 c 23 == 0)
    rw [zC, zS, zI, zT]
    first | (simp only [nt, show ((0 : Int) == 0) = true from rfl]; omega) | (simp only [nt, show ((0 : Int) == 0) = true from rfl]; decide)
  | 6 =>
    have zC := zero_off (k := 6) (o := 1) (m := 3) (c := c) (by decide) (by decide)
    have zS := zero_off (k := 6) (o := 4) (m := 14) (c := c) (by decide) (by decide)
    have zP := zero_off (k := 6) (o := 19) (m := 4) (c := c) (by decide) (by decide)
    have zI := own_off (k := 6) (i := 18) (c := c) (by decide) (by decide)
    have sT := own_at (k := 6) (i := 23) (c := c) (by decide)
    refine ⟨.inr zC, .inr zP, .inr zI, .inl sT, .inr zS, ?_⟩
    have b1 := nb (eqP 1 3 (ownC 6 c) fun _ => 0)
    have b2 := nb (eqP 4 14 (ownC 6 c) fun _ => 0)
    have b3 := nb (eqP 19 4 (ownC 6 c) fun _ => 0)
    have b4 := nb (ownC 6 c 18 == 0)
    have b5 := nb (ownC 6 c 23 == 0)
    rw [zC, zS, zP, zI]
    first | (simp only [nt, show ((0 : Int) == 0) = true from rfl]; omega) | (simp only [nt, show ((0 : Int) == 0) = true from rfl]; decide)
  | 7 =>
    have zC := zero_off (k := 7) (o := 1) (m := 3) (c := c) (by decide) (by decide)
    have zS := zero_off (k := 7) (o := 4) (m := 14) (c := c) (by decide) (by decide)
    have zP := zero_off (k := 7) (o := 19) (m := 4) (c := c) (by decide) (by decide)
    have sI := own_at (k := 7) (i := 18) (c := c) (by decide)
    have zT := own_off (k := 7) (i := 23) (c := c) (by decide) (by decide)
    refine ⟨.inr zC, .inr zP, .inl sI, .inr zT, .inr zS, ?_⟩
    have b1 := nb (eqP 1 3 (ownC 7 c) fun _ => 0)
    have b2 := nb (eqP 4 14 (ownC 7 c) fun _ => 0)
    have b3 := nb (eqP 19 4 (ownC 7 c) fun _ => 0)
    have b4 := nb (ownC 7 c 18 == 0)
    have b5 := nb (ownC 7 c 23 == 0)
    rw [zC, zS, zP, zT]
    first | (simp only [nt, show ((0 : Int) == 0) = true from rfl]; omega) | (simp only [nt, show ((0 : Int) == 0) = true from rfl]; decide)
  | 0 =>
    have zC := zero_off (k := 0) (o := 1) (m := 3) (c := c) (by decide) (by decide)
    have zS := zero_off (k := 0) (o := 4) (m := 14) (c := c) (by decide) (by decide)
    have zP := zero_off (k := 0) (o := 19) (m := 4) (c := c) (by decide) (by decide)
    have zI := own_off (k := 0) (i := 18) (c := c) (by decide) (by decide)
    have zT := own_off (k := 0) (i := 23) (c := c) (by decide) (by decide)
    refine ⟨.inr zC, .inr zP, .inr zI, .inr zT, .inr zS, ?_⟩
    have b1 := nb (eqP 1 3 (ownC 0 c) fun _ => 0)
    have b2 := nb (eqP 4 14 (ownC 0 c) fun _ => 0)
    have b3 := nb (eqP 19 4 (ownC 0 c) fun _ => 0)
    have b4 := nb (ownC 0 c 18 == 0)
    have b5 := nb (ownC 0 c 23 == 0)
    rw [zC, zS, zP, zI, zT]
    first | (simp only [nt, show ((0 : Int) == 0) = true from rfl]; omega) | (simp only [nt, show ((0 : Int) == 0) = true from rfl]; decide)
  | k + 8 =>
    have hp : ∀ i, partOf (k + 8) i = false := fun i => rfl
    have zC := zero_off (k := (k + 8)) (o := 1) (m := 3) (c := c) (by intros; exact hp _) (by decide)
    have zS := zero_off (k := (k + 8)) (o := 4) (m := 14) (c := c) (by intros; exact hp _) (by decide)
    have zP := zero_off (k := (k + 8)) (o := 19) (m := 4) (c := c) (by intros; exact hp _) (by decide)
    have zI := own_off (k := (k + 8)) (i := 18) (c := c) (hp _) (by decide)
    have zT := own_off (k := (k + 8)) (i := 23) (c := c) (hp _) (by decide)
    refine ⟨.inr zC, .inr zP, .inr zI, .inr zT, .inr zS, ?_⟩
    have b1 := nb (eqP 1 3 (ownC (k + 8) c) fun _ => 0)
    have b2 := nb (eqP 4 14 (ownC (k + 8) c) fun _ => 0)
    have b3 := nb (eqP 19 4 (ownC (k + 8) c) fun _ => 0)
    have b4 := nb (ownC (k + 8) c 18 == 0)
    have b5 := nb (ownC (k + 8) c 23 == 0)
    rw [zC, zS, zP, zI, zT]
    first | (simp only [nt, show ((0 : Int) == 0) = true from rfl]; omega) | (simp only [nt, show ((0 : Int) == 0) = true from rfl]; decide)

end Go.Proofs.YtjhffbhjiflfeaaDoor
