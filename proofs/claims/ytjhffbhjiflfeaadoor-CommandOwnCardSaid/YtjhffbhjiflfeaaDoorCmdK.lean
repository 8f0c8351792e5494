/-
  Commands and replies compared; what a kind is.
-/
import Derived.Test.YtjhffbhjiflfeaaDoorProg
import Derived.Test.YtjhffbhjiflfeaaDoorCmdQ
namespace Go.Proofs.YtjhffbhjiflfeaaDoor
set_option linter.unusedVariables false
set_option linter.unusedSimpArgs false
set_option maxRecDepth 100000
open Go.RowKit

/-- Are numbers the same, up to n? -/
def eqB (n : Nat) (c d : Nat → Int) : Bool := (List.range n).all fun i => c i == d i
theorem eqB_iff {n : Nat} {c d : Nat → Int} : eqB n c d = true ↔ ∀ i, i < n → c i = d i := by simp [eqB]
theorem eqB_not {n : Nat} {c d : Nat → Int} : eqB n c d = false ↔ ¬ ∀ i, i < n → c i = d i := by rw [← eqB_iff]; simp

set_option maxHeartbeats 16000000 in
theorem eq_reply_lit (c d : Nat → Int) (b : Bool) (w : World) (h : b = true ↔ ∀ i, i < 10 → c i = d i) : (Op.equalIn 10000 47 (.agg #[.int .i64 (c 0), .int .u64 (c 1), .int .u64 (c 2), .int .u64 (c 3), .int .u64 (c 4), .int .u64 (c 5), .int .u64 (c 6), .int .u64 (c 7), .int .u64 (c 8), .int .u64 (c 9)]) (.agg #[.int .i64 (d 0), .int .u64 (d 1), .int .u64 (d 2), .int .u64 (d 3), .int .u64 (d 4), .int .u64 (d 5), .int .u64 (d 6), .int .u64 (d 7), .int .u64 (d 8), .int .u64 (d 9)])).run Tryd.prog w = .ok b w := by
  simp [go_sem]
  cases b with
  | true =>
    have h := h.1 rfl
    simp only [h 0 (by decide), h 1 (by decide), h 2 (by decide), h 3 (by decide), h 4 (by decide), h 5 (by decide), h 6 (by decide), h 7 (by decide), h 8 (by decide), h 9 (by decide), if_true]
  | false =>
    have h : ¬ ∀ i, i < 10 → c i = d i := fun k => by have := h.2 k; cases this
    by_cases e0 : c 0 = d 0
    rotate_left
    · rw [if_neg e0]
    rw [if_pos e0]
    by_cases e1 : c 1 = d 1
    rotate_left
    · rw [if_neg e1]
    rw [if_pos e1]
    by_cases e2 : c 2 = d 2
    rotate_left
    · rw [if_neg e2]
    rw [if_pos e2]
    by_cases e3 : c 3 = d 3
    rotate_left
    · rw [if_neg e3]
    rw [if_pos e3]
    by_cases e4 : c 4 = d 4
    rotate_left
    · rw [if_neg e4]
    rw [if_pos e4]
    by_cases e5 : c 5 = d 5
    rotate_left
    · rw [if_neg e5]
    rw [if_pos e5]
    by_cases e6 : c 6 = d 6
    rotate_left
    · rw [if_neg e6]
    rw [if_pos e6]
    by_cases e7 : c 7 = d 7
    rotate_left
    · rw [if_neg e7]
    rw [if_pos e7]
    by_cases e8 : c 8 = d 8
    rotate_left
    · rw [if_neg e8]
    rw [if_pos e8]
    by_cases e9 : c 9 = d 9
    rotate_left
    · rw [if_neg e9]
    rw [if_pos e9]
    exfalso
    apply h
    intro i hi
    rcases (show i = 0 ∨ i = 1 ∨ i = 2 ∨ i = 3 ∨ i = 4 ∨ i = 5 ∨ i = 6 ∨ i = 7 ∨ i = 8 ∨ i = 9 by omega) with rfl | rfl | rfl | rfl | rfl | rfl | rfl | rfl | rfl | rfl <;> assumption
set_option maxHeartbeats 16000000 in
theorem eq_cmd_lit (c d : Nat → Int) (fc fd : Bool) (b : Bool) (w : World) (h : b = true ↔ (∀ i, i < 24 → i ≠ 6 → c i = d i) ∧ fc = fd) : (Op.equalIn 10000 32 (.agg #[.int .u8 (c 0), .int .u64 (c 1), .int .i64 (c 2), .int .u64 (c 3), .int .i64 (c 4), .int .i64 (c 5), .bool fc, .int .u64 (c 7), .int .u64 (c 8), .int .u64 (c 9), .int .u64 (c 10), .int .u64 (c 11), .int .u64 (c 12), .int .u64 (c 13), .int .u64 (c 14), .int .u64 (c 15), .int .i64 (c 16), .int .i64 (c 17), .int .i64 (c 18), .int .u64 (c 19), .int .i64 (c 20), .int .i64 (c 21), .int .u64 (c 22), .int .u64 (c 23)]) (.agg #[.int .u8 (d 0), .int .u64 (d 1), .int .i64 (d 2), .int .u64 (d 3), .int .i64 (d 4), .int .i64 (d 5), .bool fd, .int .u64 (d 7), .int .u64 (d 8), .int .u64 (d 9), .int .u64 (d 10), .int .u64 (d 11), .int .u64 (d 12), .int .u64 (d 13), .int .u64 (d 14), .int .u64 (d 15), .int .i64 (d 16), .int .i64 (d 17), .int .i64 (d 18), .int .u64 (d 19), .int .i64 (d 20), .int .i64 (d 21), .int .u64 (d 22), .int .u64 (d 23)])).run Tryd.prog w = .ok b w := by
  simp [go_sem]
  cases b with
  | true =>
    obtain ⟨h, hf⟩ := h.1 rfl
    simp only [h 0 (by decide) (by decide), h 1 (by decide) (by decide), h 2 (by decide) (by decide), h 3 (by decide) (by decide), h 4 (by decide) (by decide), h 5 (by decide) (by decide), h 7 (by decide) (by decide), h 8 (by decide) (by decide), h 9 (by decide) (by decide), h 10 (by decide) (by decide), h 11 (by decide) (by decide), h 12 (by decide) (by decide), h 13 (by decide) (by decide), h 14 (by decide) (by decide), h 15 (by decide) (by decide), h 16 (by decide) (by decide), h 17 (by decide) (by decide), h 18 (by decide) (by decide), h 19 (by decide) (by decide), h 20 (by decide) (by decide), h 21 (by decide) (by decide), h 22 (by decide) (by decide), h 23 (by decide) (by decide), hf, if_true]
  | false =>
    have h : ¬ ((∀ i, i < 24 → i ≠ 6 → c i = d i) ∧ fc = fd) := fun k => by have := h.2 k; cases this
    by_cases e0 : c 0 = d 0
    rotate_left
    · rw [if_neg e0]
    rw [if_pos e0]
    by_cases e1 : c 1 = d 1
    rotate_left
    · rw [if_neg e1]
    rw [if_pos e1]
    by_cases e2 : c 2 = d 2
    rotate_left
    · rw [if_neg e2]
    rw [if_pos e2]
    by_cases e3 : c 3 = d 3
    rotate_left
    · rw [if_neg e3]
    rw [if_pos e3]
    by_cases e4 : c 4 = d 4
    rotate_left
    · rw [if_neg e4]
    rw [if_pos e4]
    by_cases e5 : c 5 = d 5
    rotate_left
    · rw [if_neg e5]
    rw [if_pos e5]
    by_cases ef : fc = fd
    rotate_left
    · rw [if_neg ef]
    rw [if_pos ef]
    by_cases e7 : c 7 = d 7
    rotate_left
    · rw [if_neg e7]
    rw [if_pos e7]
    by_cases e8 : c 8 = d 8
    rotate_left
    · rw [if_neg e8]
    rw [if_pos e8]
    by_cases e9 : c 9 = d 9
    rotate_left
    · rw [if_neg e9]
    rw [if_pos e9]
    by_cases e10 : c 10 = d 10
    rotate_left
    · rw [if_neg e10]
    rw [if_pos e10]
    by_cases e11 : c 11 = d 11
    rotate_left
    · rw [if_neg e11]
    rw [if_pos e11]
    by_cases e12 : c 12 = d 12
    rotate_left
    · rw [if_neg e12]
    rw [if_pos e12]
    by_cases e13 : c 13 = d 13
    rotate_left
    · rw [if_neg e13]
    rw [if_pos e13]
    by_cases e14 : c 14 = d 14
    rotate_left
    · rw [if_neg e14]
    rw [if_pos e14]
    by_cases e15 : c 15 = d 15
    rotate_left
    · rw [if_neg e15]
    rw [if_pos e15]
    by_cases e16 : c 16 = d 16
    rotate_left
    · rw [if_neg e16]
    rw [if_pos e16]
    by_cases e17 : c 17 = d 17
    rotate_left
    · rw [if_neg e17]
    rw [if_pos e17]
    by_cases e18 : c 18 = d 18
    rotate_left
    · rw [if_neg e18]
    rw [if_pos e18]
    by_cases e19 : c 19 = d 19
    rotate_left
    · rw [if_neg e19]
    rw [if_pos e19]
    by_cases e20 : c 20 = d 20
    rotate_left
    · rw [if_neg e20]
    rw [if_pos e20]
    by_cases e21 : c 21 = d 21
    rotate_left
    · rw [if_neg e21]
    rw [if_pos e21]
    by_cases e22 : c 22 = d 22
    rotate_left
    · rw [if_neg e22]
    rw [if_pos e22]
    by_cases e23 : c 23 = d 23
    rotate_left
    · rw [if_neg e23]
    rw [if_pos e23]
    exfalso
    apply h
    refine ⟨?_, by assumption⟩
    intro i hi h6
    rcases (show i = 0 ∨ i = 1 ∨ i = 2 ∨ i = 3 ∨ i = 4 ∨ i = 5 ∨ i = 7 ∨ i = 8 ∨ i = 9 ∨ i = 10 ∨ i = 11 ∨ i = 12 ∨ i = 13 ∨ i = 14 ∨ i = 15 ∨ i = 16 ∨ i = 17 ∨ i = 18 ∨ i = 19 ∨ i = 20 ∨ i = 21 ∨ i = 22 ∨ i = 23 by omega) with rfl | rfl | rfl | rfl | rfl | rfl | rfl | rfl | rfl | rfl | rfl | rfl | rfl | rfl | rfl | rfl | rfl | rfl | rfl | rfl | rfl | rfl | rfl <;> assumption

theorem eq_reply (c d : Nat → Int) (w : World) : (Op.equalIn 10000 47 (.agg (rowA replyT 10 c)) (.agg (rowA replyT 10 d))).run Tryd.prog w = .ok (eqB 10 c d) w :=
  eq_reply_lit c d (eqB 10 c d) w eqB_iff
theorem eq_cmd (c d : Nat → Int) (hc : Fits cmdT 24 c) (hd : Fits cmdT 24 d) (w : World) : (Op.equalIn 10000 32 (.agg (rowA cmdT 24 c)) (.agg (rowA cmdT 24 d))).run Tryd.prog w = .ok (eqB 24 c d) w := by
  refine eq_cmd_lit c d (decide (c 6 = 1)) (decide (d 6 = 1)) (eqB 24 c d) w ?_
  rw [eqB_iff]
  constructor
  · intro h
    exact ⟨fun i hi _ => h i hi, by rw [h 6 (by decide)]⟩
  · rintro ⟨h, hf⟩ i hi
    by_cases h6 : i = 6
    · subst h6
      have h1 : c 6 = 0 ∨ c 6 = 1 := hc 6 (by decide)
      have h2 : d 6 = 0 ∨ d 6 = 1 := hd 6 (by decide)
      rcases h1 with h1 | h1 <;> rcases h2 with h2 | h2 <;> rw [h1, h2] at hf ⊢ <;> simp at hf
    · exact h i hi h6

/-! ### Kinds -/
theorem cmd_known (k : Int) (b : Bool) (hb : b = decide (1 ≤ k ∧ k ≤ 7)) (w : World) :
    Calls Tryd.prog 13 #[.int .u8 k] w fun e w' => e = .returned (.bool b) ∧ w = w' := by
  cases b with
  | true =>
    have h := of_decide_eq_true hb.symm
    have h1 : decide (1 ≤ k) = true := decide_eq_true h.1
    have h2 : decide (k ≤ 7) = true := decide_eq_true h.2
    clear h hb
    go_enter Tryd.func13, Tryd.ntmps13
    go_wp2_with fail
    go_ret
    exact ⟨rfl, rfl⟩
  | false =>
    have h := of_decide_eq_false hb.symm
    by_cases h1 : 1 ≤ k
    · have h1 : decide (1 ≤ k) = true := decide_eq_true h1
      have h2 : decide (k ≤ 7) = false := decide_eq_false (fun x => h ⟨of_decide_eq_true h1, x⟩)
      clear h hb
      go_enter Tryd.func13, Tryd.ntmps13
      go_wp2_with fail
      go_ret
      exact ⟨rfl, rfl⟩
    · have h1 : decide (1 ≤ k) = false := decide_eq_false h1
      clear h hb
      go_enter Tryd.func13, Tryd.ntmps13
      go_wp2_with fail
      go_ret
      exact ⟨rfl, rfl⟩

end Go.Proofs.YtjhffbhjiflfeaaDoor
