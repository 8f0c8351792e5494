/-
  The plain law of a long division's digit: no program in sight.
-/
import Derived.Test.YtjhffbhjiflfeaaGreatLib2
namespace Go.Proofs.YtjhffbhjiflfeaaGreat
set_option linter.unusedVariables false
open Go.RowKit

/-- A digit that is looked for: u below the divisor y1 * 2^32 + y0, d the next half; q is no less than the digit, rh what is left. -/
structure Dig (u d y1 y0 q rh : Int) : Prop where
  u0 : 0 ≤ u
  uY : u < y1 * 4294967296 + y0
  d0 : 0 ≤ d
  d1 : d < 4294967296
  a0 : 2147483648 ≤ y1
  a1 : y1 < 4294967296
  b0 : 0 ≤ y0
  b1 : y0 < 4294967296
  rest : rh + q * y1 = u
  rh0 : 0 ≤ rh
  qQ : (u * 4294967296 + d) / (y1 * 4294967296 + y0) ≤ q
  q1 : q ≤ 4294967297

theorem Dig.start {u d y1 y0 : Int} (u0 : 0 ≤ u) (uY : u < y1 * 4294967296 + y0) (d0 : 0 ≤ d) (d1 : d < 4294967296) (a0 : 2147483648 ≤ y1) (a1 : y1 < 4294967296) (b0 : 0 ≤ y0) (b1 : y0 < 4294967296) :
    Dig u d y1 y0 (u / y1) (u - u / y1 * y1) ∧ u - u / y1 * y1 < 4294967296 := by
  have h1 := Int.mul_ediv_add_emod u y1
  have h2 := Int.emod_nonneg u (by omega : y1 ≠ 0)
  have h3 := Int.emod_lt_of_pos u (by omega : 0 < y1)
  rw [Int.mul_comm] at h1
  have hq : u / y1 < 4294967298 := Int.ediv_lt_of_lt_mul (by omega) (by omega)
  have hq0 : 0 ≤ u / y1 := Int.ediv_nonneg u0 (by omega)
  refine ⟨⟨u0, uY, d0, d1, a0, a1, b0, b1, by omega, by omega, ?_, by omega⟩, by omega⟩
  have hY : 0 < y1 * 4294967296 + y0 := by omega
  have : (u * 4294967296 + d) / (y1 * 4294967296 + y0) < u / y1 + 1 := by
    refine Int.ediv_lt_of_lt_mul hY ?_
    have e : (u / y1 + 1) * (y1 * 4294967296 + y0) = u / y1 * y1 * 4294967296 + u / y1 * y0 + y1 * 4294967296 + y0 := by
      rw [Int.add_mul, Int.one_mul, Int.mul_add, ← Int.mul_assoc]; omega
    have h4 : 0 ≤ u / y1 * y0 := Int.mul_nonneg hq0 b0
    rw [e]
    omega
  omega

section
variable {u d y1 y0 q rh : Int}
def digit (u d y1 y0 : Int) : Int := (u * 4294967296 + d) / (y1 * 4294967296 + y0)

theorem digit_lt (u0 : 0 ≤ u) (uY : u < y1 * 4294967296 + y0) (d1 : d < 4294967296) : digit u d y1 y0 < 4294967296 := by
  unfold digit
  refine Int.ediv_lt_of_lt_mul (by omega) (by omega)
theorem digit_nonneg (u0 : 0 ≤ u) (d0 : 0 ≤ d) (a0 : 0 ≤ y1) (b0 : 0 ≤ y0) : 0 ≤ digit u d y1 y0 := by
  unfold digit
  exact Int.ediv_nonneg (by omega) (by omega)

/-- The test that the division makes tells whether q is too much. -/
theorem Dig.test (h : Dig u d y1 y0 q rh) : (digit u d y1 y0 < q ↔ 4294967296 * rh + d < q * y0) := by
  have hY : 0 < y1 * 4294967296 + y0 := by have := h.a0; have := h.b0; omega
  unfold digit
  rw [Int.ediv_lt_iff_lt_mul hY]
  have e : q * (y1 * 4294967296 + y0) = q * y1 * 4294967296 + q * y0 := by rw [Int.mul_add, ← Int.mul_assoc]
  have := h.rest
  rw [e]
  omega
theorem Dig.big (h : Dig u d y1 y0 q rh) (hq : 4294967296 ≤ q) : digit u d y1 y0 < q := by
  have := digit_lt h.u0 h.uY h.d1; omega
theorem Dig.less (h : Dig u d y1 y0 q rh) (hq : digit u d y1 y0 < q) : Dig u d y1 y0 (q - 1) (rh + y1) := by
  refine ⟨h.u0, h.uY, h.d0, h.d1, h.a0, h.a1, h.b0, h.b1, ?_, by have := h.rh0; have := h.a0; omega, by unfold digit at hq; omega, by have := h.q1; omega⟩
  have := h.rest
  rw [Int.sub_mul]; omega
/-- What is left is so much that q can't be too much any more. -/
theorem Dig.stop (h : Dig u d y1 y0 q rh) (hr : 4294967296 ≤ rh) (hq : q ≤ 4294967296) : q = digit u d y1 y0 := by
  have h1 : ¬ digit u d y1 y0 < q := by
    rw [h.test]
    have h2 : q * y0 ≤ 4294967296 * y0 := Int.mul_le_mul_of_nonneg_right hq h.b0
    have := h.b1; have := h.d0
    omega
  have := h.qQ
  unfold digit at *
  omega
theorem Dig.done (h : Dig u d y1 y0 q rh) (hq : ¬ digit u d y1 y0 < q) : q = digit u d y1 y0 := by
  have := h.qQ
  unfold digit at *
  omega
theorem Dig.prod (h : Dig u d y1 y0 q rh) (hq : q < 4294967296) (hq0 : 0 ≤ q) : 0 ≤ q * y0 ∧ q * y0 ≤ 18446744065119617025 := by
  refine ⟨Int.mul_nonneg hq0 h.b0, ?_⟩
  have h1 : q * y0 ≤ 4294967295 * y0 := Int.mul_le_mul_of_nonneg_right (by omega) h.b0
  have := h.b1
  omega
end

/-- What is left behind a digit, as words reckon it: without a carry it is right. -/
theorem wrap_left {u d Y q : Int} (h0 : 0 ≤ u * 4294967296 + d - q * Y) (h1 : u * 4294967296 + d - q * Y < 18446744073709551616) :
    IntKind.u64.wrap (IntKind.u64.wrap (IntKind.u64.wrap (u * 4294967296) + d) - IntKind.u64.wrap (q * Y)) = u * 4294967296 + d - q * Y := by
  simp only [IntKind.wrap_u64]
  omega

theorem digit_left {u d Y : Int} (hY : 0 < Y) : 0 ≤ u * 4294967296 + d - (u * 4294967296 + d) / Y * Y ∧ u * 4294967296 + d - (u * 4294967296 + d) / Y * Y < Y := by
  have h1 := Int.mul_ediv_add_emod (u * 4294967296 + d) Y
  have h2 := Int.emod_nonneg (u * 4294967296 + d) (by omega : Y ≠ 0)
  have h3 := Int.emod_lt_of_pos (u * 4294967296 + d) hY
  rw [Int.mul_comm] at h1
  omega

/-- Two digits are the quotient. -/
theorem two_digits {X y P U1 D1 D0 q1 q0 u2 : Int} (hP : 0 < P) (hy : 0 < y) (hX : X * P = (U1 * 4294967296 + D1) * 4294967296 + D0) (h1 : q1 = (U1 * 4294967296 + D1) / (y * P)) (hu2 : u2 = U1 * 4294967296 + D1 - q1 * (y * P)) (h0 : q0 = (u2 * 4294967296 + D0) / (y * P)) :
    X / y = q1 * 4294967296 + q0 ∧ X % y * P = u2 * 4294967296 + D0 - q0 * (y * P) := by
  have hYP : 0 < y * P := Int.mul_pos hy hP
  have l0 := digit_left (u := u2) (d := D0) hYP
  rw [← h0] at l0
  have key : X * P = (q1 * 4294967296 + q0) * (y * P) + (u2 * 4294967296 + D0 - q0 * (y * P)) := by
    rw [hX, hu2, Int.add_mul (q1 * 4294967296), Int.mul_right_comm q1 4294967296 (y * P)]
    omega
  have hq : X / y = X * P / (y * P) := (Int.mul_ediv_mul_of_pos_left X y hP).symm
  have hr : X % y * P = X * P % (y * P) := by rw [Int.mul_comm X P, Int.mul_comm y P, Int.mul_emod_mul_of_pos _ _ hP, Int.mul_comm]
  obtain ⟨R, hR⟩ : ∃ R, u2 * 4294967296 + D0 - q0 * (y * P) = R := ⟨_, rfl⟩
  rw [hR] at key l0 ⊢
  rw [hq, hr, key]
  have hne : y * P ≠ 0 := by omega
  refine ⟨?_, ?_⟩
  · rw [Int.add_comm, Int.add_mul_ediv_right _ _ hne, Int.ediv_eq_zero_of_lt l0.1 l0.2]; omega
  · rw [Int.add_comm, Int.add_mul_emod_self_right, Int.emod_eq_of_lt l0.1 l0.2]

end Go.Proofs.YtjhffbhjiflfeaaGreat
