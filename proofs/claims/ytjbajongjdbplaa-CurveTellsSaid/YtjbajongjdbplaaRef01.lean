/-
  What the document's wide numbers compute: the quotient by bits, the sum, the product by halves.
-/
import Derived.Test.YtjbajongjdbplaaProg
import Derived.Test.YtjbajongjdbplaaLib
import Derived.Test.YtjbajongjdbplaaMul
namespace Go.Proofs.Ytjbajongjdbplaa
set_option linter.unusedVariables false
set_option linter.unusedSimpArgs false
open Go.RowKit

/-! ### The quotient, bit by bit -/

/-- What holds ahead of round k: the quotient so far, the rest, the low word shifted. -/
def DivAt (X n : Int) (k : Nat) (r q lo : Int) : Prop :=
  0 ≤ r ∧ r < n ∧ 0 ≤ q ∧ q < 2 ^ k ∧ 0 ≤ lo ∧ lo < 18446744073709551616 ∧ (q * n + r) * 18446744073709551616 + lo = X * 2 ^ k

theorem pow2_succ (k : Nat) : (2 : Int) ^ (k + 1) = 2 * 2 ^ k := by rw [Int.pow_succ, Int.mul_comm]
theorem pow2_pos (k : Nat) : (1 : Int) ≤ 2 ^ k := by
  induction k with
  | zero => decide
  | succ k ih => rw [pow2_succ]; omega
theorem pow2_le {k m : Nat} (h : k ≤ m) : (2 : Int) ^ k ≤ 2 ^ m := by
  induction m with
  | zero => have : k = 0 := by omega
            subst this; exact Int.le_refl _
  | succ m ih =>
    rcases Nat.lt_or_ge k (m + 1) with hlt | hge
    · have := ih (by omega)
      have := pow2_pos m
      rw [pow2_succ]; omega
    · have : k = m + 1 := by omega
      subst this; exact Int.le_refl _

theorem DivAt.start {H L n : Int} (h0 : 0 ≤ H) (h1 : H < n) (l0 : 0 ≤ L) (l1 : L < 18446744073709551616) :
    DivAt (H * 18446744073709551616 + L) n 0 H 0 L := by
  refine ⟨h0, h1, by omega, by decide, l0, l1, ?_⟩
  simp

theorem DivAt.done {X n r q lo : Int} (h : DivAt X n 64 r q lo) : X / n = q ∧ X % n = r := by
  obtain ⟨h1, h2, h3, h4, h5, h6, h7⟩ := h
  have h8 : (2 : Int) ^ 64 = 18446744073709551616 := by decide
  rw [h8] at h7
  have hX : X = q * n + r := by omega
  subst hX
  have hn : n ≠ 0 := by omega
  refine ⟨?_, ?_⟩
  · rw [Int.add_comm, Int.add_mul_ediv_right _ _ hn, Int.ediv_eq_zero_of_lt h1 h2, Int.zero_add]
  · rw [Int.add_comm, Int.add_mul_emod_self_right, Int.emod_eq_of_lt h1 h2]

/-- The next quotient, the next rest. -/
theorem DivAt.more {X n r q lo : Int} {k : Nat} (h : DivAt X n k r q lo) (b : Int) (hb : b = lo / 9223372036854775808) (r' q' : Int)
    (hr : q' * n + r' = 2 * (q * n + r) + b) (h0 : 0 ≤ r') (h1 : r' < n) (hq : q' = 2 * q ∨ q' = 2 * q + 1) (lo' : Int) (hl : lo' = 2 * lo - b * 18446744073709551616) : DivAt X n (k + 1) r' q' lo' := by
  obtain ⟨a1, a2, a3, a4, a5, a6, a7⟩ := h
  rw [DivAt, pow2_succ]
  have e : X * (2 * 2 ^ k) = 2 * (X * 2 ^ k) := by rw [Int.mul_left_comm]
  refine ⟨h0, h1, by omega, by omega, by omega, by omega, ?_⟩
  rw [e, ← a7, hr, hl]
  omega

def DivQ (H L n : Int) : Int := (H * 18446744073709551616 + L) / n
def DivR (H L n : Int) : Int := (H * 18446744073709551616 + L) % n

theorem refdiv_zero (h l : Int) (w : World) : Calls Try.prog 76 #[.agg #[.int .u64 h, .int .u64 l], .int .u64 0] w fun e w' => e = .returned (.tuple #[.int .u64 0, .int .u64 0, .int .i64 2]) ∧ Below w.heap.size w w' := by
  go_enter Try.func76, Try.ntmps76
  go_wp2
  go_returns
  exact ⟨rfl, by go_grown⟩

theorem refdiv_over (h l n : Int) (w : World) (hn : 0 < n) (hh : n ≤ h) : Calls Try.prog 76 #[.agg #[.int .u64 h, .int .u64 l], .int .u64 n] w fun e w' => e = .returned (.tuple #[.int .u64 0, .int .u64 0, .int .i64 10]) ∧ Below w.heap.size w w' := by
  go_enter Try.func76, Try.ntmps76
  go_wp2
  go_returns
  exact ⟨rfl, by go_grown⟩

theorem div_same {X n r q lo : Int} {k : Nat} (h : DivAt X n k r q lo) (hk : k = 64) : q = X / n ∧ r = X % n := by
  subst hk; exact ⟨h.done.1.symm, h.done.2.symm⟩

theorem dbl0 (Q n : Int) : Q * 2 * n = 2 * (Q * n) := by rw [Int.mul_right_comm, Int.mul_comm]
theorem dbl1 (Q n : Int) : (Q * 2 + 1) * n = 2 * (Q * n) + n := by rw [Int.add_mul, dbl0]; omega
theorem wrap_dbl {lo B : Int} (h0 : 0 ≤ lo) (h1 : lo < 18446744073709551616) (hB : B = lo / 9223372036854775808) : IntKind.u64.wrap (lo * 2) = 2 * lo - B * 18446744073709551616 := by
  rw [IntKind.wrap_u64]; omega
theorem wrap_minus1 {R n B : Int} (h : n - R = R + 1) (hB : B = 1) : IntKind.u64.wrap (IntKind.u64.wrap (R - (n - R)) + B) = 0 := by
  rw [IntKind.wrap_u64, IntKind.wrap_u64]; omega

set_option maxHeartbeats 1000000 in
theorem refdiv_any (h l n : Int) (w : World) (h0 : 0 ≤ h) (hl : Word l) (hn : n < 18446744073709551616) (hh : h < n) :
    Calls Try.prog 76 #[.agg #[.int .u64 h, .int .u64 l], .int .u64 n] w fun e w' => e = .returned (.tuple #[.int .u64 (DivQ h l n), .int .u64 (DivR h l n), .int .i64 0]) ∧ Below w.heap.size w w' := by
  obtain ⟨l0, l1⟩ := hl
  have hst := DivAt.start h0 hh l0 l1
  obtain ⟨X, eX⟩ : ∃ X, X = h * 18446744073709551616 + l := ⟨_, rfl⟩
  rw [← eX] at hst
  have HX := Lib.hid eX
  clear eX
  have hn0 : 0 < n := by omega
  have e1 : (n == 0) = false := by simp; omega
  have e2 : decide (n ≤ h) = false := decide_eq_false (by omega)
  go_enter Try.func76, Try.ntmps76
  go_wp2
  go_loopg [7, 8, 9] 64 (fun g r q k wr => ∃ (K : Nat) (R Q lo : Int), K + g = 64 ∧ k = .int .i64 K ∧ r = .int .u64 R ∧ q = .int .u64 Q ∧ DivAt X n K R Q lo ∧ wr = w.alloc (.cells #[.int .u64 h, .int .u64 lo] 78))
  case atStart => exact ⟨0, h, 0, l, by omega, rfl, rfl, rfl, hst, rfl⟩
  case round =>
    obtain ⟨K, R, Q, lo, hK, rfl, rfl, rfl, hD, rfl⟩ := hrel
    have hD' := hD
    obtain ⟨d1, d2, d3, d4, d5, d6, d7⟩ := hD'
    clear d7
    by_cases hlt : K < 64
    · have p1 : (2 : Int) ^ K ≤ 2 ^ 63 := pow2_le (by omega)
      have p2 : (2 : Int) ^ 63 = 9223372036854775808 := by decide
      have d4' : Q < 9223372036854775808 := by omega
      clear p1 p2 d4
      obtain ⟨B, hB⟩ : ∃ B, lo / 9223372036854775808 = B := ⟨_, rfl⟩
      have hB0 : 0 ≤ B ∧ B ≤ 1 := by omega
      have HB := Lib.hid hB.symm
      have HD := Lib.hid hD
      clear hD
      obtain ⟨hB0, hB1⟩ := hB0
      by_cases hA : n - R ≤ R
      · go_wp2
        go_roundg (gk - 1)
        case rel => exact ⟨K + 1, R - (n - R) + B, Q * 2 + 1, _, by omega, by go_num, rfl, rfl, HD.out.more B HB.out _ _ (by rw [dbl1]; omega) (by omega) (by omega) (.inr (by omega)) _ (wrap_dbl d5 d6 HB.out), rfl⟩
        case measure => omega
      · by_cases hC : n - R ≤ R + 1 ∧ B = 1
        · obtain ⟨hC1, hC2⟩ := hC
          have HC2 := Lib.hid hC2
          subst hC2
          have hC3 : R < n - R := by omega
          clear hA
          go_wp2
          go_roundg (gk - 1)
          case rel => exact ⟨K + 1, _, Q * 2 + 1, _, by omega, by go_num, rfl, rfl, HD.out.more 1 HB.out _ _ (by rw [dbl1, wrap_minus1 (by omega) rfl]; omega) (by rw [wrap_minus1 (by omega) rfl]; omega) (by rw [wrap_minus1 (by omega) rfl]; omega) (.inr (by omega)) _ (wrap_dbl d5 d6 HB.out), rfl⟩
          case measure => omega
        · have hC3 : R < n - R := by omega
          have hC5 : 2 * R + B < n := by
            by_cases h : n - R ≤ R + 1
            · have : B ≠ 1 := fun e => hC ⟨h, e⟩
              omega
            · omega
          by_cases hC6 : n - R ≤ R + 1
          · have hB2 : B = 0 := by
              have : B ≠ 1 := fun e => hC ⟨hC6, e⟩
              omega
            clear hA hC
            subst hB2
            go_wp2
            go_roundg (gk - 1)
            case rel => exact ⟨K + 1, 2 * R, Q * 2, lo * 2, by omega, by go_num, rfl, rfl, HD.out.more 0 HB.out _ _ (by rw [dbl0]; omega) (by omega) (by omega) (.inl (by omega)) _ (by omega), rfl⟩
            case measure => omega
          · clear hA hC
            go_wp2
            go_roundg (gk - 1)
            case rel => exact ⟨K + 1, 2 * R + B, Q * 2, _, by omega, by go_num, rfl, rfl, HD.out.more B HB.out _ _ (by rw [dbl0]; omega) (by omega) (by omega) (.inl (by omega)) _ (wrap_dbl d5 d6 HB.out), rfl⟩
            case measure => omega
    · have : K = 64 := by omega
      subst this
      have HD := Lib.hid hD
      clear hD d4
      go_wp2
      go_returns
      obtain ⟨f1, f2⟩ := HD.out.done
      have g1 : DivQ h l n = Q := by unfold DivQ; rw [← HX.out, f1]
      have g2 : DivR h l n = R := by unfold DivR; rw [← HX.out, f2]
      rw [g1, g2]
      exact ⟨rfl, by go_grown⟩

end Go.Proofs.Ytjbajongjdbplaa
