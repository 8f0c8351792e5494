/-
  What the document's wide numbers compute: the quotient by bits, the sum, the product by halves.
-/
import Derived.Test.YtjhffbhjiflfeaaGreatProg
import Derived.Test.YtjhffbhjiflfeaaGreatLib
import Derived.Test.YtjhffbhjiflfeaaGreatMul
namespace Go.Proofs.YtjhffbhjiflfeaaGreat
set_option linter.unusedVariables false
set_option linter.unusedSimpArgs false
open Go.RowKit

/-! ### The quotient, bit by bit -/

/-- What holds ahead of round k: the quotient so far, the rest, the low word shifted. -/
def DivAt (X n : Int) (k : Nat) (r q lo : Int) : Prop :=
  0 ≤ r ∧ r < n ∧ 0 ≤ q ∧ q < 2 ^ k ∧ 0 ≤ lo ∧ lo < 18446744073709551616 ∧ (q * n + r) * 18446744073709551616 + lo = X * 2 ^ k

theorem pow2_succ (k : Nat) : (2 : Int) ^ (k + 1) = 2 * 2 ^ k := by rw [Int.pow_succ, Int.mul_comm]
theorem pow2_pos (k : Nat) : (1 : Int) ≤ 2 ^ k := by
  induction k with
  | zero => decide
  | succ k ih => rw [pow2_succ]; omega
theorem pow2_le {k m : Nat} (h : k ≤ m) : (2 : Int) ^ k ≤ 2 ^ m := by
  induction m with
  | zero => have : k = 0 := by omega
            subst this; exact Int.le_refl _
  | succ m ih =>
    rcases Nat.lt_or_ge k (m + 1) with hlt | hge
    · have := ih (by omega)
      have := pow2_pos m
      rw [pow2_succ]; omega
    · have : k = m + 1 := by omega
      subst this; exact Int.le_refl _

theorem DivAt.start {H L n : Int} (h0 : 0 ≤ H) (h1 : H < n) (l0 : 0 ≤ L) (l1 : L < 18446744073709551616) :
    DivAt (H * 18446744073709551616 + L) n 0 H 0 L := by
  refine ⟨h0, h1, by omega, by decide, l0, l1, ?_⟩
  simp

theorem DivAt.done {X n r q lo : Int} (h : DivAt X n 64 r q lo) : X / n = q ∧ X % n = r := by
  obtain ⟨h1, h2, h3, h4, h5, h6, h7⟩ := h
  have h8 : (2 : Int) ^ 64 = 18446744073709551616 := by decide
  rw [h8] at h7
  have hX : X = q * n + r := by omega
  subst hX
  have hn : n ≠ 0 := by omega
  refine ⟨?_, ?_⟩
  · rw [Int.add_comm, Int.add_mul_ediv_right _ _ hn, Int.ediv_eq_zero_of_lt h1 h2, Int.zero_add]
  · rw [Int.add_comm, Int.add_mul_emod_self_right, Int.emod_eq_of_lt h1 h2]

/-- The next quotient, the next rest. -/
theorem DivAt.more {X n r q lo : Int} {k : Nat} (h : DivAt X n k r q lo) (b : Int) (hb : b = lo / 9223372036854775808) (r' q' : Int)
    (hr : q' * n + r' = 2 * (q * n + r) + b) (h0 : 0 ≤ r') (h1 : r' < n) (hq : q' = 2 * q ∨ q' = 2 * q + 1) (lo' : Int) (hl : lo' = 2 * lo - b * 18446744073709551616) : DivAt X n (k + 1) r' q' lo' := by
  obtain ⟨a1, a2, a3, a4, a5, a6, a7⟩ := h
  rw [DivAt, pow2_succ]
  have e : X * (2 * 2 ^ k) = 2 * (X * 2 ^ k) := by rw [Int.mul_left_comm]
  refine ⟨h0, h1, by omega, by omega, by omega, by omega, ?_⟩
  rw [e, ← a7, hr, hl]
  omega

def DivQ (H L n : Int) : Int := (H * 18446744073709551616 + L) / n
def DivR (H L n : Int) : Int := (H * 18446744073709551616 + L) % n

theorem div_same {X n r q lo : Int} {k : Nat} (h : DivAt X n k r q lo) (hk : k = 64) : q = X / n ∧ r = X % n := by
  subst hk; exact ⟨h.done.1.symm, h.done.2.symm⟩

theorem dbl0 (Q n : Int) : Q * 2 * n = 2 * (Q * n) := by rw [Int.mul_right_comm, Int.mul_comm]
theorem dbl1 (Q n : Int) : (Q * 2 + 1) * n = 2 * (Q * n) + n := by rw [Int.add_mul, dbl0]; omega
theorem wrap_dbl {lo B : Int} (h0 : 0 ≤ lo) (h1 : lo < 18446744073709551616) (hB : B = lo / 9223372036854775808) : IntKind.u64.wrap (lo * 2) = 2 * lo - B * 18446744073709551616 := by
  rw [IntKind.wrap_u64]; omega
theorem wrap_minus1 {R n B : Int} (h : n - R = R + 1) (hB : B = 1) : IntKind.u64.wrap (IntKind.u64.wrap (R - (n - R)) + B) = 0 := by
  rw [IntKind.wrap_u64, IntKind.wrap_u64]; omega

end Go.Proofs.YtjhffbhjiflfeaaGreat

/-!
  What the document's sums and products of wide numbers compute.
-/
namespace Go.Proofs.YtjhffbhjiflfeaaGreat
set_option linter.unusedVariables false
set_option linter.unusedSimpArgs false
open Go.RowKit

/-- The document's product, by halves. -/
theorem refmul_plain (a b : Int) (ha : Word a) (hb : Word b) :
    ∃ x0 x1 y0 y1 : Int, a % 4294967296 = x0 ∧ a / 4294967296 = x1 ∧ b % 4294967296 = y0 ∧ b / 4294967296 = y1 ∧
      (0 ≤ x0 * y0 ∧ x0 * y0 ≤ 18446744065119617025) ∧ (0 ≤ x0 * y1 ∧ x0 * y1 ≤ 18446744065119617025) ∧ (0 ≤ x1 * y0 ∧ x1 * y0 ≤ 18446744065119617025) ∧ (0 ≤ x1 * y1 ∧ x1 * y1 ≤ 18446744065119617025) ∧
      (a * b = x1 * y1 * 18446744073709551616 + (x1 * y0 + x0 * y1) * 4294967296 + x0 * y0) ∧ (0 ≤ a * b ∧ a * b ≤ 340282366920938463426481119284349108225) := by
  obtain ⟨a0, a1⟩ := ha; obtain ⟨b0, b1⟩ := hb
  have hm := mul_halves a b
  have bx0 : 0 ≤ a % 4294967296 ∧ a % 4294967296 < 4294967296 := by omega
  have bx1 : 0 ≤ a / 4294967296 ∧ a / 4294967296 < 4294967296 := by omega
  have by0 : 0 ≤ b % 4294967296 ∧ b % 4294967296 < 4294967296 := by omega
  have by1 : 0 ≤ b / 4294967296 ∧ b / 4294967296 < 4294967296 := by omega
  refine ⟨_, _, _, _, rfl, rfl, rfl, rfl, prod_bounds bx0.1 bx0.2 by0.1 by0.2, prod_bounds bx0.1 bx0.2 by1.1 by1.2, prod_bounds bx1.1 bx1.2 by0.1 by0.2, prod_bounds bx1.1 bx1.2 by1.1 by1.2, hm, Int.mul_nonneg a0 b0, ?_⟩
  have h1 : a * b ≤ 18446744073709551615 * b := Int.mul_le_mul_of_nonneg_right (by omega) b0
  omega

set_option maxHeartbeats 1000000 in
theorem refmul_any (a b : Int) (w : World) (ha : Word a) (hb : Word b) : Calls Tryz.prog 94 #[.int .u64 a, .int .u64 b] w fun e w' => e = .returned (.agg #[.int .u64 (a * b / 18446744073709551616), .int .u64 (a * b % 18446744073709551616)]) ∧ Below w.heap.size w w' := by
  obtain ⟨x0, x1, y0, y1, hx0, hx1, hy0, hy1, ⟨p1, p2⟩, ⟨p3, p4⟩, ⟨p5, p6⟩, ⟨p7, p8⟩, hm, _, _⟩ := refmul_plain a b ha hb
  obtain ⟨a0, a1⟩ := ha; obtain ⟨b0, b1⟩ := hb
  obtain ⟨q00, hq00⟩ : ∃ x, x0 * y0 = x := ⟨_, rfl⟩
  obtain ⟨q01, hq01⟩ : ∃ x, x0 * y1 = x := ⟨_, rfl⟩
  obtain ⟨q10, hq10⟩ : ∃ x, x1 * y0 = x := ⟨_, rfl⟩
  obtain ⟨q11, hq11⟩ : ∃ x, x1 * y1 = x := ⟨_, rfl⟩
  rw [hq00] at p1 p2 hm; rw [hq01] at p3 p4 hm; rw [hq10] at p5 p6 hm; rw [hq11] at p7 p8 hm
  have g : 0 ≤ a * b ∧ a * b < 340282366920938463463374607431768211456 := ⟨Int.mul_nonneg a0 b0, by
    have h1 : a * b ≤ 18446744073709551615 * b := Int.mul_le_mul_of_nonneg_right (by omega) b0
    omega⟩
  have k0 : q11 + q10 / 4294967296 + q01 / 4294967296 + (q00 / 4294967296 + q10 % 4294967296 + q01 % 4294967296) / 4294967296 < 18446744073709551616 := by omega
  have H1 : Hid (q11 + q10 / 4294967296 + q01 / 4294967296 + (q00 / 4294967296 + q10 % 4294967296 + q01 % 4294967296) / 4294967296 = a * b / 18446744073709551616) := by unfold Hid; omega
  have H2 : Hid ((q00 / 4294967296 + q10 % 4294967296 + q01 % 4294967296) % 4294967296 * 4294967296 + q00 % 4294967296 = a * b % 18446744073709551616) := by unfold Hid; omega
  clear hm g
  go_enter Tryz.func94, Tryz.ntmps94
  go_wp2
  go_returns
  exact ⟨retWide (by have := H1.out; omega) (by have := H2.out; omega), by go_grown⟩

/-- The document's sum of two wide numbers. -/
def plusH (h1 l1 h2 l2 : Int) : Int := if (h1 + h2) * 18446744073709551616 + l1 + l2 ≥ 340282366920938463463374607431768211456 then 0 else ((h1 + h2) * 18446744073709551616 + l1 + l2) / 18446744073709551616
def plusL (h1 l1 h2 l2 : Int) : Int := if (h1 + h2) * 18446744073709551616 + l1 + l2 ≥ 340282366920938463463374607431768211456 then 0 else (l1 + l2) % 18446744073709551616
def plusE (h1 l1 h2 l2 : Int) : Int := if (h1 + h2) * 18446744073709551616 + l1 + l2 ≥ 340282366920938463463374607431768211456 then 10 else 0

theorem retWideE {k j : IntKind} {a b c d e f : Int} (h : a = c) (h' : b = d) (h'' : e = f) : Ending.returned (.tuple #[.agg #[.int k a, .int k b], .int j e]) = .returned (.tuple #[.agg #[.int k c, .int k d], .int j f]) := by rw [h, h', h'']

set_option maxHeartbeats 1000000 in
theorem refplus_any (h1 l1 h2 l2 : Int) (w : World) (a1 : Word h1) (a2 : Word l1) (a3 : Word h2) (a4 : Word l2) :
    Calls Tryz.prog 92 #[.agg #[.int .u64 h1, .int .u64 l1], .agg #[.int .u64 h2, .int .u64 l2]] w fun e w' => e = .returned (.tuple #[.agg #[.int .u64 (plusH h1 l1 h2 l2), .int .u64 (plusL h1 l1 h2 l2)], .int .i64 (plusE h1 l1 h2 l2)]) ∧ Below w.heap.size w w' := by
  obtain ⟨x1, x2⟩ := a1; obtain ⟨x3, x4⟩ := a2; obtain ⟨x5, x6⟩ := a3; obtain ⟨x7, x8⟩ := a4
  have cases : (l1 + l2 < 18446744073709551616 ∧ h1 + h2 < 18446744073709551616) ∨ (l1 + l2 < 18446744073709551616 ∧ 18446744073709551616 ≤ h1 + h2) ∨
      (18446744073709551616 ≤ l1 + l2 ∧ h1 + h2 + 1 < 18446744073709551616) ∨ (18446744073709551616 ≤ l1 + l2 ∧ 18446744073709551616 ≤ h1 + h2) ∨
      (18446744073709551616 ≤ l1 + l2 ∧ h1 + h2 < 18446744073709551616 ∧ 18446744073709551616 ≤ h1 + h2 + 1) := by omega
  rcases cases with ⟨k1, k2⟩ | ⟨k1, k2⟩ | ⟨k1, k2⟩ | ⟨k1, k2⟩ | ⟨k1, k2, k3⟩
  · have EH : Hid (plusH h1 l1 h2 l2 = h1 + h2) := by unfold Hid plusH; split <;> omega
    have EL : Hid (plusL h1 l1 h2 l2 = l1 + l2) := by unfold Hid plusL; split <;> omega
    have EE : Hid (plusE h1 l1 h2 l2 = 0) := by unfold Hid plusE; split <;> omega
    rw [EH.out, EL.out, EE.out]
    go_enter Tryz.func92, Tryz.ntmps92
    go_wp2
    go_returns
    exact ⟨rfl, by go_grown⟩
  · obtain ⟨hi, hhi⟩ : ∃ x, IntKind.u64.wrap (h1 + h2) = x := ⟨_, rfl⟩
    have wh : hi = h1 + h2 - 18446744073709551616 := by rw [← hhi, IntKind.wrap_u64]; omega
    have wh1 : 0 ≤ hi := by omega
    have wh2 : hi < h1 := by omega
    have wh3 : hi < 18446744073709551615 := by omega
    have EH : Hid (plusH h1 l1 h2 l2 = 0) := by unfold Hid plusH; split <;> omega
    have EL : Hid (plusL h1 l1 h2 l2 = 0) := by unfold Hid plusL; split <;> omega
    have EE : Hid (plusE h1 l1 h2 l2 = 10) := by unfold Hid plusE; split <;> omega
    clear wh
    rw [EH.out, EL.out, EE.out]
    go_enter Tryz.func92, Tryz.ntmps92
    go_wp2
    go_returns
    exact ⟨rfl, by go_grown⟩
  · obtain ⟨lo, hlo⟩ : ∃ x, IntKind.u64.wrap (l1 + l2) = x := ⟨_, rfl⟩
    have wl : lo = l1 + l2 - 18446744073709551616 := by rw [← hlo, IntKind.wrap_u64]; omega
    have wl1 : 0 ≤ lo := by omega
    have wl2 : lo < l1 := by omega
    have ez : (h1 + h2 + 1 == 0) = false := beq_eq_false_iff_ne.2 (by omega)
    have EH : Hid (plusH h1 l1 h2 l2 = h1 + h2 + 1) := by unfold Hid plusH; split <;> omega
    have EL : Hid (plusL h1 l1 h2 l2 = lo) := by unfold Hid plusL; split <;> omega
    have EE : Hid (plusE h1 l1 h2 l2 = 0) := by unfold Hid plusE; split <;> omega
    clear wl
    rw [EH.out, EL.out, EE.out]
    go_enter Tryz.func92, Tryz.ntmps92
    go_wp2
    go_returns
    exact ⟨rfl, by go_grown⟩
  · obtain ⟨lo, hlo⟩ : ∃ x, IntKind.u64.wrap (l1 + l2) = x := ⟨_, rfl⟩
    have wl : lo = l1 + l2 - 18446744073709551616 := by rw [← hlo, IntKind.wrap_u64]; omega
    have wl1 : 0 ≤ lo := by omega
    have wl2 : lo < l1 := by omega
    obtain ⟨hi, hhi⟩ : ∃ x, IntKind.u64.wrap (h1 + h2) = x := ⟨_, rfl⟩
    have wh : hi = h1 + h2 - 18446744073709551616 := by rw [← hhi, IntKind.wrap_u64]; omega
    have wh1 : 0 ≤ hi := by omega
    have wh2 : hi < h1 := by omega
    have wh3 : hi < 18446744073709551615 := by omega
    have EH : Hid (plusH h1 l1 h2 l2 = 0) := by unfold Hid plusH; split <;> omega
    have EL : Hid (plusL h1 l1 h2 l2 = 0) := by unfold Hid plusL; split <;> omega
    have EE : Hid (plusE h1 l1 h2 l2 = 10) := by unfold Hid plusE; split <;> omega
    clear wl wh
    rw [EH.out, EL.out, EE.out]
    go_enter Tryz.func92, Tryz.ntmps92
    go_wp2
    go_returns
    exact ⟨rfl, by go_grown⟩
  · obtain ⟨lo, hlo⟩ : ∃ x, IntKind.u64.wrap (l1 + l2) = x := ⟨_, rfl⟩
    have wl : lo = l1 + l2 - 18446744073709551616 := by rw [← hlo, IntKind.wrap_u64]; omega
    have wl1 : 0 ≤ lo := by omega
    have wl2 : lo < l1 := by omega
    have wz : IntKind.u64.wrap (h1 + h2 + 1) = 0 := by rw [IntKind.wrap_u64]; omega
    have EH : Hid (plusH h1 l1 h2 l2 = 0) := by unfold Hid plusH; split <;> omega
    have EL : Hid (plusL h1 l1 h2 l2 = 0) := by unfold Hid plusL; split <;> omega
    have EE : Hid (plusE h1 l1 h2 l2 = 10) := by unfold Hid plusE; split <;> omega
    clear wl
    rw [EH.out, EL.out, EE.out]
    go_enter Tryz.func92, Tryz.ntmps92
    go_wp2
    go_returns
    exact ⟨rfl, by go_grown⟩

end Go.Proofs.YtjhffbhjiflfeaaGreat
