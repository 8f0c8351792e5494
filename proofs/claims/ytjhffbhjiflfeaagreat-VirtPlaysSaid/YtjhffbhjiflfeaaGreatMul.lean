/-
  wide.Mul multiplies: the two words of a product.
-/
import Derived.Test.YtjhffbhjiflfeaaGreatProg
import Derived.Test.YtjhffbhjiflfeaaGreatLib
namespace Go.Proofs.YtjhffbhjiflfeaaGreat
set_option linter.unusedVariables false
set_option linter.unusedSimpArgs false
open Go.RowKit

theorem u64_low32 (z : Int) : bits .and .u64 z 4294967295 = z % 4294967296 := by
  have h : (BitVec.ofInt 64 4294967295).toNat = 2 ^ 32 - 1 := by decide
  have key : (BitVec.ofInt 64 z &&& BitVec.ofInt 64 4294967295).toNat = (z % ((2 ^ 64 : Nat) : Int)).toNat % 2 ^ 32 := by
    rw [BitVec.toNat_and, BitVec.toNat_ofInt, h, Nat.and_two_pow_sub_one_eq_mod]
  show IntKind.u64.wrap ((BitVec.ofInt 64 z &&& BitVec.ofInt 64 4294967295).toNat : Nat) = z % 4294967296
  rw [key, IntKind.wrap_u64]
  omega

theorem u64_join32 (p q : Int) (hp0 : 0 ≤ p) (hp : p < 4294967296) (hq0 : 0 ≤ q) (hq : q < 4294967296) : bits .or .u64 (p * 4294967296) q = p * 4294967296 + q := by
  rw [u64_or _ _ (by omega) (by omega) hq0 (by omega), nat_join 32 _ _ (by omega) (by omega)]
  omega

theorem prod_bounds {x y : Int} (hx0 : 0 ≤ x) (hx : x < 4294967296) (hy0 : 0 ≤ y) (hy : y < 4294967296) : 0 ≤ x * y ∧ x * y ≤ 18446744065119617025 := by
  refine ⟨Int.mul_nonneg hx0 hy0, ?_⟩
  have h1 : x * y ≤ 4294967295 * y := Int.mul_le_mul_of_nonneg_right (by omega) hy0
  omega

theorem mul_halves (a b : Int) : a * b = (a / 4294967296) * (b / 4294967296) * 18446744073709551616 + ((a / 4294967296) * (b % 4294967296) + (a % 4294967296) * (b / 4294967296)) * 4294967296 + (a % 4294967296) * (b % 4294967296) := by
  have ha : a = 4294967296 * (a / 4294967296) + a % 4294967296 := (Int.mul_ediv_add_emod a 4294967296).symm
  have hb : b = 4294967296 * (b / 4294967296) + b % 4294967296 := (Int.mul_ediv_add_emod b 4294967296).symm
  generalize a / 4294967296 = x1 at *
  generalize a % 4294967296 = x0 at *
  generalize b / 4294967296 = y1 at *
  generalize b % 4294967296 = y0 at *
  subst ha hb
  have e1 : (4294967296 * x1 + x0) * (4294967296 * y1 + y0) = 4294967296 * (4294967296 * (x1 * y1)) + 4294967296 * (x1 * y0) + (4294967296 * (x0 * y1) + x0 * y0) := by
    rw [Int.add_mul, Int.mul_add, Int.mul_add, Int.mul_assoc, Int.mul_assoc, Int.mul_left_comm x1 4294967296 y1, Int.mul_left_comm x0 4294967296 y1]
  rw [e1]
  omega

set_option maxHeartbeats 1000000 in
theorem mul_any (a b : Int) (w : World) (ha : Word a) (hb : Word b) : Calls Tryz.prog 125 #[.int .u64 a, .int .u64 b] w fun e w' => e = .returned (.agg #[.int .u64 (a * b / 18446744073709551616), .int .u64 (a * b % 18446744073709551616)]) ∧ Below w.heap.size w w' := by
  obtain ⟨a0, a1⟩ := ha; obtain ⟨b0, b1⟩ := hb
  have hm := mul_halves a b
  have hand := u64_low32
  obtain ⟨x0, hx0⟩ : ∃ x, a % 4294967296 = x := ⟨_, rfl⟩
  obtain ⟨x1, hx1⟩ : ∃ x, a / 4294967296 = x := ⟨_, rfl⟩
  obtain ⟨y0, hy0⟩ : ∃ x, b % 4294967296 = x := ⟨_, rfl⟩
  obtain ⟨y1, hy1⟩ : ∃ x, b / 4294967296 = x := ⟨_, rfl⟩
  rw [hx0, hx1, hy0, hy1] at hm
  have bx0 : 0 ≤ x0 ∧ x0 < 4294967296 := by omega
  have bx1 : 0 ≤ x1 ∧ x1 < 4294967296 := by omega
  have by0 : 0 ≤ y0 ∧ y0 < 4294967296 := by omega
  have by1 : 0 ≤ y1 ∧ y1 < 4294967296 := by omega
  obtain ⟨p1, p2⟩ := prod_bounds bx0.1 bx0.2 by0.1 by0.2
  obtain ⟨p3, p4⟩ := prod_bounds bx0.1 bx0.2 by1.1 by1.2
  obtain ⟨p5, p6⟩ := prod_bounds bx1.1 bx1.2 by0.1 by0.2
  obtain ⟨p7, p8⟩ := prod_bounds bx1.1 bx1.2 by1.1 by1.2
  obtain ⟨c1, hc1⟩ : ∃ x, x0 * y0 / 4294967296 = x := ⟨_, rfl⟩
  obtain ⟨r1, hr1⟩ : ∃ x, x0 * y0 % 4294967296 = x := ⟨_, rfl⟩
  have k1 : 0 ≤ c1 ∧ c1 ≤ 4294967294 ∧ 0 ≤ r1 ∧ r1 < 4294967296 := by omega
  obtain ⟨k11, k12, k13, k14⟩ := k1
  obtain ⟨c2, hc2⟩ : ∃ x, (x0 * y1 + c1) / 4294967296 = x := ⟨_, rfl⟩
  obtain ⟨r2, hr2⟩ : ∃ x, (x0 * y1 + c1) % 4294967296 = x := ⟨_, rfl⟩
  have k2 : 0 ≤ c2 ∧ c2 ≤ 4294967294 ∧ 0 ≤ r2 ∧ r2 < 4294967296 := by omega
  obtain ⟨k21, k22, k23, k24⟩ := k2
  obtain ⟨c3, hc3⟩ : ∃ x, (x1 * y0 + r2) / 4294967296 = x := ⟨_, rfl⟩
  obtain ⟨r3, hr3⟩ : ∃ x, (x1 * y0 + r2) % 4294967296 = x := ⟨_, rfl⟩
  have k3 : 0 ≤ c3 ∧ c3 < 4294967296 ∧ 0 ≤ r3 ∧ r3 < 4294967296 := by omega
  obtain ⟨k31, k32, k33, k34⟩ := k3
  obtain ⟨c4, hc4⟩ : ∃ x, (x1 * y1 + c2 + c3) / 4294967296 = x := ⟨_, rfl⟩
  obtain ⟨r4, hr4⟩ : ∃ x, (x1 * y1 + c2 + c3) % 4294967296 = x := ⟨_, rfl⟩
  have k4 : 0 ≤ c4 ∧ c4 < 4294967296 ∧ 0 ≤ r4 ∧ r4 < 4294967296 := by omega
  obtain ⟨k41, k42, k43, k44⟩ := k4
  have H1 : Hid (c4 * 4294967296 + r4 = a * b / 18446744073709551616) := by unfold Hid; omega
  have H2 : Hid (r3 * 4294967296 + r1 = a * b % 18446744073709551616) := by unfold Hid; omega
  have j1 := u64_join32 c4 r4 k41 k42 k43 k44
  have j2 := u64_join32 r3 r1 k33 k34 k13 k14
  clear hm bx0 bx1 by0 by1
  go_enter Tryz.func125, Tryz.ntmps125
  go_wp2_with (fail)
  refine wp_loop_rounds 3 ?_
  rw [rounds_succ]
  go_wp2_with (fail)
  (refine wp_loop_rounds 3 ?_; rw [rounds_succ]; go_wp2_with (fail); go_quiet (fail); go_wp2_with (fail); rw [rounds_succ]; go_wp2_with (fail); go_quiet (fail); go_wp2_with (fail); rw [rounds_succ]; go_wp2_with (fail))
  rw [rounds_succ]
  go_wp2_with (fail)
  (refine wp_loop_rounds 3 ?_; rw [rounds_succ]; go_wp2_with (fail); go_quiet (fail); go_wp2_with (fail); rw [rounds_succ]; go_wp2_with (fail); go_quiet (fail); go_wp2_with (fail); rw [rounds_succ]; go_wp2_with (fail))
  rw [rounds_succ]
  go_upto_region 15 with (fail)
  clear hc1 hr1 hc2 hr2 hc3 hr3 hc4 hr4 hx0 hx1 hy0 hy1 p1 p2 p3 p4 p5 p6 p7 p8 hand
  go_wp2_with (fail)
  go_returns
  exact ⟨by rw [H1.out, H2.out], below_drewN' (by go_grown) _⟩

end Go.Proofs.YtjhffbhjiflfeaaGreat
