/-
  math/bits at this dump: the length of a word by the library's proved contract, sums and differences with carries by the model's entries.
-/
import Derived.Shelf.Small.Bits
import Derived.Shelf.Strconv.Itoa0
import Derived.Shelf.Spec.BitsCarry
import Derived.Lib.ItoaNum
import Derived.Test.YtjhffbhjiflfeaaGreatProg
import Derived.Test.YtjhffbhjiflfeaaGreatLib2
namespace Go.Proofs.YtjhffbhjiflfeaaGreat
set_option linter.unusedVariables false
set_option linter.unusedSimpArgs false
open Go.RowKit Go.Shelf

def lzRen : Go.Shelf.Ren := ⟨fun | 134 => 128 | 129 => 81 | n => n, fun | 53 => 28 | 3 => 3 | 4 => 4 | 46 => 115 | 5 => 5 | 9 => 9 | n => n, fun | n => n⟩
theorem lzLays : Go.Proofs.Lays.n134 Tryz.prog lzRen := {
  mixed := by kernel_rfl
  f129 := Tryz.func81.trans (congrArg some (by kernel_rfl))
  f134 := Tryz.func128.trans (congrArg some (by kernel_rfl))
  t3 := Tryz.underlying3
  a3 := Tryz.isAgg3
  z3 := Tryz.sizeOf3
  v3 := Tryz.zeroValue3
  t4 := Tryz.underlying4
  a4 := Tryz.isAgg4
  z4 := Tryz.sizeOf4
  v4 := Tryz.zeroValue4
  t5 := Tryz.underlying5
  a5 := Tryz.isAgg5
  z5 := Tryz.sizeOf5
  v5 := Tryz.zeroValue5
  t9 := Tryz.underlying9
  a9 := Tryz.isAgg9
  z9 := Tryz.sizeOf9
  v9 := Tryz.zeroValue9
  t46 := Tryz.underlying115
  a46 := Tryz.isAgg115
  z46 := Tryz.sizeOf115
  v46 := Tryz.zeroValue115
  t53 := Tryz.underlying28
  a53 := Tryz.isAgg28
  z53 := Tryz.sizeOf28
  v53 := Tryz.zeroValue28 }
theorem lz_any (x : Int) (w : World) (h : Word x) : Calls Tryz.prog 128 #[.int .u64 x] w fun e w' => e = .returned (.int .i64 (64 - (Lib.bitLen x.toNat : Int))) ∧ w = w' :=
  (Any.bits_LeadingZeros64 lzLays x w h.1 (by have := h.2; omega)).mono fun _ _ ⟨a, b⟩ => ⟨a, b.symm⟩

/-- How far a word that isn't 0 may be moved up. -/
theorem lz_spec (x : Int) (h0 : 0 < x) (h1 : x < 18446744073709551616) : ∃ s : Nat, s < 64 ∧ 64 - (Lib.bitLen x.toNat : Int) = s ∧ 9223372036854775808 ≤ x * 2 ^ s ∧ x * 2 ^ s < 18446744073709551616 := by
  obtain ⟨n, rfl⟩ := Int.eq_ofNat_of_zero_le (Int.le_of_lt h0)
  rw [Int.toNat_natCast]
  have hb := Lib.bitLenAux_bounds 64 n (by omega) (by omega)
  have hle := Lib.bitLen_le n 64 (by omega) (by omega)
  have e : Lib.bitLen n = Lib.bitLenAux 64 n := rfl
  rw [← e] at hb
  obtain ⟨b1, b2, b3⟩ := hb
  refine ⟨64 - Lib.bitLen n, by omega, by omega, ?_, ?_⟩
  · have h2 : 2 ^ (Lib.bitLen n - 1) * 2 ^ (64 - Lib.bitLen n) ≤ n * 2 ^ (64 - Lib.bitLen n) := Nat.mul_le_mul_right _ b2
    rw [← Nat.pow_add, show Lib.bitLen n - 1 + (64 - Lib.bitLen n) = 63 by omega, show (2 : Nat) ^ 63 = 9223372036854775808 from rfl] at h2
    have h3 := Int.ofNat_le.2 h2
    rw [Int.natCast_mul, Int.natCast_pow] at h3
    exact h3
  · have h2 : n * 2 ^ (64 - Lib.bitLen n) < 2 ^ Lib.bitLen n * 2 ^ (64 - Lib.bitLen n) := Nat.mul_lt_mul_of_pos_right b3 (Nat.two_pow_pos _)
    rw [← Nat.pow_add, show Lib.bitLen n + (64 - Lib.bitLen n) = 64 by omega, show (2 : Nat) ^ 64 = 18446744073709551616 from rfl] at h2
    have h3 := Int.ofNat_lt.2 h2
    rw [Int.natCast_mul, Int.natCast_pow] at h3
    exact h3

end Go.Proofs.YtjhffbhjiflfeaaGreat
