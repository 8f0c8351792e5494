/-
  What the document's sums and products compute, and the program's product that stops.
-/
import Derived.Test.YtjhffbhjiflfeaaProg
import Derived.Test.YtjhffbhjiflfeaaLib
import Derived.Test.YtjhffbhjiflfeaaMul
import Derived.Test.YtjhffbhjiflfeaaRef01
import Derived.Test.YtjhffbhjiflfeaaRatioA
namespace Go.Proofs.Ytjhffbhjiflfeaa
set_option linter.unusedVariables false
set_option linter.unusedSimpArgs false
open Go.RowKit

/-- A wide number, stopped. -/
def stopW (h l : Int) : Int := if h > 0 then 4611686018427387904 else stopN l
theorem stopW_split {n : Int} (h0 : 0 ≤ n) : stopW (n / 18446744073709551616) (n % 18446744073709551616) = stopN n := by
  unfold stopW stopN
  split <;> split <;> first | rfl | omega | (split <;> omega)

theorem stopB_split {n : Int} (h0 : 0 ≤ n) : stopB (n % 18446744073709551616) (decide (0 < n / 18446744073709551616)) = stopN n := by
  rw [← stopW_split h0]
  unfold stopB stopW
  by_cases h : 0 < n / 18446744073709551616 <;> simp [h]

theorem times_any (a b : Int) (w : World) (ha : Word a) (hb : Word b) : Calls Try.prog 81 #[.int .u64 a, .int .u64 b] w fun e w' => e = .returned (.int .u64 (stopN (a * b))) ∧ Below w.heap.size w w' := by
  have H := Lib.hid (stopB_split (Int.mul_nonneg ha.1 hb.1))
  go_enter Try.func81, Try.ntmps81
  go_wp2_with fail
  refine (mul_any a b w ha hb).mono ?_
  rintro e w1 ⟨rfl, hb1⟩
  go_wp2_with fail
  refine (stopped_any _ _ _).mono ?_
  rintro e w2 ⟨rfl, rfl⟩
  go_wp2_with fail
  go_ret
  exact ⟨retInt H.out, by have s1 := hb1.size; go_grown⟩

end Go.Proofs.Ytjhffbhjiflfeaa
