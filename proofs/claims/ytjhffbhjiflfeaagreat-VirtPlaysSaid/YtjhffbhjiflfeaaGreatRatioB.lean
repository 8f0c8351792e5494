/-
  What the document's sums and products compute, and the program's product that stops.
-/
import Derived.Test.YtjhffbhjiflfeaaGreatProg
import Derived.Test.YtjhffbhjiflfeaaGreatLib
import Derived.Test.YtjhffbhjiflfeaaGreatMul
import Derived.Test.YtjhffbhjiflfeaaGreatRef01
import Derived.Test.YtjhffbhjiflfeaaGreatRatioA
namespace Go.Proofs.YtjhffbhjiflfeaaGreat
set_option linter.unusedVariables false
set_option linter.unusedSimpArgs false
open Go.RowKit

/-- A wide number, stopped. -/
def stopW (h l : Int) : Int := if h > 0 then 4611686018427387904 else stopN l
theorem refstop_any (h l : Int) (w : World) : Calls Tryz.prog 82 #[.agg #[.int .u64 h, .int .u64 l]] w fun e w' => e = .returned (.int .u64 (stopW h l)) ∧ Below w.heap.size w w' := by
  by_cases hh : 0 < h
  · go_enter Tryz.func82, Tryz.ntmps82
    go_wp2
    go_ret
    exact ⟨retInt (by unfold stopW; rw [if_pos hh]), by go_grown⟩
  · have h2 : h ≤ 0 := by omega
    by_cases hl : 4611686018427387904 < l
    · go_enter Tryz.func82, Tryz.ntmps82
      go_wp2
      go_ret
      exact ⟨retInt (by unfold stopW stopN; rw [if_neg (by omega), if_pos hl]), by go_grown⟩
    · have hl2 : l ≤ 4611686018427387904 := by omega
      go_enter Tryz.func82, Tryz.ntmps82
      go_wp2
      go_ret
      exact ⟨retInt (by unfold stopW stopN; rw [if_neg (by omega), if_neg (by omega)]), by go_grown⟩

theorem stopW_split {n : Int} (h0 : 0 ≤ n) : stopW (n / 18446744073709551616) (n % 18446744073709551616) = stopN n := by
  unfold stopW stopN
  split <;> split <;> first | rfl | omega | (split <;> omega)

theorem stopB_split {n : Int} (h0 : 0 ≤ n) : stopB (n % 18446744073709551616) (decide (0 < n / 18446744073709551616)) = stopN n := by
  rw [← stopW_split h0]
  unfold stopB stopW
  by_cases h : 0 < n / 18446744073709551616 <;> simp [h]

theorem times_any (a b : Int) (w : World) (ha : Word a) (hb : Word b) : Calls Tryz.prog 121 #[.int .u64 a, .int .u64 b] w fun e w' => e = .returned (.int .u64 (stopN (a * b))) ∧ Below w.heap.size w w' := by
  have H := Lib.hid (stopB_split (Int.mul_nonneg ha.1 hb.1))
  go_enter Tryz.func121, Tryz.ntmps121
  go_wp2_with fail
  refine (mul_any a b w ha hb).mono ?_
  rintro e w1 ⟨rfl, hb1⟩
  go_wp2_with fail
  refine (stopped_any _ _ _).mono ?_
  rintro e w2 ⟨rfl, rfl⟩
  go_wp2_with fail
  go_ret
  exact ⟨retInt H.out, by have s1 := hb1.size; go_grown⟩

end Go.Proofs.YtjhffbhjiflfeaaGreat
