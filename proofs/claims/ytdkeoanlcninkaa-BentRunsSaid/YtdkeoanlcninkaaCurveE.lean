/-
  What the document's curves compute: May, At, Reach, Steepest, Burst, None, Bent.
-/
import Derived.Test.YtdkeoanlcninkaaCurveD
import Derived.Test.YtdkeoanlcninkaaRatioD
namespace Go.Proofs.Ytdkeoanlcninkaa
set_option linter.unusedVariables false
set_option linter.unusedSimpArgs false
open Go.RowKit Go.Shelf

theorem refmay_any (F L R : Int) (w : World) (hL : Word L) : Calls Try.prog 37 #[.agg #[.int .u64 F, .int .u64 L, .int .u64 R]] w fun e w' => e = .returned (.bool (mayB F L R)) ∧ Below w.heap.size w w' := by
  unfold mayB
  have l0 := hL.1
  by_cases h1 : F > 1048576
  · rw [if_pos (.inl h1)]
    go_enter Try.func37, Try.ntmps37
    go_wp2_with fail
    go_ret
    exact ⟨rfl, by go_grown⟩
  by_cases h2 : R > 1048576
  · rw [if_pos (.inr (.inl h2))]
    have h1' : F ≤ 1048576 := by omega
    go_enter Try.func37, Try.ntmps37
    go_wp2_with fail
    go_ret
    exact ⟨rfl, by go_grown⟩
  by_cases h3 : L > 1099511627776
  · rw [if_pos (.inr (.inr h3))]
    have h1' : F ≤ 1048576 := by omega
    have h2' : R ≤ 1048576 := by omega
    go_enter Try.func37, Try.ntmps37
    go_wp2_with fail
    go_ret
    exact ⟨rfl, by go_grown⟩
  rw [if_neg (by omega)]
  have h1' : F ≤ 1048576 := by omega
  have h2' : R ≤ 1048576 := by omega
  have h3' : L ≤ 1099511627776 := by omega
  by_cases h4 : L = 0
  · rw [if_pos h4]
    subst h4
    by_cases h5 : F = 0
    · subst h5
      go_enter Try.func37, Try.ntmps37
      go_wp2_with fail
      go_ret
      exact ⟨rfl, by go_grown⟩
    · have h5' : (F == 0) = false := beq_eq_false_iff_ne.2 h5
      rw [h5']
      clear h5
      go_enter Try.func37, Try.ntmps37
      go_wp2_with fail
      go_ret
      exact ⟨rfl, by go_grown⟩
  · rw [if_neg h4]
    have h4' : (L == 0) = false := beq_eq_false_iff_ne.2 h4
    have h6 : 0 < L := by omega
    clear h4
    go_enter Try.func37, Try.ntmps37
    go_wp2_with fail
    go_ret
    exact ⟨rfl, by go_grown⟩
theorem refmay_val (F L R : Int) (b : Bool) (w : World) (wL : Word L) (h : mayB F L R = b) : Calls Try.prog 37 #[.agg #[.int .u64 F, .int .u64 L, .int .u64 R]] w fun e w' => e = .returned (.bool b) ∧ Below w.heap.size w w' := by
  rw [← h]; exact refmay_any F L R w wL

theorem refbent_any (F L R : Int) (w : World) : Calls Try.prog 38 #[.agg #[.int .u64 F, .int .u64 L, .int .u64 R]] w fun e w' => e = .returned (.bool (decide (R < F))) ∧ Below w.heap.size w w' := by
  go_enter Try.func38, Try.ntmps38
  go_wp2_with fail
  go_ret
  exact ⟨rfl, by go_grown⟩
theorem refbent_val (F L R : Int) (b : Bool) (w : World) (h : decide (R < F) = b) : Calls Try.prog 38 #[.agg #[.int .u64 F, .int .u64 L, .int .u64 R]] w fun e w' => e = .returned (.bool b) ∧ Below w.heap.size w w' := by
  rw [← h]; exact refbent_any F L R w
/-! ### At -/
/-- What a curve has, in two words; where 128 bits end, so much as no number stops at. -/
def wideN (F L R t : Int) : Int := F * min t L + (if L < t then R * (t - L) else 0)
def wideH (n : Int) : Int := if n ≥ 340282366920938463463374607431768211456 then 9223372036854775808 else n / 18446744073709551616
def wideL (n : Int) : Int := if n ≥ 340282366920938463463374607431768211456 then 0 else n % 18446744073709551616
theorem wide_raw (F L R t : Int) : wideN F L R t = rawN F L R t := by
  unfold wideN
  rcases Int.lt_or_le L t with h | h
  · rw [if_pos h, raw_high (by omega), Int.min_eq_right (by omega)]
  · rw [if_neg (by omega), raw_low h, Int.min_eq_left h, Int.add_zero]
theorem wide_stop {n : Int} (h : 0 ≤ n) : stopW (wideH n) (wideL n) = stopN n := by
  unfold stopW wideH wideL stopN
  (repeat' split) <;> omega
theorem wide_words {n : Int} (h : 0 ≤ n) : Word (wideH n) ∧ Word (wideL n) := by
  unfold wideH wideL
  by_cases k : n ≥ 340282366920938463463374607431768211456
  · rw [if_pos k, if_pos k]; exact ⟨by decide, by decide⟩
  · rw [if_neg k, if_neg k]; exact ⟨⟨by omega, by omega⟩, ⟨by omega, by omega⟩⟩

end Go.Proofs.Ytdkeoanlcninkaa
