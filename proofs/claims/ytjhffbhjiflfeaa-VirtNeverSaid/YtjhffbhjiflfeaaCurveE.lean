/-
  What the document's curves compute: May, At, Reach, Steepest, Burst, None, Bent.
-/
import Derived.Test.YtjhffbhjiflfeaaCurveB
import Derived.Test.YtjhffbhjiflfeaaRatioD
namespace Go.Proofs.Ytjhffbhjiflfeaa
set_option linter.unusedVariables false
set_option linter.unusedSimpArgs false
open Go.RowKit Go.Shelf

/-! ### At -/
/-- What a curve has, in two words; where 128 bits end, so much as no number stops at. -/
def wideN (F L R t : Int) : Int := F * min t L + (if L < t then R * (t - L) else 0)
def wideH (n : Int) : Int := if n ≥ 340282366920938463463374607431768211456 then 9223372036854775808 else n / 18446744073709551616
def wideL (n : Int) : Int := if n ≥ 340282366920938463463374607431768211456 then 0 else n % 18446744073709551616
theorem wide_raw (F L R t : Int) : wideN F L R t = rawN F L R t := by
  unfold wideN
  rcases Int.lt_or_le L t with h | h
  · rw [if_pos h, raw_high (by omega), Int.min_eq_right (by omega)]
  · rw [if_neg (by omega), raw_low h, Int.min_eq_left h, Int.add_zero]
theorem wide_stop {n : Int} (h : 0 ≤ n) : stopW (wideH n) (wideL n) = stopN n := by
  unfold stopW wideH wideL stopN
  (repeat' split) <;> omega
theorem wide_words {n : Int} (h : 0 ≤ n) : Word (wideH n) ∧ Word (wideL n) := by
  unfold wideH wideL
  by_cases k : n ≥ 340282366920938463463374607431768211456
  · rw [if_pos k, if_pos k]; exact ⟨by decide, by decide⟩
  · rw [if_neg k, if_neg k]; exact ⟨⟨by omega, by omega⟩, ⟨by omega, by omega⟩⟩

end Go.Proofs.Ytjhffbhjiflfeaa

/-!
  What the document's At and Reach of a curve compute.
-/
namespace Go.Proofs.Ytjhffbhjiflfeaa
set_option linter.unusedVariables false
set_option linter.unusedSimpArgs false
open Go.RowKit Go.Shelf

theorem wide_plus {F R m d h1 l1 h2 l2 : Int} (e1 : F * m / 18446744073709551616 = h1) (e2 : F * m % 18446744073709551616 = l1) (e3 : R * d / 18446744073709551616 = h2) (e4 : R * d % 18446744073709551616 = l2) :
    plusH h1 l1 h2 l2 = (if plusE h1 l1 h2 l2 = 0 then wideH (F * m + R * d) else 0) ∧ plusL h1 l1 h2 l2 = (if plusE h1 l1 h2 l2 = 0 then wideL (F * m + R * d) else 0) ∧
    (plusE h1 l1 h2 l2 = 0 ∨ (plusE h1 l1 h2 l2 = 10 ∧ wideH (F * m + R * d) = 9223372036854775808 ∧ wideL (F * m + R * d) = 0)) := by
  generalize F * m = p at *
  generalize R * d = q at *
  have e : (h1 + h2) * 18446744073709551616 + l1 + l2 = p + q := by omega
  unfold plusH plusL plusE wideH wideL
  rw [e]
  by_cases k : p + q ≥ 340282366920938463463374607431768211456
  · simp only [if_pos k]; simp
  · simp only [if_neg k]
    exact ⟨by simp, by simp; omega, .inl (by simp)⟩

end Go.Proofs.Ytjhffbhjiflfeaa
