/-
  What the methods of the program's wide numbers do.
-/
import Derived.Test.YtdkeoanlcninkaaProg
import Derived.Test.YtdkeoanlcninkaaLib2
import Derived.Test.YtdkeoanlcninkaaBits
import Derived.Test.YtdkeoanlcninkaaDiv64
import Derived.Test.YtdkeoanlcninkaaRef01B
namespace Go.Proofs.Ytdkeoanlcninkaa
set_option linter.unusedVariables false
set_option linter.unusedSimpArgs false
open Go.RowKit Go.Shelf

/-- A wide number's value. -/
def wv (h l : Int) : Int := h * 18446744073709551616 + l

/-! ### Cmp -/
def cmpN (a b : Int) : Int := if a < b then -1 else if b < a then 1 else 0
def cmpW (h1 l1 h2 l2 : Int) : Int := if cmpN h1 h2 = 0 then cmpN l1 l2 else cmpN h1 h2
/-! ### Div -/
theorem wdiv_zero (h l : Int) (w : World) : Calls Try.prog 55 #[.agg #[.int .u64 h, .int .u64 l], .int .u64 0] w fun e w' => e = .returned (.tuple #[.int .u64 0, .int .u64 0, .int .i64 2]) ∧ Below w.heap.size w w' := by
  go_enter Try.func55, Try.ntmps55
  go_wp2_with fail
  go_ret3
  exact ⟨rfl, by go_grown⟩
theorem wdiv_over (h l n : Int) (w : World) (hn : 0 < n) (hh : n ≤ h) : Calls Try.prog 55 #[.agg #[.int .u64 h, .int .u64 l], .int .u64 n] w fun e w' => e = .returned (.tuple #[.int .u64 0, .int .u64 0, .int .i64 10]) ∧ Below w.heap.size w w' := by
  have e1 : (n == 0) = false := beq_eq_false_iff_ne.2 (by omega)
  go_enter Try.func55, Try.ntmps55
  go_wp2_with fail
  go_ret3
  exact ⟨rfl, by go_grown⟩
theorem div64_any (h l n : Int) (w : World) (h0 : 0 ≤ h) (hl : Word l) (hn : n < 18446744073709551616) (hh : h < n) :
    Calls Try.prog 57 #[.int .u64 h, .int .u64 l, .int .u64 n] w fun e w' => e = .returned (.tuple #[.int .u64 (wv h l / n), .int .u64 (wv h l % n)]) ∧ Below w.heap.size w w' := by
  unfold wv
  by_cases h1 : h = 0
  · subst h1
    have := div64_small l n w hl ⟨by omega, hn⟩ hh
    simpa using this
  · exact div64_big h l n w (by omega) hl ⟨by omega, hn⟩ hh
theorem wdiv_any (h l n : Int) (w : World) (h0 : 0 ≤ h) (hl : Word l) (hn : n < 18446744073709551616) (hh : h < n) : Calls Try.prog 55 #[.agg #[.int .u64 h, .int .u64 l], .int .u64 n] w fun e w' =>
    e = .returned (.tuple #[.int .u64 (wv h l / n), .int .u64 (wv h l % n), .int .i64 0]) ∧ Below w.heap.size w w' := by
  have e1 : (n == 0) = false := beq_eq_false_iff_ne.2 (by omega)
  have e2 : decide (n ≤ h) = false := decide_eq_false (by omega)
  go_enter Try.func55, Try.ntmps55
  go_wp2_with fail
  with_reducible refine (div64_any h l n _ h0 hl hn hh).mono ?_
  rintro e w1 ⟨rfl, hb1⟩
  have B1 : Below w.heap.size w w1 := Below.trans (by go_grown) (hb1.mono (by simp only [World.size_alloc]; omega))
  clear hb1
  go_wp2_with fail
  go_ret3
  exact ⟨rfl, B1⟩

/-! ### Plus -/
/-! ### Products and quotients by name -/
theorem word0 : Word 0 := by constructor <;> decide
theorem word1 : Word 1 := by constructor <;> decide
theorem mul_hl (a b h l : Int) (w : World) (ha : Word a) (hb : Word b) (eh : a * b / 18446744073709551616 = h) (el : a * b % 18446744073709551616 = l) :
    Calls Try.prog 44 #[.int .u64 a, .int .u64 b] w fun e w' => e = .returned (.agg #[.int .u64 h, .int .u64 l]) ∧ Below w.heap.size w w' := by
  rw [← eh, ← el]; exact mul_any a b w ha hb
theorem refmul_hl (a b h l : Int) (w : World) (ha : Word a) (hb : Word b) (eh : a * b / 18446744073709551616 = h) (el : a * b % 18446744073709551616 = l) :
    Calls Try.prog 47 #[.int .u64 a, .int .u64 b] w fun e w' => e = .returned (.agg #[.int .u64 h, .int .u64 l]) ∧ Below w.heap.size w w' := by
  rw [← eh, ← el]; exact refmul_any a b w ha hb
theorem wdiv_qr (h l n q r : Int) (w : World) (h0 : 0 ≤ h) (hl : Word l) (hn : n < 18446744073709551616) (hh : h < n) (eq : wv h l / n = q) (er : wv h l % n = r) :
    Calls Try.prog 55 #[.agg #[.int .u64 h, .int .u64 l], .int .u64 n] w fun e w' => e = .returned (.tuple #[.int .u64 q, .int .u64 r, .int .i64 0]) ∧ Below w.heap.size w w' := by
  rw [← eq, ← er]; exact wdiv_any h l n w h0 hl hn hh
theorem prod_words {a b : Int} (ha : Word a) (hb : Word b) : Word (a * b / 18446744073709551616) ∧ Word (a * b % 18446744073709551616) ∧ wv (a * b / 18446744073709551616) (a * b % 18446744073709551616) = a * b ∧ 0 ≤ a * b := by
  obtain ⟨_, _, _, _, _, _, _, _, _, _, _, _, _, b0, b1⟩ := refmul_plain a b ha hb
  unfold wv Word; omega
theorem quot_words {h l n : Int} (h0 : 0 ≤ h) (hl : Word l) (hh : h < n) : Word (wv h l / n) ∧ 0 ≤ wv h l % n ∧ wv h l % n < n := by
  obtain ⟨l0, l1⟩ := hl
  have hn : 0 < n := by omega
  refine ⟨⟨Int.ediv_nonneg (by unfold wv; omega) (by omega), ?_⟩, Int.emod_nonneg _ (by omega), Int.emod_lt_of_pos _ hn⟩
  apply Int.ediv_lt_of_lt_mul hn
  have : (h + 1) * 18446744073709551616 ≤ n * 18446744073709551616 := Int.mul_le_mul_of_nonneg_right (by omega) (by omega)
  unfold wv
  omega

end Go.Proofs.Ytdkeoanlcninkaa
