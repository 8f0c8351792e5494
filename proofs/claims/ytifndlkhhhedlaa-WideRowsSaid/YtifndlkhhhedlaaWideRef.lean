/-
  What the document's comparison, difference and quotient of wide numbers are; the program's quotient in one form.
-/
import Derived.Test.YtifndlkhhhedlaaProg
import Derived.Test.YtifndlkhhhedlaaWideMinus
import Derived.Test.YtifndlkhhhedlaaWideCmp
namespace Go.Proofs.Ytifndlkhhhedlaa
set_option linter.unusedVariables false
set_option linter.unusedSimpArgs false
open Go.RowKit Go.Shelf

theorem refcmp_any (h1 l1 h2 l2 : Int) (w : World) : Calls Try.prog 15 #[.agg #[.int .u64 h1, .int .u64 l1], .agg #[.int .u64 h2, .int .u64 l2]] w fun e w' => e = .returned (.int .i64 (cmpW h1 l1 h2 l2)) ∧ Below w.heap.size w w' := by
  rcases (show h1 < h2 ∨ h2 < h1 ∨ h1 = h2 by omega) with h | h | h
  · have H : Hid (cmpW h1 l1 h2 l2 = -1) := by unfold Hid cmpW; rw [cmpN_lt h, if_neg (by decide)]
    rw [H.out]
    go_enter Try.func15, Try.ntmps15
    go_wp2_with fail
    go_ret
    exact ⟨rfl, by go_grown⟩
  · have H : Hid (cmpW h1 l1 h2 l2 = 1) := by unfold Hid cmpW; rw [cmpN_gt h, if_neg (by decide)]
    rw [H.out]
    have e1 : (h1 == h2) = false := beq_eq_false_iff_ne.2 (by omega)
    have e2 : ¬ h1 = h2 := by omega
    go_enter Try.func15, Try.ntmps15
    go_wp2_with fail
    go_ret
    exact ⟨rfl, by go_grown⟩
  · subst h
    have H : Hid (cmpW h1 l1 h1 l2 = cmpN l1 l2) := by unfold Hid cmpW; rw [if_pos]; unfold cmpN; rw [if_neg (Int.lt_irrefl _), if_neg (Int.lt_irrefl _)]
    rw [H.out]
    rcases (show l1 < l2 ∨ l2 < l1 ∨ l1 = l2 by omega) with h | h | h
    · have H : Hid (cmpN l1 l2 = -1) := by unfold Hid; exact cmpN_lt h
      rw [H.out]
      go_enter Try.func15, Try.ntmps15
      go_wp2_with fail
      go_ret
      exact ⟨rfl, by go_grown⟩
    · have H : Hid (cmpN l1 l2 = 1) := by unfold Hid; exact cmpN_gt h
      rw [H.out]
      have e1 : (l1 == l2) = false := beq_eq_false_iff_ne.2 (by omega)
      have e2 : ¬ l1 = l2 := by omega
      go_enter Try.func15, Try.ntmps15
      go_wp2_with fail
      go_ret
      exact ⟨rfl, by go_grown⟩
    · subst h
      have H : Hid (cmpN l1 l1 = 0) := by unfold Hid; exact cmpN_eq _
      rw [H.out]
      go_enter Try.func15, Try.ntmps15
      go_wp2_with fail
      go_ret
      exact ⟨rfl, by go_grown⟩

/-! ### The quotient, in one form -/
def divE (h n : Int) : Int := if n = 0 then 2 else if n ≤ h then 10 else 0
def divQ (h l n : Int) : Int := if divE h n = 0 then wv h l / n else 0
def divR (h l n : Int) : Int := if divE h n = 0 then wv h l % n else 0
theorem wdivs_any (h l n : Int) (w : World) (a : Word h) (b : Word l) (c : Word n) : Calls Try.prog 16 #[.agg #[.int .u64 h, .int .u64 l], .int .u64 n] w fun e w' =>
    e = .returned (.tuple #[.int .u64 (divQ h l n), .int .u64 (divR h l n), .int .i64 (divE h n)]) ∧ Below w.heap.size w w' := by
  have n0 := c.1
  by_cases h0 : n = 0
  · have E : divE h n = 2 := by unfold divE; rw [if_pos h0]
    unfold divQ divR
    rw [E, if_neg (by decide), if_neg (by decide)]
    subst h0
    exact wdiv_zero h l w
  · by_cases h1 : n ≤ h
    · have E : divE h n = 10 := by unfold divE; rw [if_neg h0, if_pos h1]
      unfold divQ divR
      rw [E, if_neg (by decide), if_neg (by decide)]
      exact wdiv_over h l n w (by omega) h1
    · have E : divE h n = 0 := by unfold divE; rw [if_neg h0, if_neg h1]
      unfold divQ divR
      rw [E, if_pos rfl, if_pos rfl]
      exact wdiv_any h l n w a.1 b c.2 (by omega)
end Go.Proofs.Ytifndlkhhhedlaa
