/-
  How two wide numbers compare, by their values.
-/
import Derived.Test.YtifndlkhhhedlaaProg
import Derived.Test.YtifndlkhhhedlaaWide
namespace Go.Proofs.Ytifndlkhhhedlaa
set_option linter.unusedVariables false
set_option linter.unusedSimpArgs false
open Go.RowKit Go.Shelf

theorem cmpW_words (h1 l1 h2 l2 : Int) (a : Word l1) (b : Word l2) : cmpW h1 l1 h2 l2 = cmpN (wv h1 l1) (wv h2 l2) := by
  obtain ⟨a0, a1⟩ := a
  obtain ⟨b0, b1⟩ := b
  unfold cmpW cmpN wv
  rcases Int.lt_trichotomy h1 h2 with h | h | h
  · rw [if_pos h, if_neg (show ¬ (-1 : Int) = 0 by decide), if_pos (by omega)]
  · subst h
    rw [if_neg (Int.lt_irrefl _), if_neg (Int.lt_irrefl _), if_pos rfl]
    split <;> split <;> (try split) <;> omega
  · have e : ¬ h1 < h2 := by omega
    rw [if_neg e, if_pos h, if_neg (show ¬ (1 : Int) = 0 by decide), if_neg (by omega), if_pos (by omega)]
theorem wv_split (x : Int) : wv (x / 18446744073709551616) (x % 18446744073709551616) = x ∧ Word (x % 18446744073709551616) := by
  unfold wv Word; omega
theorem cmp_val (x y h1 l1 h2 l2 k : Int) (w : World) (e1 : x / 18446744073709551616 = h1) (e2 : x % 18446744073709551616 = l1) (e3 : y / 18446744073709551616 = h2) (e4 : y % 18446744073709551616 = l2) (ek : cmpN x y = k) :
    Calls Try.prog 14 #[.agg #[.int .u64 h1, .int .u64 l1], .agg #[.int .u64 h2, .int .u64 l2]] w fun e w' => e = .returned (.int .i64 k) ∧ Below w.heap.size w w' := by
  have a := wv_split x
  have b := wv_split y
  rw [e1, e2] at a
  rw [e3, e4] at b
  have := cmp_any h1 l1 h2 l2 w
  rw [cmpW_words _ _ _ _ a.2 b.2, a.1, b.1, ek] at this
  exact this
theorem cmpN_lt {x y : Int} (h : x < y) : cmpN x y = -1 := by unfold cmpN; rw [if_pos h]
theorem cmpN_gt {x y : Int} (h : y < x) : cmpN x y = 1 := by unfold cmpN; rw [if_neg (by omega), if_pos h]
theorem cmpN_eq (x : Int) : cmpN x x = 0 := by unfold cmpN; rw [if_neg (Int.lt_irrefl _), if_neg (Int.lt_irrefl _)]

end Go.Proofs.Ytifndlkhhhedlaa
