/-
  How two wide numbers compare, by their values.
-/
import Derived.Test.YtdkeoanlcninkaaProg
import Derived.Test.YtdkeoanlcninkaaWide
namespace Go.Proofs.Ytdkeoanlcninkaa
set_option linter.unusedVariables false
set_option linter.unusedSimpArgs false
open Go.RowKit Go.Shelf

theorem cmpW_words (h1 l1 h2 l2 : Int) (a : Word l1) (b : Word l2) : cmpW h1 l1 h2 l2 = cmpN (wv h1 l1) (wv h2 l2) := by
  obtain ⟨a0, a1⟩ := a
  obtain ⟨b0, b1⟩ := b
  unfold cmpW cmpN wv
  rcases Int.lt_trichotomy h1 h2 with h | h | h
  · rw [if_pos h, if_neg (show ¬ (-1 : Int) = 0 by decide), if_pos (by omega)]
  · subst h
    rw [if_neg (Int.lt_irrefl _), if_neg (Int.lt_irrefl _), if_pos rfl]
    split <;> split <;> (try split) <;> omega
  · have e : ¬ h1 < h2 := by omega
    rw [if_neg e, if_pos h, if_neg (show ¬ (1 : Int) = 0 by decide), if_neg (by omega), if_pos (by omega)]
theorem wv_split (x : Int) : wv (x / 18446744073709551616) (x % 18446744073709551616) = x ∧ Word (x % 18446744073709551616) := by
  unfold wv Word; omega
theorem cmpN_lt {x y : Int} (h : x < y) : cmpN x y = -1 := by unfold cmpN; rw [if_pos h]
theorem cmpN_gt {x y : Int} (h : y < x) : cmpN x y = 1 := by unfold cmpN; rw [if_neg (by omega), if_pos h]
theorem cmpN_eq (x : Int) : cmpN x x = 0 := by unfold cmpN; rw [if_neg (Int.lt_irrefl _), if_neg (Int.lt_irrefl _)]

end Go.Proofs.Ytdkeoanlcninkaa
