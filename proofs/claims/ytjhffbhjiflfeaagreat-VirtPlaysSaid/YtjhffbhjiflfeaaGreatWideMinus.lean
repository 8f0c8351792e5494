/-
  What the difference of two of the program's wide numbers does.
-/
import Derived.Test.YtjhffbhjiflfeaaGreatProg
import Derived.Test.YtjhffbhjiflfeaaGreatWide
namespace Go.Proofs.YtjhffbhjiflfeaaGreat
set_option linter.unusedVariables false
set_option linter.unusedSimpArgs false
open Go.RowKit Go.Shelf

/-! ### Minus -/
def lessE (h1 l1 h2 l2 : Int) : Int := if wv h1 l1 < wv h2 l2 then 10 else 0
def lessH (h1 l1 h2 l2 : Int) : Int := if wv h1 l1 < wv h2 l2 then 0 else (wv h1 l1 - wv h2 l2) / 18446744073709551616
def lessL (h1 l1 h2 l2 : Int) : Int := if wv h1 l1 < wv h2 l2 then 0 else (l1 - l2) % 18446744073709551616
end Go.Proofs.YtjhffbhjiflfeaaGreat

/-!
  How two wide numbers compare, by their values.
-/
namespace Go.Proofs.YtjhffbhjiflfeaaGreat
set_option linter.unusedVariables false
set_option linter.unusedSimpArgs false
open Go.RowKit Go.Shelf

theorem cmpW_words (h1 l1 h2 l2 : Int) (a : Word l1) (b : Word l2) : cmpW h1 l1 h2 l2 = cmpN (wv h1 l1) (wv h2 l2) := by
  obtain ⟨a0, a1⟩ := a
  obtain ⟨b0, b1⟩ := b
  unfold cmpW cmpN wv
  rcases Int.lt_trichotomy h1 h2 with h | h | h
  · rw [if_pos h, if_neg (show ¬ (-1 : Int) = 0 by decide), if_pos (by omega)]
  · subst h
    rw [if_neg (Int.lt_irrefl _), if_neg (Int.lt_irrefl _), if_pos rfl]
    split <;> split <;> (try split) <;> omega
  · have e : ¬ h1 < h2 := by omega
    rw [if_neg e, if_pos h, if_neg (show ¬ (1 : Int) = 0 by decide), if_neg (by omega), if_pos (by omega)]
theorem wv_split (x : Int) : wv (x / 18446744073709551616) (x % 18446744073709551616) = x ∧ Word (x % 18446744073709551616) := by
  unfold wv Word; omega
theorem cmp_val (x y h1 l1 h2 l2 k : Int) (w : World) (e1 : x / 18446744073709551616 = h1) (e2 : x % 18446744073709551616 = l1) (e3 : y / 18446744073709551616 = h2) (e4 : y % 18446744073709551616 = l2) (ek : cmpN x y = k) :
    Calls Tryz.prog 142 #[.agg #[.int .u64 h1, .int .u64 l1], .agg #[.int .u64 h2, .int .u64 l2]] w fun e w' => e = .returned (.int .i64 k) ∧ Below w.heap.size w w' := by
  have a := wv_split x
  have b := wv_split y
  rw [e1, e2] at a
  rw [e3, e4] at b
  have := cmp_any h1 l1 h2 l2 w
  rw [cmpW_words _ _ _ _ a.2 b.2, a.1, b.1, ek] at this
  exact this
theorem cmpN_lt {x y : Int} (h : x < y) : cmpN x y = -1 := by unfold cmpN; rw [if_pos h]
theorem cmpN_gt {x y : Int} (h : y < x) : cmpN x y = 1 := by unfold cmpN; rw [if_neg (by omega), if_pos h]
theorem cmpN_eq (x : Int) : cmpN x x = 0 := by unfold cmpN; rw [if_neg (Int.lt_irrefl _), if_neg (Int.lt_irrefl _)]

end Go.Proofs.YtjhffbhjiflfeaaGreat

/-!
  What the document's comparison, difference and quotient of wide numbers are; the program's quotient in one form.
-/
namespace Go.Proofs.YtjhffbhjiflfeaaGreat
set_option linter.unusedVariables false
set_option linter.unusedSimpArgs false
open Go.RowKit Go.Shelf

theorem refcmp_any (h1 l1 h2 l2 : Int) (w : World) : Calls Tryz.prog 90 #[.agg #[.int .u64 h1, .int .u64 l1], .agg #[.int .u64 h2, .int .u64 l2]] w fun e w' => e = .returned (.int .i64 (cmpW h1 l1 h2 l2)) ∧ Below w.heap.size w w' := by
  rcases (show h1 < h2 ∨ h2 < h1 ∨ h1 = h2 by omega) with h | h | h
  · have H : Hid (cmpW h1 l1 h2 l2 = -1) := by unfold Hid cmpW; rw [cmpN_lt h, if_neg (by decide)]
    rw [H.out]
    go_enter Tryz.func90, Tryz.ntmps90
    go_wp2_with fail
    go_ret
    exact ⟨rfl, by go_grown⟩
  · have H : Hid (cmpW h1 l1 h2 l2 = 1) := by unfold Hid cmpW; rw [cmpN_gt h, if_neg (by decide)]
    rw [H.out]
    have e1 : (h1 == h2) = false := beq_eq_false_iff_ne.2 (by omega)
    have e2 : ¬ h1 = h2 := by omega
    go_enter Tryz.func90, Tryz.ntmps90
    go_wp2_with fail
    go_ret
    exact ⟨rfl, by go_grown⟩
  · subst h
    have H : Hid (cmpW h1 l1 h1 l2 = cmpN l1 l2) := by unfold Hid cmpW; rw [if_pos]; unfold cmpN; rw [if_neg (Int.lt_irrefl _), if_neg (Int.lt_irrefl _)]
    rw [H.out]
    rcases (show l1 < l2 ∨ l2 < l1 ∨ l1 = l2 by omega) with h | h | h
    · have H : Hid (cmpN l1 l2 = -1) := by unfold Hid; exact cmpN_lt h
      rw [H.out]
      go_enter Tryz.func90, Tryz.ntmps90
      go_wp2_with fail
      go_ret
      exact ⟨rfl, by go_grown⟩
    · have H : Hid (cmpN l1 l2 = 1) := by unfold Hid; exact cmpN_gt h
      rw [H.out]
      have e1 : (l1 == l2) = false := beq_eq_false_iff_ne.2 (by omega)
      have e2 : ¬ l1 = l2 := by omega
      go_enter Tryz.func90, Tryz.ntmps90
      go_wp2_with fail
      go_ret
      exact ⟨rfl, by go_grown⟩
    · subst h
      have H : Hid (cmpN l1 l1 = 0) := by unfold Hid; exact cmpN_eq _
      rw [H.out]
      go_enter Tryz.func90, Tryz.ntmps90
      go_wp2_with fail
      go_ret
      exact ⟨rfl, by go_grown⟩

/-! ### The quotient, in one form -/
def divE (h n : Int) : Int := if n = 0 then 2 else if n ≤ h then 10 else 0
def divQ (h l n : Int) : Int := if divE h n = 0 then wv h l / n else 0
def divR (h l n : Int) : Int := if divE h n = 0 then wv h l % n else 0
theorem wdivs_any (h l n : Int) (w : World) (a : Word h) (b : Word l) (c : Word n) : Calls Tryz.prog 126 #[.agg #[.int .u64 h, .int .u64 l], .int .u64 n] w fun e w' =>
    e = .returned (.tuple #[.int .u64 (divQ h l n), .int .u64 (divR h l n), .int .i64 (divE h n)]) ∧ Below w.heap.size w w' := by
  have n0 := c.1
  by_cases h0 : n = 0
  · have E : divE h n = 2 := by unfold divE; rw [if_pos h0]
    unfold divQ divR
    rw [E, if_neg (by decide), if_neg (by decide)]
    subst h0
    exact wdiv_zero h l w
  · by_cases h1 : n ≤ h
    · have E : divE h n = 10 := by unfold divE; rw [if_neg h0, if_pos h1]
      unfold divQ divR
      rw [E, if_neg (by decide), if_neg (by decide)]
      exact wdiv_over h l n w (by omega) h1
    · have E : divE h n = 0 := by unfold divE; rw [if_neg h0, if_neg h1]
      unfold divQ divR
      rw [E, if_pos rfl, if_pos rfl]
      exact wdiv_any h l n w a.1 b c.2 (by omega)
end Go.Proofs.YtjhffbhjiflfeaaGreat
