/-
  What the methods of the program's wide numbers do.
-/
import Derived.Test.YtjhffbhjiflfeaaGreatProg
import Derived.Test.YtjhffbhjiflfeaaGreatLib2
import Derived.Test.YtjhffbhjiflfeaaGreatBits
import Derived.Test.YtjhffbhjiflfeaaGreatDiv64
import Derived.Test.YtjhffbhjiflfeaaGreatRef01
namespace Go.Proofs.YtjhffbhjiflfeaaGreat
set_option linter.unusedVariables false
set_option linter.unusedSimpArgs false
open Go.RowKit Go.Shelf

/-- A wide number's value. -/
def wv (h l : Int) : Int := h * 18446744073709551616 + l

/-! ### Cmp -/
def cmpN (a b : Int) : Int := if a < b then -1 else if b < a then 1 else 0
theorem isNaN_any (a : Int) (w : World) : Calls Tryz.prog 67 #[.int .u64 a] w fun e w' => e = .returned (.bool false) ∧ w = w' := by
  go_enter Tryz.func67, Tryz.ntmps67
  go_wp2_with fail
  go_ret
  exact ⟨by simp, rfl⟩
theorem compare_any (a b : Int) (w : World) : Calls Tryz.prog 55 #[.int .u64 a, .int .u64 b] w fun e w' => e = .returned (.int .i64 (cmpN a b)) ∧ w = w' := by
  rcases (show a < b ∨ b < a ∨ a = b by omega) with h | h | h
  · have H : Hid (cmpN a b = -1) := by unfold Hid cmpN; rw [if_pos h]
    rw [H.out]
    go_enter Tryz.func55, Tryz.ntmps55
    go_wp2_with (go_at_call 67; with_reducible refine (isNaN_any _ _).mono ?_; rintro e w1 ⟨rfl, rfl⟩)
    go_ret
    exact ⟨rfl, rfl⟩
  · have H : Hid (cmpN a b = 1) := by unfold Hid cmpN; rw [if_neg (by omega), if_pos h]
    rw [H.out]
    go_enter Tryz.func55, Tryz.ntmps55
    go_wp2_with (go_at_call 67; with_reducible refine (isNaN_any _ _).mono ?_; rintro e w1 ⟨rfl, rfl⟩)
    go_ret
    exact ⟨rfl, rfl⟩
  · subst h
    have H : Hid (cmpN a a = 0) := by unfold Hid cmpN; simp
    rw [H.out]
    go_enter Tryz.func55, Tryz.ntmps55
    go_wp2_with (go_at_call 67; with_reducible refine (isNaN_any _ _).mono ?_; rintro e w1 ⟨rfl, rfl⟩)
    go_ret
    exact ⟨rfl, rfl⟩

def cmpW (h1 l1 h2 l2 : Int) : Int := if cmpN h1 h2 = 0 then cmpN l1 l2 else cmpN h1 h2
theorem cmp_any (h1 l1 h2 l2 : Int) (w : World) : Calls Tryz.prog 142 #[.agg #[.int .u64 h1, .int .u64 l1], .agg #[.int .u64 h2, .int .u64 l2]] w fun e w' => e = .returned (.int .i64 (cmpW h1 l1 h2 l2)) ∧ Below w.heap.size w w' := by
  obtain ⟨c, hc⟩ : ∃ c, cmpN h1 h2 = c := ⟨_, rfl⟩
  have HC := Lib.hid hc
  by_cases h0 : c = 0
  · have H : Hid (cmpW h1 l1 h2 l2 = cmpN l1 l2) := by unfold Hid cmpW; rw [if_pos (by rw [hc]; exact h0)]
    have hb : (c != 0) = false := by simp [h0]
    rw [H.out]
    clear h0 hc
    go_enter Tryz.func142, Tryz.ntmps142
    go_wp2_with fail
    with_reducible refine (compare_any _ _ _).mono ?_
    rw [HC.out]
    rintro e w1 ⟨rfl, rfl⟩
    go_wp2_with fail
    with_reducible refine (compare_any _ _ _).mono ?_
    rintro e w1 ⟨rfl, rfl⟩
    go_wp2_with fail
    go_ret
    exact ⟨rfl, by go_grown⟩
  · have H : Hid (cmpW h1 l1 h2 l2 = c) := by unfold Hid cmpW; rw [hc, if_neg h0]
    have hb : (c != 0) = true := by simp [h0]
    rw [H.out]
    clear h0 hc
    go_enter Tryz.func142, Tryz.ntmps142
    go_wp2_with fail
    with_reducible refine (compare_any _ _ _).mono ?_
    rw [HC.out]
    rintro e w1 ⟨rfl, rfl⟩
    go_wp2_with fail
    go_ret
    exact ⟨rfl, by go_grown⟩

/-! ### Div -/
theorem wdiv_zero (h l : Int) (w : World) : Calls Tryz.prog 126 #[.agg #[.int .u64 h, .int .u64 l], .int .u64 0] w fun e w' => e = .returned (.tuple #[.int .u64 0, .int .u64 0, .int .i64 2]) ∧ Below w.heap.size w w' := by
  go_enter Tryz.func126, Tryz.ntmps126
  go_wp2_with fail
  go_ret3
  exact ⟨rfl, by go_grown⟩
theorem wdiv_over (h l n : Int) (w : World) (hn : 0 < n) (hh : n ≤ h) : Calls Tryz.prog 126 #[.agg #[.int .u64 h, .int .u64 l], .int .u64 n] w fun e w' => e = .returned (.tuple #[.int .u64 0, .int .u64 0, .int .i64 10]) ∧ Below w.heap.size w w' := by
  have e1 : (n == 0) = false := beq_eq_false_iff_ne.2 (by omega)
  go_enter Tryz.func126, Tryz.ntmps126
  go_wp2_with fail
  go_ret3
  exact ⟨rfl, by go_grown⟩
theorem div64_any (h l n : Int) (w : World) (h0 : 0 ≤ h) (hl : Word l) (hn : n < 18446744073709551616) (hh : h < n) :
    Calls Tryz.prog 127 #[.int .u64 h, .int .u64 l, .int .u64 n] w fun e w' => e = .returned (.tuple #[.int .u64 (wv h l / n), .int .u64 (wv h l % n)]) ∧ Below w.heap.size w w' := by
  unfold wv
  by_cases h1 : h = 0
  · subst h1
    have := div64_small l n w hl ⟨by omega, hn⟩ hh
    simpa using this
  · exact div64_big h l n w (by omega) hl ⟨by omega, hn⟩ hh
theorem wdiv_any (h l n : Int) (w : World) (h0 : 0 ≤ h) (hl : Word l) (hn : n < 18446744073709551616) (hh : h < n) : Calls Tryz.prog 126 #[.agg #[.int .u64 h, .int .u64 l], .int .u64 n] w fun e w' =>
    e = .returned (.tuple #[.int .u64 (wv h l / n), .int .u64 (wv h l % n), .int .i64 0]) ∧ Below w.heap.size w w' := by
  have e1 : (n == 0) = false := beq_eq_false_iff_ne.2 (by omega)
  have e2 : decide (n ≤ h) = false := decide_eq_false (by omega)
  go_enter Tryz.func126, Tryz.ntmps126
  go_wp2_with fail
  with_reducible refine (div64_any h l n _ h0 hl hn hh).mono ?_
  rintro e w1 ⟨rfl, hb1⟩
  have B1 : Below w.heap.size w w1 := Below.trans (by go_grown) (hb1.mono (by simp only [World.size_alloc]; omega))
  clear hb1
  go_wp2_with fail
  go_ret3
  exact ⟨rfl, B1⟩

/-! ### Plus -/
theorem add64 (x y c : Int) (hx : 0 ≤ x) (hy : 0 ≤ y) (hc0 : 0 ≤ c) (hc : c ≤ 1) (w : World) : (callFunc 149 #[.int .u64 x, .int .u64 y, .int .u64 c]).run Tryz.prog w =
    .ok (.value (.tuple #[.int .u64 ((x + y + c) % 18446744073709551616), .int .u64 ((x + y + c) / 18446744073709551616)])) w := by
  obtain ⟨x, rfl⟩ := Int.eq_ofNat_of_zero_le hx
  obtain ⟨y, rfl⟩ := Int.eq_ofNat_of_zero_le hy
  obtain ⟨c, rfl⟩ := Int.eq_ofNat_of_zero_le hc0
  rw [run_callFunc_extern Tryz.func149 (by kernel_rfl) (by kernel_rfl) (by kernel_rfl) (e := add64Entry) (by kernel_rfl), run_add64 x y c (by omega) (by omega) (by omega) (by omega)]
  simp only [Result.andThen]
theorem wplus_any (h1 l1 h2 l2 : Int) (w : World) (a1 : Word h1) (a2 : Word l1) (a3 : Word h2) (a4 : Word l2) :
    Calls Tryz.prog 147 #[.agg #[.int .u64 h1, .int .u64 l1], .agg #[.int .u64 h2, .int .u64 l2]] w fun e w' => e = .returned (.tuple #[.agg #[.int .u64 (plusH h1 l1 h2 l2), .int .u64 (plusL h1 l1 h2 l2)], .int .i64 (plusE h1 l1 h2 l2)]) ∧ Below w.heap.size w w' := by
  obtain ⟨x1, x2⟩ := a1; obtain ⟨x3, x4⟩ := a2; obtain ⟨x5, x6⟩ := a3; obtain ⟨x7, x8⟩ := a4
  obtain ⟨lo, hlo⟩ : ∃ x, (l1 + l2 + 0) % 18446744073709551616 = x := ⟨_, rfl⟩
  obtain ⟨c, hc⟩ : ∃ x, (l1 + l2 + 0) / 18446744073709551616 = x := ⟨_, rfl⟩
  have c0 : 0 ≤ c ∧ c ≤ 1 := by omega
  obtain ⟨hi, hhi⟩ : ∃ x, (h1 + h2 + c) % 18446744073709551616 = x := ⟨_, rfl⟩
  obtain ⟨o, ho⟩ : ∃ x, (h1 + h2 + c) / 18446744073709551616 = x := ⟨_, rfl⟩
  have A1 : ∀ w, (callFunc 149 #[.int .u64 l1, .int .u64 l2, .int .u64 0]).run Tryz.prog w = .ok (.value (.tuple #[.int .u64 lo, .int .u64 c])) w := by
    intro w
    have := add64 l1 l2 0 x3 x7 (by omega) (by omega) w
    rw [hlo, hc] at this
    exact this
  have A2 : ∀ w, (callFunc 149 #[.int .u64 h1, .int .u64 h2, .int .u64 c]).run Tryz.prog w = .ok (.value (.tuple #[.int .u64 hi, .int .u64 o])) w := by
    intro w
    have := add64 h1 h2 c x1 x5 c0.1 c0.2 w
    rw [hhi, ho] at this
    exact this
  by_cases h : o = 0
  · have EH : Hid (plusH h1 l1 h2 l2 = hi) := by unfold Hid plusH; split <;> omega
    have EL : Hid (plusL h1 l1 h2 l2 = lo) := by unfold Hid plusL; split <;> omega
    have EE : Hid (plusE h1 l1 h2 l2 = 0) := by unfold Hid plusE; split <;> omega
    rw [EH.out, EL.out, EE.out]
    have hb : (o != 0) = false := by simp [h]
    clear h hlo hc hhi ho
    go_enter Tryz.func147, Tryz.ntmps147
    go_wp2_with fail
    go_returns
    exact ⟨rfl, by go_grown⟩
  · have EH : Hid (plusH h1 l1 h2 l2 = 0) := by unfold Hid plusH; split <;> omega
    have EL : Hid (plusL h1 l1 h2 l2 = 0) := by unfold Hid plusL; split <;> omega
    have EE : Hid (plusE h1 l1 h2 l2 = 10) := by unfold Hid plusE; split <;> omega
    rw [EH.out, EL.out, EE.out]
    have hb : (o != 0) = true := by simp [h]
    clear h hlo hc hhi ho
    go_enter Tryz.func147, Tryz.ntmps147
    go_wp2_with fail
    go_returns
    exact ⟨rfl, by go_grown⟩

/-! ### Products and quotients by name -/
theorem word0 : Word 0 := by constructor <;> decide
theorem word1 : Word 1 := by constructor <;> decide
theorem mul_hl (a b h l : Int) (w : World) (ha : Word a) (hb : Word b) (eh : a * b / 18446744073709551616 = h) (el : a * b % 18446744073709551616 = l) :
    Calls Tryz.prog 125 #[.int .u64 a, .int .u64 b] w fun e w' => e = .returned (.agg #[.int .u64 h, .int .u64 l]) ∧ Below w.heap.size w w' := by
  rw [← eh, ← el]; exact mul_any a b w ha hb
theorem refmul_hl (a b h l : Int) (w : World) (ha : Word a) (hb : Word b) (eh : a * b / 18446744073709551616 = h) (el : a * b % 18446744073709551616 = l) :
    Calls Tryz.prog 94 #[.int .u64 a, .int .u64 b] w fun e w' => e = .returned (.agg #[.int .u64 h, .int .u64 l]) ∧ Below w.heap.size w w' := by
  rw [← eh, ← el]; exact refmul_any a b w ha hb
theorem wdiv_qr (h l n q r : Int) (w : World) (h0 : 0 ≤ h) (hl : Word l) (hn : n < 18446744073709551616) (hh : h < n) (eq : wv h l / n = q) (er : wv h l % n = r) :
    Calls Tryz.prog 126 #[.agg #[.int .u64 h, .int .u64 l], .int .u64 n] w fun e w' => e = .returned (.tuple #[.int .u64 q, .int .u64 r, .int .i64 0]) ∧ Below w.heap.size w w' := by
  rw [← eq, ← er]; exact wdiv_any h l n w h0 hl hn hh
theorem prod_words {a b : Int} (ha : Word a) (hb : Word b) : Word (a * b / 18446744073709551616) ∧ Word (a * b % 18446744073709551616) ∧ wv (a * b / 18446744073709551616) (a * b % 18446744073709551616) = a * b ∧ 0 ≤ a * b := by
  obtain ⟨_, _, _, _, _, _, _, _, _, _, _, _, _, b0, b1⟩ := refmul_plain a b ha hb
  unfold wv Word; omega
theorem quot_words {h l n : Int} (h0 : 0 ≤ h) (hl : Word l) (hh : h < n) : Word (wv h l / n) ∧ 0 ≤ wv h l % n ∧ wv h l % n < n := by
  obtain ⟨l0, l1⟩ := hl
  have hn : 0 < n := by omega
  refine ⟨⟨Int.ediv_nonneg (by unfold wv; omega) (by omega), ?_⟩, Int.emod_nonneg _ (by omega), Int.emod_lt_of_pos _ hn⟩
  apply Int.ediv_lt_of_lt_mul hn
  have : (h + 1) * 18446744073709551616 ≤ n * 18446744073709551616 := Int.mul_le_mul_of_nonneg_right (by omega) (by omega)
  unfold wv
  omega

end Go.Proofs.YtjhffbhjiflfeaaGreat
