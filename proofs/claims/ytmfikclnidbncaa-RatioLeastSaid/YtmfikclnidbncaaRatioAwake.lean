/-
  The chapter's examples answer as the laws of outright.go ask.
-/
import Derived.Test.YtmfikclnidbncaaProg
import Derived.Test.YtmfikclnidbncaaRatioC
namespace Go.Proofs.Ytmfikclnidbncaa
set_option linter.unusedVariables false
set_option linter.unusedSimpArgs false
open Go.RowKit Go.Shelf

theorem down_val (a b c d x : Int) (w : World) (ha : Word a) (hb : Word b) (hc : Word c) (ed : downN a b c = d) (ex : errN c = x) :
    Calls Try.prog 36 #[.int .u64 a, .int .u64 b, .int .u64 c] w fun e w' => e = .returned (.tuple #[.int .u64 d, .int .i64 x]) ∧ Below w.heap.size w w' := by
  rw [← ed, ← ex]; exact down_any a b c w ha hb hc
theorem up_val (a b c d x : Int) (w : World) (ha : Word a) (hb : Word b) (hc : Word c) (ed : upN a b c = d) (ex : errN c = x) :
    Calls Try.prog 38 #[.int .u64 a, .int .u64 b, .int .u64 c] w fun e w' => e = .returned (.tuple #[.int .u64 d, .int .i64 x]) ∧ Below w.heap.size w w' := by
  rw [← ed, ← ex]; exact up_any a b c w ha hb hc
theorem plus_val (a b s : Int) (w : World) (ha : Word a) (hb : Word b) (es : stopN (a + b) = s) : Calls Try.prog 16 #[.int .u64 a, .int .u64 b] w fun e w' => e = .returned (.int .u64 s) ∧ w = w' := by
  rw [← es]; exact plus_any a b w ha hb
theorem minus_val (a b s : Int) (w : World) (ha : Word a) (hb : Word b) (es : minusN a b = s) : Calls Try.prog 18 #[.int .u64 a, .int .u64 b] w fun e w' => e = .returned (.int .u64 s) ∧ w = w' := by
  rw [← es]; exact minus_any a b w ha hb
theorem times_val (a b s : Int) (w : World) (ha : Word a) (hb : Word b) (es : stopN (a * b) = s) : Calls Try.prog 20 #[.int .u64 a, .int .u64 b] w fun e w' => e = .returned (.int .u64 s) ∧ Below w.heap.size w w' := by
  rw [← es]; exact times_any a b w ha hb
theorem half_val (a b s : Int) (w : World) (ha : Word a) (hb : Word b) (es : (a + b) / 2 = s) : Calls Try.prog 22 #[.int .u64 a, .int .u64 b] w fun e w' => e = .returned (.int .u64 s) ∧ w = w' := by
  rw [← es]; exact half_any a b w ha hb

theorem awake02 (w : World) : Calls Try.prog 40 #[] w fun e w' => e = .returned (.bool true) ∧ Below w.heap.size w w' := by
  have F1 := fun w => down_val 7 3 4 5 0 w (by decide) (by decide) (by decide) (by decide) (by decide)
  have F2 := fun w => up_val 7 3 4 6 0 w (by decide) (by decide) (by decide) (by decide) (by decide)
  have F3 := fun w => up_val 7 3 0 0 2 w (by decide) (by decide) (by decide) (by decide) (by decide)
  have F4 := fun w => down_val 9223372036854775808 9223372036854775808 2 4611686018427387904 0 w (by decide) (by decide) (by decide) (by decide) (by decide)
  have F5 := fun w => plus_val 4611686018427387904 1 4611686018427387904 w (by decide) (by decide) (by decide)
  have F6 := fun w => plus_val 2 3 5 w (by decide) (by decide) (by decide)
  have F7 := fun w => minus_val 5 7 0 w (by decide) (by decide) (by decide)
  have F8 := fun w => minus_val 7 5 2 w (by decide) (by decide) (by decide)
  have F9 := fun w => times_val 1099511627776 1099511627776 4611686018427387904 w (by decide) (by decide) (by decide)
  have F10 := fun w => half_val 18446744073709551615 18446744073709551613 18446744073709551614 w (by decide) (by decide) (by decide)
  have F1 := Lib.hid F1
  have F2 := Lib.hid F2
  have F3 := Lib.hid F3
  have F4 := Lib.hid F4
  have F5 := Lib.hid F5
  have F6 := Lib.hid F6
  have F7 := Lib.hid F7
  have F8 := Lib.hid F8
  have F9 := Lib.hid F9
  have F10 := Lib.hid F10
  go_enter Try.func40, Try.ntmps40
  go_wp2_with fail
  with_reducible refine (F1.out _).mono ?_
  rintro e w1 ⟨rfl, B1⟩
  go_wp2_with fail
  with_reducible refine (F2.out _).mono ?_
  rintro e w2 ⟨rfl, hb2⟩
  have B2 := below_next B1 hb2
  clear hb2 B1
  go_wp2_with fail
  with_reducible refine (F3.out _).mono ?_
  rintro e w3 ⟨rfl, hb3⟩
  have B3 := below_next B2 hb3
  clear hb3 B2
  go_wp2_with fail
  with_reducible refine (F4.out _).mono ?_
  rintro e w4 ⟨rfl, hb4⟩
  have B4 := below_next B3 hb4
  clear hb4 B3
  go_wp2_with fail
  with_reducible refine (F5.out _).mono ?_
  rintro e w5 ⟨rfl, rfl⟩
  go_wp2_with fail
  with_reducible refine (F6.out _).mono ?_
  rintro e w5 ⟨rfl, rfl⟩
  go_wp2_with fail
  with_reducible refine (F7.out _).mono ?_
  rintro e w5 ⟨rfl, rfl⟩
  go_wp2_with fail
  with_reducible refine (F8.out _).mono ?_
  rintro e w5 ⟨rfl, rfl⟩
  go_wp2_with fail
  with_reducible refine (F9.out _).mono ?_
  rintro e w5 ⟨rfl, hb5⟩
  have B5 := below_next B4 hb5
  clear hb5 B4
  go_wp2_with fail
  with_reducible refine (F10.out _).mono ?_
  rintro e w6 ⟨rfl, rfl⟩
  go_wp2_with fail
  go_ret
  exact ⟨rfl, B5⟩

end Go.Proofs.Ytmfikclnidbncaa
