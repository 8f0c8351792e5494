/-
  The document's sum and difference that stop; and the walk of the law RatioSums.
-/
import Derived.Test.YtmfikclnidbncaaProg
import Derived.Test.YtmfikclnidbncaaLib
import Derived.Test.YtmfikclnidbncaaRef01
import Derived.Test.YtmfikclnidbncaaRatioA
import Derived.Test.YtmfikclnidbncaaRatioB
namespace Go.Proofs.Ytmfikclnidbncaa
set_option linter.unusedVariables false
set_option linter.unusedSimpArgs false
open Go.RowKit

theorem word0 : Word 0 := ⟨by omega, by omega⟩

theorem plus_split (a b : Int) (ha : Word a) (hb : Word b) : stopW (plusH 0 a 0 b) (plusL 0 a 0 b) = stopN (a + b) := by
  obtain ⟨a0, a1⟩ := ha; obtain ⟨b0, b1⟩ := hb
  rw [← stopW_split (n := a + b) (by omega)]
  unfold plusH plusL
  rw [if_neg (by omega), if_neg (by omega)]
  simp

theorem refplus2_any (a b : Int) (w : World) (ha : Word a) (hb : Word b) : Calls Try.prog 17 #[.int .u64 a, .int .u64 b] w fun e w' => e = .returned (.int .u64 (stopN (a + b))) ∧ Below w.heap.size w w' := by
  have H := Lib.hid (plus_split a b ha hb)
  go_enter Try.func17, Try.ntmps17
  go_wp2_with fail
  refine (refplus_any 0 a 0 b w word0 ha word0 hb).mono ?_
  rintro e w1 ⟨rfl, hb1⟩
  go_wp2_with fail
  refine (refstop_any _ _ _).mono ?_
  rintro e w2 ⟨rfl, hb2⟩
  go_wp2_with fail
  have s1 := hb1.size
  have s2 := hb2.size
  simp at s2
  go_ret
  exact ⟨retInt H.out, (hb1.alloc s1 _).trans (hb2.mono (by simp; omega))⟩

theorem minus_split (a b : Int) (h : b < a) : stopW 0 (a - b) = minusN a b := by
  unfold stopW minusN
  rw [if_neg (by omega), if_neg (by omega)]

theorem refminus2_any (a b : Int) (w : World) (ha : Word a) (hb : Word b) : Calls Try.prog 19 #[.int .u64 a, .int .u64 b] w fun e w' => e = .returned (.int .u64 (minusN a b)) ∧ Below w.heap.size w w' := by
  obtain ⟨a0, a1⟩ := ha; obtain ⟨b0, b1⟩ := hb
  by_cases h : b < a
  · have H := Lib.hid (minus_split a b h)
    go_enter Try.func19, Try.ntmps19
    go_wp2_with fail
    refine (refstop_any _ _ _).mono ?_
    rintro e w2 ⟨rfl, hb2⟩
    go_wp2_with fail
    go_ret
    exact ⟨retInt H.out, hb2⟩
  · have h2 : a ≤ b := by omega
    have H : Hid (minusN a b = 0) := by
      unfold Hid minusN stopN
      split <;> (try split) <;> omega
    go_enter Try.func19, Try.ntmps19
    go_wp2_with fail
    go_ret
    exact ⟨retInt H.out.symm, Below.refl _ _⟩

theorem refover_zero (a : Int) (w : World) : Calls Try.prog 15 #[.int .u64 a, .int .u64 0] w fun e w' => e = .returned (.tuple #[.int .u64 0, .int .u64 0, .int .i64 2]) ∧ Below w.heap.size w w' := by
  go_enter Try.func15, Try.ntmps15
  go_wp2_with fail
  refine (refdiv_zero 0 a _).mono ?_
  rintro e w1 ⟨rfl, hb1⟩
  go_wp2_with fail
  go_ret3
  exact ⟨rfl, hb1⟩

theorem refover_any (a b : Int) (w : World) (ha : Word a) (hb : 0 < b) (hb2 : Word b) : Calls Try.prog 15 #[.int .u64 a, .int .u64 b] w fun e w' => e = .returned (.tuple #[.int .u64 (a / b), .int .u64 (a % b), .int .i64 0]) ∧ Below w.heap.size w w' := by
  go_enter Try.func15, Try.ntmps15
  go_wp2_with fail
  refine (refdiv_any 0 a b _ (by omega) ha hb2.2 hb).mono ?_
  rintro e w1 ⟨rfl, hb1⟩
  have e1 : DivQ 0 a b = a / b := by unfold DivQ; simp
  have e2 : DivR 0 a b = a % b := by unfold DivR; simp
  rw [e1, e2]
  clear e1 e2
  go_wp2_with fail
  go_ret3
  exact ⟨rfl, hb1⟩

theorem ratioSums_at (a b : Int) (w : World) (ha : Word a) (hb : Word b) : Calls Try.prog 3 #[.int .u64 a, .int .u64 b] w fun e w' => e = .returned (.bool true) ∧ Below w.heap.size w w' := by
  by_cases hz : b = 0
  · subst hz
    go_enter Try.func3, Try.ntmps3
    have B0 := Below.refl w.heap.size w
    go_wp2_with fail
    refine (over_zero a _).mono ?_
    rintro e w1 ⟨rfl, rfl⟩
    go_wp2_with fail
    refine (refover_zero a _).mono ?_
    rintro e w1 ⟨rfl, hb1⟩
    have B1 := below_next B0 hb1
    go_wp2_with fail
    refine (plus_any a 0 _ ha hb).mono ?_
    rintro e w2 ⟨rfl, rfl⟩
    go_wp2_with fail
    refine (refplus2_any a 0 _ ha hb).mono ?_
    rintro e w2 ⟨rfl, hb2⟩
    have B2 := below_next B1 hb2
    go_wp2_with fail
    refine (minus_any a 0 _ ha hb).mono ?_
    rintro e w3 ⟨rfl, rfl⟩
    go_wp2_with fail
    refine (refminus2_any a 0 _ ha hb).mono ?_
    rintro e w3 ⟨rfl, hb3⟩
    have B3 := below_next B2 hb3
    go_wp2_with fail
    refine (times_any a 0 _ ha hb).mono ?_
    rintro e w4 ⟨rfl, hb4⟩
    have B4 := below_next B3 hb4
    go_wp2_with fail
    refine (reftimes_any a 0 _ ha hb).mono ?_
    rintro e w5 ⟨rfl, hb5⟩
    have B5 := below_next B4 hb5
    go_wp2_with fail
    refine (half_any a 0 _ ha hb).mono ?_
    rintro e w6 ⟨rfl, rfl⟩
    go_wp2_with fail
    refine (refhalf_any a 0 _ ha hb).mono ?_
    rintro e w6 ⟨rfl, rfl⟩
    go_wp2_with fail
    go_ret
    exact ⟨rfl, B5⟩
  · have hp : 0 < b := by have := hb.1; omega
    go_enter Try.func3, Try.ntmps3
    have B0 := Below.refl w.heap.size w
    go_wp2_with fail
    refine (over_any a b _ ha hp).mono ?_
    rintro e w1 ⟨rfl, hb1⟩
    have B1 := below_next B0 hb1
    go_wp2_with fail
    refine (refover_any a b _ ha hp hb).mono ?_
    rintro e w2 ⟨rfl, hb2⟩
    have B2 := below_next B1 hb2
    go_wp2_with fail
    refine (plus_any a b _ ha hb).mono ?_
    rintro e w3 ⟨rfl, rfl⟩
    go_wp2_with fail
    refine (refplus2_any a b _ ha hb).mono ?_
    rintro e w3 ⟨rfl, hb3⟩
    have B3 := below_next B2 hb3
    go_wp2_with fail
    refine (minus_any a b _ ha hb).mono ?_
    rintro e w4 ⟨rfl, rfl⟩
    go_wp2_with fail
    refine (refminus2_any a b _ ha hb).mono ?_
    rintro e w4 ⟨rfl, hb4⟩
    have B4 := below_next B3 hb4
    go_wp2_with fail
    refine (times_any a b _ ha hb).mono ?_
    rintro e w5 ⟨rfl, hb5⟩
    have B5 := below_next B4 hb5
    go_wp2_with fail
    refine (reftimes_any a b _ ha hb).mono ?_
    rintro e w6 ⟨rfl, hb6⟩
    have B6 := below_next B5 hb6
    go_wp2_with fail
    refine (half_any a b _ ha hb).mono ?_
    rintro e w7 ⟨rfl, rfl⟩
    go_wp2_with fail
    refine (refhalf_any a b _ ha hb).mono ?_
    rintro e w7 ⟨rfl, rfl⟩
    go_wp2_with fail
    go_ret
    exact ⟨rfl, B6⟩

theorem ratioSums_walk (a : Int) (fa : (Lit.int .u64 a).wf = true) (b : Int) (fb : (Lit.int .u64 b).wf = true) (w : World) : Calls Try.prog 3 #[.int .u64 a, .int .u64 b] w fun e w' => e = .returned (.bool true) ∧ Below w.heap.size w w' :=
  ratioSums_at a b w (word_of_wf fa) (word_of_wf fb)

end Go.Proofs.Ytmfikclnidbncaa
