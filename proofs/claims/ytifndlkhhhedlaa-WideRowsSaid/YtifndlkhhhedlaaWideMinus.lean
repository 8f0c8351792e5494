/-
  What the difference of two of the program's wide numbers does.
-/
import Derived.Test.YtifndlkhhhedlaaProg
import Derived.Test.YtifndlkhhhedlaaWide
namespace Go.Proofs.Ytifndlkhhhedlaa
set_option linter.unusedVariables false
set_option linter.unusedSimpArgs false
open Go.RowKit Go.Shelf

theorem sub64 (x y c : Int) (hx : 0 ≤ x) (hy : 0 ≤ y) (hc0 : 0 ≤ c) (hc : c ≤ 1) (hy1 : y < 18446744073709551616) (w : World) : (callFunc 21 #[.int .u64 x, .int .u64 y, .int .u64 c]).run Try.prog w =
    .ok (.value (.tuple #[.int .u64 ((x - y - c) % 18446744073709551616), .int .u64 (if x < y + c then 1 else 0)])) w := by
  obtain ⟨x, rfl⟩ := Int.eq_ofNat_of_zero_le hx
  obtain ⟨y, rfl⟩ := Int.eq_ofNat_of_zero_le hy
  obtain ⟨c, rfl⟩ := Int.eq_ofNat_of_zero_le hc0
  rw [run_callFunc_extern Try.func21 (by kernel_rfl) (by kernel_rfl) (by kernel_rfl) (e := sub64Entry) (by kernel_rfl), run_sub64 x y c (by omega)]
  simp only [Result.andThen]
  have e1 : (((x + 18446744073709551616 - y - c) % 18446744073709551616 : Nat) : Int) = ((x : Int) - y - c) % 18446744073709551616 := by omega
  have e2 : ((if x < y + c then 1 else 0 : Nat) : Int) = if (x : Int) < y + c then 1 else 0 := by
    by_cases h : x < y + c
    · rw [if_pos h, if_pos (by omega)]; rfl
    · rw [if_neg h, if_neg (by omega)]; rfl
  rw [e1, e2]

/-! ### Minus -/
def lessE (h1 l1 h2 l2 : Int) : Int := if wv h1 l1 < wv h2 l2 then 10 else 0
def lessH (h1 l1 h2 l2 : Int) : Int := if wv h1 l1 < wv h2 l2 then 0 else (wv h1 l1 - wv h2 l2) / 18446744073709551616
def lessL (h1 l1 h2 l2 : Int) : Int := if wv h1 l1 < wv h2 l2 then 0 else (l1 - l2) % 18446744073709551616
theorem wminus_any (h1 l1 h2 l2 : Int) (w : World) (a1 : Word h1) (a2 : Word l1) (a3 : Word h2) (a4 : Word l2) :
    Calls Try.prog 17 #[.agg #[.int .u64 h1, .int .u64 l1], .agg #[.int .u64 h2, .int .u64 l2]] w fun e w' => e = .returned (.tuple #[.agg #[.int .u64 (lessH h1 l1 h2 l2), .int .u64 (lessL h1 l1 h2 l2)], .int .i64 (lessE h1 l1 h2 l2)]) ∧ Below w.heap.size w w' := by
  obtain ⟨x1, x2⟩ := a1; obtain ⟨x3, x4⟩ := a2; obtain ⟨x5, x6⟩ := a3; obtain ⟨x7, x8⟩ := a4
  obtain ⟨lo, hlo⟩ : ∃ x, (l1 - l2 - 0) % 18446744073709551616 = x := ⟨_, rfl⟩
  obtain ⟨c, hc⟩ : ∃ x : Int, (if l1 < l2 + 0 then (1 : Int) else 0) = x := ⟨_, rfl⟩
  have c0 : (l1 < l2 ∧ c = 1) ∨ (l2 ≤ l1 ∧ c = 0) := by split at hc <;> omega
  obtain ⟨hi, hhi⟩ : ∃ x, (h1 - h2 - c) % 18446744073709551616 = x := ⟨_, rfl⟩
  obtain ⟨o, ho⟩ : ∃ x : Int, (if h1 < h2 + c then (1 : Int) else 0) = x := ⟨_, rfl⟩
  have o0 : (h1 < h2 + c ∧ o = 1) ∨ (h2 + c ≤ h1 ∧ o = 0) := by split at ho <;> omega
  have A1 : ∀ w, (callFunc 21 #[.int .u64 l1, .int .u64 l2, .int .u64 0]).run Try.prog w = .ok (.value (.tuple #[.int .u64 lo, .int .u64 c])) w := by
    intro w
    have := sub64 l1 l2 0 x3 x7 (by omega) (by omega) x8 w
    rw [hlo, hc] at this
    exact this
  have A2 : ∀ w, (callFunc 21 #[.int .u64 h1, .int .u64 h2, .int .u64 c]).run Try.prog w = .ok (.value (.tuple #[.int .u64 hi, .int .u64 o])) w := by
    intro w
    have := sub64 h1 h2 c x1 x5 (by omega) (by omega) x6 w
    rw [hhi, ho] at this
    exact this
  clear hc ho
  by_cases h : o = 0
  · have EH : Hid (lessH h1 l1 h2 l2 = hi) := by unfold Hid lessH wv; split <;> omega
    have EL : Hid (lessL h1 l1 h2 l2 = lo) := by unfold Hid lessL wv; split <;> omega
    have EE : Hid (lessE h1 l1 h2 l2 = 0) := by unfold Hid lessE wv; split <;> omega
    rw [EH.out, EL.out, EE.out]
    have hb : (o != 0) = false := by simp [h]
    clear h hlo hhi c0 o0
    go_enter Try.func17, Try.ntmps17
    go_wp2_with fail
    go_returns
    exact ⟨rfl, by go_grown⟩
  · have EH : Hid (lessH h1 l1 h2 l2 = 0) := by unfold Hid lessH wv; split <;> omega
    have EL : Hid (lessL h1 l1 h2 l2 = 0) := by unfold Hid lessL wv; split <;> omega
    have EE : Hid (lessE h1 l1 h2 l2 = 10) := by unfold Hid lessE wv; split <;> omega
    rw [EH.out, EL.out, EE.out]
    have hb : (o != 0) = true := by simp [h]
    clear h hlo hhi c0 o0
    go_enter Try.func17, Try.ntmps17
    go_wp2_with fail
    go_returns
    exact ⟨rfl, by go_grown⟩

end Go.Proofs.Ytifndlkhhhedlaa
