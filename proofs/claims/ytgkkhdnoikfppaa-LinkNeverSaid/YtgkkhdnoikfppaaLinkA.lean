/-
  What the methods of the program's Link do.
-/
import Derived.Test.YtgkkhdnoikfppaaProg
import Derived.Test.YtgkkhdnoikfppaaLib2
namespace Go.Proofs.Ytgkkhdnoikfppaa
set_option linter.unusedVariables false
set_option linter.unusedSimpArgs false
open Go.RowKit

/-- Block b is a link of that rate, that was taken so far, that idles or not. -/
def IsLink (w : World) (b : Nat) (r t : Int) (i : Bool) : Prop := Blk w b 41 #[.int .u64 r, .int .u64 t, .bool i]

section
variable {w : World} {b : Nat} {r t : Int} {i : Bool}
theorem IsLink.c0 (h : IsLink w b r t i) : w.cell? ⟨b, 0, none⟩ = some (.int .u64 r) := Blk.get h 0 rfl
theorem IsLink.c1 (h : IsLink w b r t i) : w.cell? ⟨b, 1, none⟩ = some (.int .u64 t) := Blk.get h 1 rfl
theorem IsLink.c2 (h : IsLink w b r t i) : w.cell? ⟨b, 2, none⟩ = some (.bool i) := Blk.get h 2 rfl
end

def upDiv (g r : Int) : Int := (g + r - 1) / r

/-! ### none -/
theorem none_made (b : Nat) (r : Int) (w : World) (h0 : w.cell? ⟨b, 0, none⟩ = some (.int .u64 r)) (hr : 0 < r) :
    Calls Try.prog 13 #[.pointer (some ⟨b, 0, none⟩)] w fun e w' => e = .returned (.bool false) ∧ w = w' := by
  have e0 : (r == 0) = false := beq_eq_false_iff_ne.2 (by omega)
  go_enter Try.func13, Try.ntmps13
  go_wp2
  go_ret
  exact ⟨rfl, rfl⟩
theorem none_zero (b : Nat) (w : World) (h0 : w.cell? ⟨b, 0, none⟩ = some (.int .u64 0)) :
    Calls Try.prog 13 #[.pointer (some ⟨b, 0, none⟩)] w fun e w' => e = .returned (.bool true) ∧ w = w' := by
  go_enter Try.func13, Try.ntmps13
  go_wp2
  go_ret
  exact ⟨rfl, rfl⟩
theorem none_nil (w : World) :
    Calls Try.prog 13 #[.pointer none] w fun e w' => e = .returned (.bool true) ∧ w = w' := by
  go_enter Try.func13, Try.ntmps13
  go_wp2
  go_ret
  exact ⟨rfl, rfl⟩

/-- A link that nobody made: none at all, or one with the rate 0. -/
def Unmade (w : World) (o : Option Addr) : Prop := o = none ∨ ∃ b, o = some ⟨b, 0, none⟩ ∧ w.cell? ⟨b, 0, none⟩ = some (.int .u64 0)
theorem none_unmade (o : Option Addr) (w : World) (h : Unmade w o) :
    Calls Try.prog 13 #[.pointer o] w fun e w' => e = .returned (.bool true) ∧ w = w' := by
  rcases h with rfl | ⟨b, rfl, h0⟩
  · exact none_nil w
  · exact none_zero b w h0

/-! ### ticks -/
theorem ticks_any (b : Nat) (r g : Int) (w : World) (h0 : w.cell? ⟨b, 0, none⟩ = some (.int .u64 r)) (hr : 0 < r) (hr2 : r ≤ 1048576) (g0 : 0 ≤ g) (g1 : g ≤ 9223372036854775808) :
    Calls Try.prog 14 #[.pointer (some ⟨b, 0, none⟩), .int .u64 g] w fun e w' => e = .returned (.int .u64 (upDiv g r)) ∧ ∃ n, w' = w.drewN n := by
  go_enter Try.func14, Try.ntmps14
  go_wp2
  go_quiet (fail)
  go_wp2
  go_ret
  exact ⟨rfl, _, rfl⟩

/-! ### Until -/
theorem until_made (b : Nat) (r t : Int) (w : World) (h0 : w.cell? ⟨b, 0, none⟩ = some (.int .u64 r)) (h1 : w.cell? ⟨b, 1, none⟩ = some (.int .u64 t)) (hr : 0 < r) (hr2 : r ≤ 1048576) (g0 : 0 ≤ t) (g1 : t ≤ 9223372036854775808) :
    Calls Try.prog 6 #[.pointer (some ⟨b, 0, none⟩)] w fun e w' => e = .returned (.int .u64 (upDiv t r)) ∧ ∃ n, w' = w.drewN n := by
  go_enter Try.func6, Try.ntmps6
  go_wp2_with fail
  refine (none_made b r w h0 hr).mono ?_
  rintro e w1 ⟨rfl, rfl⟩
  go_wp2_with fail
  refine (ticks_any b r t w h0 hr hr2 g0 g1).mono ?_
  rintro e w1 ⟨rfl, n, rfl⟩
  go_wp2_with fail
  go_ret
  exact ⟨rfl, _, rfl⟩
theorem until_unmade (o : Option Addr) (w : World) (h : Unmade w o) :
    Calls Try.prog 6 #[.pointer o] w fun e w' => e = .returned (.int .u64 0) ∧ w = w' := by
  go_enter Try.func6, Try.ntmps6
  go_wp2_with fail
  refine (none_unmade o w h).mono ?_
  rintro e w1 ⟨rfl, rfl⟩
  go_wp2_with fail
  go_ret
  exact ⟨rfl, rfl⟩

/-! ### Rate -/
/-! ### Free -/
def freeB (t r now : Int) : Bool := decide (upDiv t r ≤ now)
theorem free_made (b : Nat) (r t now : Int) (w : World) (h0 : w.cell? ⟨b, 0, none⟩ = some (.int .u64 r)) (h1 : w.cell? ⟨b, 1, none⟩ = some (.int .u64 t)) (hr : 0 < r) (hr2 : r ≤ 1048576) (g0 : 0 ≤ t) (g1 : t ≤ 9223372036854775808) :
    Calls Try.prog 12 #[.pointer (some ⟨b, 0, none⟩), .int .u64 now] w fun e w' => e = .returned (.bool (freeB t r now)) ∧ ∃ n, w' = w.drewN n := by
  go_enter Try.func12, Try.ntmps12
  go_wp2_with fail
  refine (none_made b r w h0 hr).mono ?_
  rintro e w1 ⟨rfl, rfl⟩
  go_wp2_with fail
  refine (until_made b r t w h0 h1 hr hr2 g0 g1).mono ?_
  rintro e w1 ⟨rfl, n, rfl⟩
  go_wp2_with fail
  go_ret
  exact ⟨rfl, _, rfl⟩
theorem free_unmade (o : Option Addr) (now : Int) (w : World) (h : Unmade w o) :
    Calls Try.prog 12 #[.pointer o, .int .u64 now] w fun e w' => e = .returned (.bool false) ∧ w = w' := by
  go_enter Try.func12, Try.ntmps12
  go_wp2_with fail
  refine (none_unmade o w h).mono ?_
  rintro e w1 ⟨rfl, rfl⟩
  go_wp2_with fail
  go_ret
  exact ⟨rfl, rfl⟩

/-! ### Idle -/
theorem idle_unmade (o : Option Addr) (now : Int) (w : World) (h : Unmade w o) :
    Calls Try.prog 7 #[.pointer o, .int .u64 now] w fun e w' => e = .returned (.tuple #[]) ∧ w = w' := by
  go_enter Try.func7, Try.ntmps7
  go_wp2_with fail
  refine (free_unmade o now w h).mono ?_
  rintro e w1 ⟨rfl, rfl⟩
  go_wp2_with fail
  go_returns
  exact ⟨rfl, rfl⟩
theorem idle_made (b : Nat) (r t now : Int) (i : Bool) (w : World) (h : IsLink w b r t i) (hr : 0 < r) (hr2 : r ≤ 1048576) (g0 : 0 ≤ t) (g1 : t ≤ 9223372036854775808) :
    Calls Try.prog 7 #[.pointer (some ⟨b, 0, none⟩), .int .u64 now] w fun e w' => e = .returned (.tuple #[]) ∧ IsLink w' b r t (i || freeB t r now) ∧ Fr (fun k => k = b) w w' := by
  have h0 := h.c0
  have h1 := h.c1
  have h2 := h.c2
  have f2 := Blk.frozen h 2
  rcases hf : freeB t r now with _ | _
  · have HF := Lib.hid hf
    clear hf
    go_enter Try.func7, Try.ntmps7
    go_wp2_with fail
    refine (free_made b r t now w h0 h1 hr hr2 g0 g1).mono ?_
    rw [HF.out]
    rintro e w1 ⟨rfl, n, rfl⟩
    go_wp2_with fail
    go_returns
    exact ⟨rfl, by rw [Bool.or_false]; exact h, Fr.of_drewN _ _ _⟩
  · have HF := Lib.hid hf
    clear hf
    go_enter Try.func7, Try.ntmps7
    go_wp2_with fail
    refine (free_made b r t now w h0 h1 hr hr2 g0 g1).mono ?_
    rw [HF.out]
    rintro e w1 ⟨rfl, n, rfl⟩
    go_wp2_with fail
    go_returns
    exact ⟨rfl, by rw [Bool.or_true]; exact (Blk.put h 2 (.bool true)).drewN n, ((Fr.refl (fun k => k = b) w).setCell (p := ⟨b, 2, none⟩) (fun _ => rfl) _).drewN n⟩

/-! ### Idles -/
theorem idles_unmade (o : Option Addr) (w : World) (h : Unmade w o) :
    Calls Try.prog 9 #[.pointer o] w fun e w' => e = .returned (.bool false) ∧ w = w' := by
  go_enter Try.func9, Try.ntmps9
  go_wp2_with fail
  refine (none_unmade o w h).mono ?_
  rintro e w1 ⟨rfl, rfl⟩
  go_wp2_with fail
  go_ret
  exact ⟨rfl, rfl⟩
theorem idles_made (b : Nat) (r t : Int) (i : Bool) (w : World) (h : IsLink w b r t i) (hr : 0 < r) :
    Calls Try.prog 9 #[.pointer (some ⟨b, 0, none⟩)] w fun e w' => e = .returned (.bool i) ∧ w = w' := by
  have h0 := h.c0
  have h2 := h.c2
  go_enter Try.func9, Try.ntmps9
  go_wp2_with fail
  refine (none_made b r w h0 hr).mono ?_
  rintro e w1 ⟨rfl, rfl⟩
  go_wp2_with fail
  go_ret
  exact ⟨rfl, rfl⟩

/-! ### Takes -/
theorem takes_unmade (o : Option Addr) (n : Int) (w : World) (h : Unmade w o) :
    Calls Try.prog 11 #[.pointer o, .int .i64 n] w fun e w' => e = .returned (.int .u64 0) ∧ w = w' := by
  go_enter Try.func11, Try.ntmps11
  go_wp2_with fail
  refine (none_unmade o w h).mono ?_
  rintro e w1 ⟨rfl, rfl⟩
  go_wp2_with fail
  go_ret
  exact ⟨rfl, rfl⟩
def lenCap (n : Int) : Int := if n < 65536 then n else 65536
theorem takes_made (b : Nat) (r n : Int) (w : World) (h0 : w.cell? ⟨b, 0, none⟩ = some (.int .u64 r)) (hr : 0 < r) (hr2 : r ≤ 1048576) (hn : 1 ≤ n) :
    Calls Try.prog 11 #[.pointer (some ⟨b, 0, none⟩), .int .i64 n] w fun e w' => e = .returned (.int .u64 (upDiv (lenCap n * 256) r)) ∧ ∃ m, w' = w.drewN m := by
  by_cases hl : n ≤ 65536
  · have HL : Hid (lenCap n = n) := by unfold Hid lenCap; split <;> omega
    rw [HL.out]
    go_enter Try.func11, Try.ntmps11
    go_wp2_with fail
    refine (none_made b r w h0 hr).mono ?_
    rintro e w1 ⟨rfl, rfl⟩
    go_wp2_with fail
    refine (ticks_any b r (n * 256) w h0 hr hr2 (by omega) (by omega)).mono ?_
    rintro e w1 ⟨rfl, n, rfl⟩
    go_wp2_with fail
    go_ret
    exact ⟨rfl, _, rfl⟩
  · have hl2 : 65536 < n := by omega
    have HL : Hid (lenCap n = 65536) := by unfold Hid lenCap; rw [if_neg (by omega)]
    rw [HL.out]
    go_enter Try.func11, Try.ntmps11
    go_wp2_with fail
    refine (none_made b r w h0 hr).mono ?_
    rintro e w1 ⟨rfl, rfl⟩
    go_wp2_with fail
    refine (ticks_any b r _ w h0 hr hr2 (by omega) (by omega)).mono ?_
    rintro e w1 ⟨rfl, n, rfl⟩
    go_wp2_with fail
    go_ret
    exact ⟨rfl, _, rfl⟩

/-! ### Copy -/
theorem copy_nil (w : World) : Calls Try.prog 10 #[.pointer none] w fun e w' => e = .returned (.pointer none) ∧ w = w' := by
  go_enter Try.func10, Try.ntmps10
  go_wp2_with fail
  go_ret
  exact ⟨rfl, rfl⟩

theorem copy_made (b : Nat) (r t : Int) (i : Bool) (w : World) (h : IsLink w b r t i) : Calls Try.prog 10 #[.pointer (some ⟨b, 0, none⟩)] w fun e w' =>
    ∃ c, e = .returned (.pointer (some ⟨c, 0, none⟩)) ∧ w.heap.size ≤ c ∧ IsLink w' c r t i ∧ Below w.heap.size w w' := by
  have h0 := h.c0
  have h1 := h.c1
  have h2 := h.c2
  go_enter Try.func10, Try.ntmps10
  go_wp2_with fail
  go_ret
  exact ⟨_, rfl, Nat.le_refl _, Blk.new _ _ _, by go_grown⟩

/-! ### New -/
theorem new_made (r : Int) (w : World) (h1 : 1 ≤ r) (h2 : r ≤ 1048576) : Calls Try.prog 5 #[.int .u64 r] w fun e w' =>
    e = .returned (.tuple #[.pointer (some ⟨w.heap.size, 0, none⟩), .int .i64 0]) ∧ w' = w.alloc (.cells #[.int .u64 r, .int .u64 0, .bool true] 41) := by
  go_enter Try.func5, Try.ntmps5
  go_wp2_with fail
  go_ret2
  exact ⟨rfl, rfl⟩
theorem new_none (r : Int) (w : World) (h0 : 0 ≤ r) (h1 : r < 1 ∨ 1048576 < r) : Calls Try.prog 5 #[.int .u64 r] w fun e w' =>
    e = .returned (.tuple #[.pointer none, .int .i64 240]) ∧ w = w' := by
  rcases h1 with h1 | h1
  · go_enter Try.func5, Try.ntmps5
    go_wp2_with fail
    go_ret2
    exact ⟨rfl, rfl⟩
  · have h2 : ¬ r < 1 := by omega
    go_enter Try.func5, Try.ntmps5
    go_wp2_with fail
    go_ret2
    exact ⟨rfl, rfl⟩

end Go.Proofs.Ytgkkhdnoikfppaa
