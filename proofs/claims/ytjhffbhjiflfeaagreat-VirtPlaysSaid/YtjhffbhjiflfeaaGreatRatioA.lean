/-
  What the program's package ratio computes: sums, differences, halves.
-/
import Derived.Test.YtjhffbhjiflfeaaGreatProg
import Derived.Test.YtjhffbhjiflfeaaGreatLib
namespace Go.Proofs.YtjhffbhjiflfeaaGreat
set_option linter.unusedVariables false
set_option linter.unusedSimpArgs false
open Go.RowKit

/-- A number that stops. -/
def stopN (n : Int) : Int := if n > 4611686018427387904 then 4611686018427387904 else n
def stopB (n : Int) (o : Bool) : Int := if o then 4611686018427387904 else stopN n

theorem stopped_any (n : Int) (o : Bool) (w : World) : Calls Tryz.prog 122 #[.int .u64 n, .bool o] w fun e w' => e = .returned (.int .u64 (stopB n o)) ∧ w = w' := by
  cases o
  · go_enter Tryz.func122, Tryz.ntmps122
    go_wp2
    all_goals (go_ret; exact ⟨retInt (by unfold stopB stopN; simp; omega), rfl⟩)
  · go_enter Tryz.func122, Tryz.ntmps122
    go_wp2
    all_goals (go_ret; exact ⟨retInt (by unfold stopB; simp), rfl⟩)

theorem stop_plus (a b : Int) (ha : Word a) (hb : Word b) : stopB (IntKind.u64.wrap (a + b)) (decide (IntKind.u64.wrap (a + b) < a)) = stopN (a + b) := by
  obtain ⟨a0, a1⟩ := ha; obtain ⟨b0, b1⟩ := hb
  rw [IntKind.wrap_u64]
  unfold stopB stopN
  by_cases h : (a + b) % 18446744073709551616 < a
  · simp only [h, decide_true, if_true]; split <;> omega
  · simp only [h, decide_false]; split <;> split <;> simp_all <;> omega

theorem plus_any (a b : Int) (w : World) (ha : Word a) (hb : Word b) : Calls Tryz.prog 118 #[.int .u64 a, .int .u64 b] w fun e w' => e = .returned (.int .u64 (stopN (a + b))) ∧ w = w' := by
  have H := Lib.hid (stop_plus a b ha hb)
  clear ha hb
  go_enter Tryz.func118, Tryz.ntmps118
  go_wp2_with (go_at_call 122; refine (stopped_any _ _ _).mono ?_; rintro e w' ⟨rfl, rfl⟩)
  go_ret
  exact ⟨retInt H.out, rfl⟩

def minusN (a b : Int) : Int := if b > a then 0 else stopN (a - b)
theorem minus_any (a b : Int) (w : World) (ha : Word a) (hb : Word b) : Calls Tryz.prog 145 #[.int .u64 a, .int .u64 b] w fun e w' => e = .returned (.int .u64 (minusN a b)) ∧ w = w' := by
  obtain ⟨a0, a1⟩ := ha; obtain ⟨b0, b1⟩ := hb
  by_cases h : a < b
  · go_enter Tryz.func145, Tryz.ntmps145
    go_wp2
    go_ret
    exact ⟨retInt (by unfold minusN; rw [if_pos h]), rfl⟩
  · have h' : b ≤ a := by omega
    go_enter Tryz.func145, Tryz.ntmps145
    go_wp2_with (go_at_call 122; refine (stopped_any _ _ _).mono ?_; rintro e w' ⟨rfl, rfl⟩)
    go_ret
    exact ⟨retInt (by unfold minusN stopB; rw [if_neg (show ¬ b > a by omega)]; rfl), rfl⟩

theorem add_and_xor (a b : Nat) : a + b = 2 * (a &&& b) + (a ^^^ b) := by
  induction a using Nat.strongRecOn generalizing b with
  | _ a ih =>
    rcases Nat.eq_zero_or_pos a with h0 | h0
    · subst h0; simp
    · have hi := ih (a / 2) (by omega) (b / 2)
      have h1 : (a &&& b) / 2 = a / 2 &&& b / 2 := Nat.and_div_two
      have h2 : (a ^^^ b) / 2 = a / 2 ^^^ b / 2 := Nat.xor_div_two
      have h3 : (a &&& b) % 2 = (a % 2) &&& (b % 2) := by have := @Nat.and_mod_two_pow a b 1; simpa using this
      have h4 : (a ^^^ b) % 2 = (a % 2) ^^^ (b % 2) := by have := @Nat.xor_mod_two_pow a b 1; simpa using this
      have t1 : ∀ x y : Nat, x < 2 → y < 2 → 2 * (x &&& y) + (x ^^^ y) = x + y := by
        intro x y hx hy
        match x, hx, y, hy with
        | 0, _, 0, _ => rfl
        | 0, _, 1, _ => rfl
        | 1, _, 0, _ => rfl
        | 1, _, 1, _ => rfl
      have t2 := t1 (a % 2) (b % 2) (by omega) (by omega)
      rw [← h3, ← h4] at t2
      rw [← h1, ← h2] at hi
      omega

theorem half_plain (a b : Int) (ha : Word a) (hb : Word b) : IntKind.u64.wrap (bits BinOp.and IntKind.u64 a b + bits BinOp.xor IntKind.u64 a b / 2) = (a + b) / 2 := by
  obtain ⟨a0, a1⟩ := ha; obtain ⟨b0, b1⟩ := hb
  rw [u64_and a b a0 a1 b0 b1, u64_xor a b a0 a1 b0 b1, IntKind.wrap_u64]
  have h := add_and_xor a.toNat b.toNat
  omega

end Go.Proofs.YtjhffbhjiflfeaaGreat
