/-
  What a product of rows comes to, in plain Lean: the sum of the products, or too much.
-/
import Derived.Test.YtifndlkhhhedlaaWideAwake
namespace Go.Proofs.Ytifndlkhhhedlaa
set_option linter.unusedVariables false
set_option linter.unusedSimpArgs false

/-- The sum of the first k products. -/
def dsum (A B : Nat → Int) : Nat → Int
  | 0 => 0
  | k + 1 => dsum A B k + A k * B k
def dotE (x : Int) : Int := if 340282366920938463463374607431768211456 ≤ x then 10 else 0
def dotH (x : Int) : Int := if 340282366920938463463374607431768211456 ≤ x then 0 else x / 18446744073709551616
def dotL (x : Int) : Int := if 340282366920938463463374607431768211456 ≤ x then 0 else x % 18446744073709551616
theorem dsum_mono {A B : Nat → Int} {n : Nat} (hA : ∀ i, i < n → Word (A i)) (hB : ∀ i, i < n → Word (B i)) : ∀ d k, k + d ≤ n → dsum A B k ≤ dsum A B (k + d) := by
  intro d
  induction d with
  | zero => intro k _; exact Int.le_refl _
  | succ d ih =>
    intro k h
    have h1 := ih k (by omega)
    have h2 := Int.mul_nonneg (hA (k + d) (by omega)).1 (hB (k + d) (by omega)).1
    show dsum A B k ≤ dsum A B (k + d) + A (k + d) * B (k + d)
    omega
theorem dsum_nonneg {A B : Nat → Int} {n : Nat} (hA : ∀ i, i < n → Word (A i)) (hB : ∀ i, i < n → Word (B i)) (k : Nat) (hk : k ≤ n) : 0 ≤ dsum A B k := by
  have := dsum_mono hA hB k 0 (by omega)
  rw [Nat.zero_add] at this
  exact this
/-- One product more: what Plus answers, from a sum that is not too much. -/
theorem dot_step {A B : Nat → Int} {n i : Nat} (hA : ∀ i, i < n → Word (A i)) (hB : ∀ i, i < n → Word (B i)) (hi : i < n) (hs : dsum A B i < 340282366920938463463374607431768211456) {H L : Int}
    (eH : A i * B i / 18446744073709551616 = H) (eL : A i * B i % 18446744073709551616 = L) :
    plusH (dsum A B i / 18446744073709551616) (dsum A B i % 18446744073709551616) H L = dotH (dsum A B (i + 1)) ∧
    plusL (dsum A B i / 18446744073709551616) (dsum A B i % 18446744073709551616) H L = dotL (dsum A B (i + 1)) ∧
    plusE (dsum A B i / 18446744073709551616) (dsum A B i % 18446744073709551616) H L = dotE (dsum A B (i + 1)) := by
  have e : dsum A B (i + 1) = dsum A B i + A i * B i := rfl
  have h0 := dsum_nonneg hA hB i (by omega)
  obtain ⟨x, hx⟩ : ∃ x, dsum A B i = x := ⟨_, rfl⟩
  obtain ⟨p, hp⟩ : ∃ p, A i * B i = p := ⟨_, rfl⟩
  rw [e, hx, hp]
  rw [hx] at h0 hs
  rw [hp] at eH eL
  unfold plusH plusL plusE dotH dotL dotE
  refine ⟨?_, ?_, ?_⟩ <;> split <;> split <;> omega
/-- Too much once, too much at last. -/
theorem dot_over {A B : Nat → Int} {n i : Nat} (hA : ∀ i, i < n → Word (A i)) (hB : ∀ i, i < n → Word (B i)) (hi : i ≤ n) (h : 340282366920938463463374607431768211456 ≤ dsum A B i) : 340282366920938463463374607431768211456 ≤ dsum A B n := by
  have := dsum_mono hA hB (n - i) i (by omega)
  rw [show i + (n - i) = n by omega] at this
  omega

end Go.Proofs.Ytifndlkhhhedlaa
