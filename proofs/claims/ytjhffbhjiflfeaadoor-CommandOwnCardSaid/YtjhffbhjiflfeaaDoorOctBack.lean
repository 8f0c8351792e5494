/-
  The walk of the law OctetBack: what is written is read as it was, and nothing is left.
-/
import Derived.Test.YtjhffbhjiflfeaaDoorProg
import Derived.Test.YtjhffbhjiflfeaaDoorOctAwake
import Derived.Test.YtjhffbhjiflfeaaDoorOctG
namespace Go.Proofs.YtjhffbhjiflfeaaDoor
set_option linter.unusedVariables false
set_option linter.unusedSimpArgs false
set_option maxRecDepth 100000
open Go.RowKit

theorem zz_unz {m : Int} (h0 : -9223372036854775808 ≤ m) (h1 : m ≤ 9223372036854775807) : unz (zz m).toNat = m := by
  unfold zz unz
  split <;> split <;> omega
/-- A thing is read as it was written, whatever stands behind. -/
theorem read_back (k n : Int) (t : List Nat) (hn : Word n) (k0 : 0 ≤ k) : readB k n (thingB k n ++ t) = true ∧ readL k (thingB k n ++ t) = t ∧ readF k (thingB k n ++ t) false = false := by
  obtain ⟨n0, n1⟩ := hn
  rcases (show k % 4 = 0 ∨ k % 4 = 1 ∨ k % 4 = 2 ∨ k % 4 = 3 by omega) with hk | hk | hk | hk
  · rw [thingB0 hk]
    unfold readB readL readF
    rw [if_pos hk, if_pos hk, if_pos hk]
    refine ⟨?_, rfl, rfl⟩
    show (((n % 256).toNat : Int) == n % 256) = true
    rw [Int.toNat_of_nonneg (by omega)]; simp
  · rw [thingB1 hk]
    obtain ⟨a, b, c⟩ := num_some (decB_back (n := n.toNat) t (by omega))
    unfold readB readL readF
    rw [if_neg (by omega), if_pos hk, if_neg (by omega), if_pos hk, if_neg (by omega), if_pos hk, a, b, c]
    refine ⟨?_, rfl, rfl⟩
    rw [Int.toNat_of_nonneg n0]; simp
  · rw [thingB2 hk]
    obtain ⟨i0, i1⟩ := i64_range n
    have z := zz_word i0 i1
    obtain ⟨z0, z1⟩ := z
    obtain ⟨a, b, c⟩ := num_some (decB_back (n := (zz (IntKind.i64.wrap n)).toNat) t (by omega))
    unfold readB readL readF
    rw [if_neg (by omega), if_neg (by omega), if_pos hk, if_neg (by omega), if_neg (by omega), if_pos hk, if_neg (by omega), if_neg (by omega), if_pos hk, a, b, c, zz_unz i0 i1]
    exact ⟨by simp, rfl, rfl⟩
  · rw [thingB3 hk]
    unfold readB readL readF
    rw [if_neg (by omega), if_neg (by omega), if_neg (by omega), if_neg (by omega), if_neg (by omega), if_neg (by omega), if_neg (by omega), if_neg (by omega), if_neg (by omega)]
    unfold flagR flagL flagF
    have e : byteR ([flagB (decide (n % 2 = 1))] ++ t) = flagB (decide (n % 2 = 1)) := rfl
    rw [e]
    by_cases h : n % 2 = 1
    · have e2 : (n % 2 == 1) = true := beq_iff_eq.2 h
      rw [e2]
      simp [flagB, h, byteL, byteF]
    · have e2 : (n % 2 == 1) = false := beq_eq_false_iff_ne.2 h
      rw [e2]
      simp [flagB, h, byteL, byteF]

theorem rest_len (K N : Nat → Int) (n : Nat) (h : ∀ i, i < n → Word (N i)) : ∀ c i, i + c ≤ n → (rest K N c i).length ≤ 10 * c := by
  intro c
  induction c with
  | zero => intro i _; simp [rest]
  | succ c ih =>
    intro i hi
    have a := ih (i + 1) (by omega)
    have b := thingB_len (K i) (N i) (h i (by omega))
    rw [rest, List.length_append]
    omega
end Go.Proofs.YtjhffbhjiflfeaaDoor
