/-
  Numbers as bytes, seven bits each, and back: plain lists and numbers, nothing of the program.
-/
import Derived.Test.YtjhffbhjiflfeaaDoorLib
namespace Go.Proofs.YtjhffbhjiflfeaaDoor
set_option linter.unusedVariables false
set_option linter.unusedSimpArgs false

/-- A number's bytes. -/
def numB (n : Nat) : List Nat := if n < 128 then [n] else (128 + n % 128) :: numB (n / 128)
termination_by n
decreasing_by omega

theorem numB_small {n : Nat} (h : n < 128) : numB n = [n] := by rw [numB, if_pos h]
theorem numB_more {n : Nat} (h : 128 ≤ n) : numB n = (128 + n % 128) :: numB (n / 128) := by rw [numB, if_neg (by omega)]
theorem numB_ne (n : Nat) : numB n ≠ [] := by
  rcases Nat.lt_or_ge n 128 with h | h
  · rw [numB_small h]; simp
  · rw [numB_more h]; simp
theorem numB_byte (n : Nat) : ∀ x ∈ numB n, x < 256 := by
  induction n using Nat.strongRecOn with
  | _ n ih =>
    intro x hx
    rcases Nat.lt_or_ge n 128 with h | h
    · rw [numB_small h] at hx; simp at hx; omega
    · rw [numB_more h] at hx
      rcases List.mem_cons.1 hx with rfl | hx
      · omega
      · exact ih _ (by omega) x hx

/-- What is read at the i-th byte of a number: its part from there on, and what is left; none: it fails. -/
def decB (i : Nat) : List Nat → Option (Nat × List Nat)
  | [] => none
  | b :: t =>
    if 18446744073709551616 ≤ b % 128 * 128 ^ i ∨ (b = 0 ∧ 0 < i) ∨ (128 ≤ b ∧ i = 9) then none
    else if b < 128 then some (b, t)
    else match decB (i + 1) t with
      | none => none
      | some (v, t') => some (b % 128 + 128 * v, t')

theorem pow128_pos (i : Nat) : 0 < 128 ^ i := Nat.pow_pos (by decide)
/-- A number's bytes are read as it, whatever stands behind. -/
theorem decB_num (t : List Nat) : ∀ (n i : Nat), n * 128 ^ i < 18446744073709551616 → (n = 0 → i = 0) → i ≤ 9 → decB i (numB n ++ t) = some (n, t) := by
  intro n
  induction n using Nat.strongRecOn with
  | _ n ih =>
    intro i hn h0 hi
    rcases Nat.lt_or_ge n 128 with h | h
    · rw [numB_small h]
      have e : n % 128 = n := Nat.mod_eq_of_lt h
      simp only [List.cons_append, List.nil_append, decB]
      rw [if_neg (by rw [e]; intro hh; rcases hh with hh | hh | hh <;> omega), if_pos h]
    · rw [numB_more h]
      have hlt : i < 9 := by
        rcases Nat.lt_or_ge i 9 with h9 | h9
        · exact h9
        · have : i = 9 := by omega
          subst this
          have : (128 : Nat) ^ 9 = 9223372036854775808 := by decide
          rw [this] at hn
          omega
      have hd : n / 128 * 128 ^ (i + 1) < 18446744073709551616 := by
        have : n / 128 * 128 ^ (i + 1) = n / 128 * 128 * 128 ^ i := by rw [Nat.pow_succ, Nat.mul_assoc, Nat.mul_comm (128 ^ i) 128]
        rw [this]
        exact Nat.lt_of_le_of_lt (Nat.mul_le_mul_right _ (Nat.div_mul_le_self n 128)) hn
      have hm : (128 + n % 128) % 128 * 128 ^ i < 18446744073709551616 := by
        refine Nat.lt_of_le_of_lt (Nat.mul_le_mul_right _ ?_) hn
        omega
      simp only [List.cons_append, decB]
      rw [if_neg (by intro hh; rcases hh with hh | hh | hh <;> omega), if_neg (by omega), ih (n / 128) (by omega) (i + 1) hd (by omega) (by omega)]
      simp only [Option.some.injEq, Prod.mk.injEq, and_true]
      omega
theorem decB_back {n : Nat} (t : List Nat) (hn : n < 18446744073709551616) : decB 0 (numB n ++ t) = some (n, t) :=
  decB_num t n 0 (by simpa using hn) (fun _ => rfl) (by omega)

/-- What is read has just those bytes. -/
theorem decB_one : ∀ (s : List Nat) (i n : Nat) (t : List Nat), (∀ x ∈ s, x < 256) → decB i s = some (n, t) → s = numB n ++ t ∧ n * 128 ^ i < 18446744073709551616 ∧ (n = 0 → i = 0) := by
  intro s
  induction s with
  | nil => intro i n t _ h; simp [decB] at h
  | cons b s ih =>
    intro i n t hs h
    have hb : b < 256 := hs b (List.mem_cons_self ..)
    rw [decB] at h
    split at h
    · cases h
    · rename_i hg
      split at h
      · rename_i hlt
        simp only [Option.some.injEq, Prod.mk.injEq] at h
        obtain ⟨rfl, rfl⟩ := h
        rw [numB_small hlt]
        have e : b % 128 = b := Nat.mod_eq_of_lt hlt
        rw [e] at hg
        refine ⟨rfl, ?_, ?_⟩
        · rcases Nat.lt_or_ge (b * 128 ^ i) 18446744073709551616 with h' | h'
          · exact h'
          · exact absurd (Or.inl h') hg
        · intro h0
          rcases Nat.eq_zero_or_pos i with h' | h'
          · exact h'
          · exact absurd (Or.inr (Or.inl ⟨h0, h'⟩)) hg
      · rename_i hge
        split at h
        · cases h
        · rename_i v t' hv
          simp only [Option.some.injEq, Prod.mk.injEq] at h
          obtain ⟨rfl, rfl⟩ := h
          obtain ⟨h1, h2, h3⟩ := ih (i + 1) v t' (fun x hx => hs x (List.mem_cons_of_mem _ hx)) hv
          have hv0 : 0 < v := by
            rcases Nat.eq_zero_or_pos v with h' | h'
            · have := h3 h'; omega
            · exact h'
          have hn : 128 ≤ b % 128 + 128 * v := by omega
          have e1 : (b % 128 + 128 * v) % 128 = b % 128 := by omega
          have e2 : (b % 128 + 128 * v) / 128 = v := by omega
          refine ⟨?_, ?_, by omega⟩
          · rw [numB_more hn, e1, e2, h1]
            have : 128 + b % 128 = b := by omega
            rw [this]; rfl
          · have hp : b % 128 * 128 ^ i < 18446744073709551616 := by
              rcases Nat.lt_or_ge (b % 128 * 128 ^ i) 18446744073709551616 with h' | h'
              · exact h'
              · exact absurd (Or.inl h') hg
            have hp128 := pow128_pos i
            have e3 : v * 128 ^ (i + 1) = 128 * v * 128 ^ i := by rw [Nat.pow_succ, Nat.mul_comm (128 ^ i) 128, ← Nat.mul_assoc, Nat.mul_comm v 128]
            rw [e3] at h2
            rcases Nat.lt_or_ge i 10 with h10 | h10
            · have hg9 : ¬ (128 ≤ b ∧ i = 9) := fun h' => hg (Or.inr (Or.inr h'))
              have hi : i = 0 ∨ i = 1 ∨ i = 2 ∨ i = 3 ∨ i = 4 ∨ i = 5 ∨ i = 6 ∨ i = 7 ∨ i = 8 := by omega
              have hQ : ∃ Q : Nat, 128 * 128 ^ i * Q = 18446744073709551616 := by
                rcases hi with rfl | rfl | rfl | rfl | rfl | rfl | rfl | rfl | rfl
                · exact ⟨144115188075855872, by decide⟩
                · exact ⟨1125899906842624, by decide⟩
                · exact ⟨8796093022208, by decide⟩
                · exact ⟨68719476736, by decide⟩
                · exact ⟨536870912, by decide⟩
                · exact ⟨4194304, by decide⟩
                · exact ⟨32768, by decide⟩
                · exact ⟨256, by decide⟩
                · exact ⟨2, by decide⟩
              obtain ⟨Q, hQ⟩ := hQ
              generalize 128 ^ i = P at *
              have hvQ : v < Q := by
                rcases Nat.lt_or_ge v Q with h' | h'
                · exact h'
                · have : 128 * P * Q ≤ 128 * P * v := Nat.mul_le_mul_left _ h'
                  have e5 : 128 * v * P = 128 * P * v := by rw [Nat.mul_right_comm]
                  omega
              have h5 : 128 * P * (v + 1) ≤ 128 * P * Q := Nat.mul_le_mul_left _ hvQ
              have h6 : b % 128 * P ≤ 127 * P := Nat.mul_le_mul_right _ (by omega)
              have e6 : (b % 128 + 128 * v) * P = b % 128 * P + 128 * P * v := by rw [Nat.add_mul, Nat.mul_right_comm 128 v P]
              have e7 : 128 * P * (v + 1) = 128 * P * v + 128 * P := by rw [Nat.mul_add, Nat.mul_one]
              omega
            · exfalso
              have h9 : (128 : Nat) ^ 10 ≤ 128 ^ i := Nat.pow_le_pow_right (by decide) h10
              have e10 : (128 : Nat) ^ 10 = 1180591620717411303424 := by decide
              rw [e10] at h9
              have : 128 * 1 * 128 ^ i ≤ 128 * v * 128 ^ i := Nat.mul_le_mul_right _ (by omega)
              omega
theorem decB_only {s : List Nat} {n : Nat} {t : List Nat} (hs : ∀ x ∈ s, x < 256) (h : decB 0 s = some (n, t)) : s = numB n ++ t ∧ n < 18446744073709551616 := by
  obtain ⟨h1, h2, _⟩ := decB_one s 0 n t hs h
  exact ⟨h1, by simpa using h2⟩

end Go.Proofs.YtjhffbhjiflfeaaDoor
