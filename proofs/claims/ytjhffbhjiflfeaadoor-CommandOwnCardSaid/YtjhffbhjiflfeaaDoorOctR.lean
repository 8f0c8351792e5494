/-
  What the document's eye does.
-/
import Derived.Test.YtjhffbhjiflfeaaDoorProg
import Derived.Test.YtjhffbhjiflfeaaDoorOctF
namespace Go.Proofs.YtjhffbhjiflfeaaDoor
set_option linter.unusedVariables false
set_option linter.unusedSimpArgs false
set_option maxRecDepth 100000
open Go.RowKit

section
variable {w w1 w2 : World} {g : Nat} {l l2 : List Nat} {f f2 : Bool}
end

def doneB (l : List Nat) (f : Bool) : Bool := !f && l.isEmpty
/-! ### A number -/
/-- The value of bytes, of 64 bits. -/
def valB : List Nat → Nat
  | [] => 0
  | b :: t => (128 * valB t + b % 128) % 18446744073709551616
theorem valB_num (n : Nat) (h : n < 18446744073709551616) : valB (numB n) = n := by
  induction n using Nat.strongRecOn with
  | _ n ih =>
    rcases Nat.lt_or_ge n 128 with h1 | h1
    · rw [numB_small h1]; simp only [valB]; omega
    · rw [numB_more h1, valB, ih (n / 128) (by omega) (by omega)]; omega
theorem valB_lt (l : List Nat) : valB l < 18446744073709551616 := by
  cases l with
  | nil => decide
  | cons b t => exact Nat.mod_lt _ (by decide)
/-- The last byte alone is below 128. -/
theorem numB_shape (n : Nat) : ∃ c z, numB n = c ++ [z] ∧ z < 128 ∧ ∀ x ∈ c, 128 ≤ x := by
  induction n using Nat.strongRecOn with
  | _ n ih =>
    rcases Nat.lt_or_ge n 128 with h1 | h1
    · exact ⟨[], n, by rw [numB_small h1]; rfl, h1, fun x hx => by cases hx⟩
    · obtain ⟨c, z, e, hz, hc⟩ := ih (n / 128) (by omega)
      refine ⟨(128 + n % 128) :: c, z, by rw [numB_more h1, e]; rfl, hz, fun x hx => ?_⟩
      rcases List.mem_cons.1 hx with rfl | hx
      · omega
      · exact hc x hx
/-- Where the first byte below 128 stands, there a number that is read ends. -/
theorem end_of_num {l t : List Nat} {n j : Nat} (hn : l = numB n ++ t) (hj : ∀ q, q < j → 128 ≤ l.getD q 0) (hz : j < l.length → l.getD j 0 < 128) (hjl : j ≤ l.length) : j + 1 = (numB n).length := by
  obtain ⟨c, z, e, hz2, hc⟩ := numB_shape n
  have hl : (numB n).length = c.length + 1 := by rw [e]; simp
  have hL : l.length = c.length + 1 + t.length := by rw [hn, List.length_append, hl]
  have at_c : l.getD c.length 0 = z := by rw [hn, e]; simp [List.getD]
  rcases Nat.lt_trichotomy j c.length with h | h | h
  · have h1 := hz (by omega)
    have h2 : 128 ≤ l.getD j 0 := by
      rw [hn, e]
      have : ((c ++ [z]) ++ t).getD j 0 = c.getD j 0 := by simp [List.getD, List.getElem?_append, h, Nat.lt_succ_of_lt h]
      rw [this]
      have : c.getD j 0 = c[j] := by simp [List.getD, h]
      rw [this]
      exact hc _ (List.getElem_mem h)
    omega
  · omega
  · have := hj c.length h
    rw [at_c] at this
    omega
theorem dec_none_of {l : List Nat} {j : Nat} (hb : Bytes l) (hj : ∀ q, q < j → 128 ≤ l.getD q 0) (hz : j < l.length → l.getD j 0 < 128) (hjl : j ≤ l.length) (h : l.length ≤ j ∨ 9 < j ∨ numB (valB (l.take (j + 1))) ≠ l.take (j + 1)) : decB 0 l = none := by
  cases hd : decB 0 l with
  | none => rfl
  | some p =>
    exfalso
    obtain ⟨n, t⟩ := p
    obtain ⟨h1, h2⟩ := decB_only hb hd
    have he := end_of_num h1 hj hz hjl
    have hten := numB_ten h2
    have hL : l.length = (numB n).length + t.length := by rw [h1, List.length_append]
    rcases h with h | h | h
    · omega
    · omega
    · apply h
      have : l.take (j + 1) = numB n := by rw [he, h1]; simp
      rw [this, valB_num n h2]
theorem dec_some_of {l : List Nat} {j : Nat} (h : numB (valB (l.take (j + 1))) = l.take (j + 1)) : decB 0 l = some (valB (l.take (j + 1)), l.drop (j + 1)) := by
  have := decB_back (n := valB (l.take (j + 1))) (l.drop (j + 1)) (valB_lt _)
  rwa [h, List.take_append_drop] at this

theorem bs_at (l : List Nat) (j : Nat) (hb : Bytes l) (h : j < (bs l).size) : ((bs l)[j]'h).toNat = l.getD j 0 := by
  have hj : j < l.length := by rw [bs_size] at h; exact h
  have hx := hb l[j] (List.getElem_mem hj)
  have e : (bs l)[j]'h = (l.map UInt8.ofNat)[j]'(by simpa using hj) := rfl
  rw [e]
  simp [List.getD, hj]
  omega
theorem bs_take' (l : List Nat) (j : Nat) (h : j ≤ l.length) : (bs l).extract 0 j = bs (l.take j) := by
  apply ByteArray.ext
  apply Array.toList_inj.1
  rw [Lib.extract_data, bs_data, bs_data]
  simp [List.map_take]
theorem bs_drop' (l : List Nat) (j : Nat) (h : j ≤ l.length) : (bs l).extract j l.length = bs (l.drop j) := by
  apply ByteArray.ext
  apply Array.toList_inj.1
  rw [Lib.extract_data, bs_data, bs_data]
  simp only [List.map_drop]
  rw [List.take_of_length_le (by simp)]

end Go.Proofs.YtjhffbhjiflfeaaDoor
