/-
  Chapter 8's acts, as they come in.
-/
import Derived.Test.YtjlnbpomncglcaaProg
import Derived.Test.YtjlnbpomncglcaaRBAwake
namespace Go.Proofs.Ytjlnbpomncglcaa
set_option linter.unusedVariables false
set_option linter.unusedSimpArgs false
set_option maxRecDepth 100000
open Go.RowKit Go.Shelf

theorem racts_of {w : World} {A : Option Addr} {n : Nat} {N I V : Nat → Int} {D : Nat → Bool} (hA : 0 < n → ∃ b off, A = some ⟨b, off, none⟩ ∧ b < w.heap.size)
    (hN : ∀ b off, A = some ⟨b, off, none⟩ → ∀ i, i < n → w.cell? ⟨b, off + (i * 4 + 0), none⟩ = some (.int .u64 (N i))) (hI : ∀ b off, A = some ⟨b, off, none⟩ → ∀ i, i < n → w.cell? ⟨b, off + (i * 4 + 1), none⟩ = some (.int .i64 (I i)))
    (hV : ∀ b off, A = some ⟨b, off, none⟩ → ∀ i, i < n → w.cell? ⟨b, off + (i * 4 + 2), none⟩ = some (.int .u64 (V i))) (hD : ∀ b off, A = some ⟨b, off, none⟩ → ∀ i, i < n → w.cell? ⟨b, off + (i * 4 + 3), none⟩ = some (.bool (D i))) :
    RActs w A n N I V D :=
  ⟨hA, fun b off h i hi => ⟨by simpa using hN b off h i hi, by simpa [Nat.add_assoc] using hI b off h i hi, by simpa [Nat.add_assoc] using hV b off h i hi, by simpa [Nat.add_assoc] using hD b off h i hi⟩⟩

end Go.Proofs.Ytjlnbpomncglcaa
