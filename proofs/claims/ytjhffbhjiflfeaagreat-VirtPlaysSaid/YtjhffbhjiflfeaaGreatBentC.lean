/-
  A run of a bent curve behind starts: what the laws ask of it.
-/
import Derived.Test.YtjhffbhjiflfeaaGreatBentB
namespace Go.Proofs.YtjhffbhjiflfeaaGreat
set_option linter.unusedVariables false
set_option linter.unusedSimpArgs false
open Go.RowKit Go.Shelf

theorem Made.words {F L R n x f r : Int} (h : Made F L R n x f r) : Word F ∧ Word R ∧ Word x ∧ Word f ∧ Word r := by
  have := h.may.f0; have := h.may.f1; have := h.may.r0; have := h.may.r1; have := h.x0; have := h.x1; have := h.f0; have := h.f1; have := h.r0; have := h.r1
  exact ⟨⟨by omega, by omega⟩, ⟨by omega, by omega⟩, ⟨by omega, by omega⟩, ⟨by omega, by omega⟩, ⟨by omega, by omega⟩⟩
theorem plus_b (a b v : Int) (w : World) (ha : Word a) (hb : Word b) (hv : stopN (a + b) = v) : Calls Tryz.prog 118 #[.int .u64 a, .int .u64 b] w fun e w' => e = .returned (.int .u64 v) ∧ Below w.heap.size w w' :=
  (plus_any a b w ha hb).mono (by rintro e w' ⟨rfl, rfl⟩; rw [hv]; exact ⟨rfl, Below.refl _ _⟩)
theorem acts_cut {w : World} {A : Option Addr} {n : Nat} {X Y : Nat → Int} (hX : ∀ b off, A = some ⟨b, off, none⟩ → ∀ i, i < n → w.cell? ⟨b, off + (i * 4 + 0), none⟩ = some (.int .u64 (X i)))
    (hY : ∀ b off, A = some ⟨b, off, none⟩ → ∀ i, i < n → w.cell? ⟨b, off + (i * 4 + 1), none⟩ = some (.int .u64 (Y i))) : ActsAt w A n (cutF X n) (cutF Y n) := by
  intro b off h i hi
  rw [cutF_at hi, cutF_at hi]
  exact ⟨by simpa using hX b off h i hi, by simpa [Nat.add_assoc] using hY b off h i hi⟩

end Go.Proofs.YtjhffbhjiflfeaaGreat
