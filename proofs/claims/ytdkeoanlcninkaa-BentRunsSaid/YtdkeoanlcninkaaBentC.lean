/-
  A run of a bent curve behind starts: what the laws ask of it.
-/
import Derived.Test.YtdkeoanlcninkaaBentB
namespace Go.Proofs.Ytdkeoanlcninkaa
set_option linter.unusedVariables false
set_option linter.unusedSimpArgs false
open Go.RowKit Go.Shelf

theorem Made.words {F L R n x f r : Int} (h : Made F L R n x f r) : Word F ∧ Word R ∧ Word x ∧ Word f ∧ Word r := by
  have := h.may.f0; have := h.may.f1; have := h.may.r0; have := h.may.r1; have := h.x0; have := h.x1; have := h.f0; have := h.f1; have := h.r0; have := h.r1
  exact ⟨⟨by omega, by omega⟩, ⟨by omega, by omega⟩, ⟨by omega, by omega⟩, ⟨by omega, by omega⟩, ⟨by omega, by omega⟩⟩
theorem bat_m (q : Nat) (F L R n x f r t v : Int) (w : World) (h : IsBent w q F L R n x f r) (hm : Made F L R n x f r) (hn : 0 < n) (wt : Word t) (hv : hasN F R x f r t = v) :
    Calls Try.prog 17 #[.pointer (some ⟨q, 0, none⟩), .int .u64 t] w fun e w' => e = .returned (.int .u64 v) ∧ Below w.heap.size w w' := by
  obtain ⟨wF, wR, wx, wf, wr⟩ := hm.words
  exact bat_made q F L R n x f r t v w h hn wF wR wx wf wr wt hv
theorem last_b (q : Nat) (F L R n x f r : Int) (w : World) (h : IsBent w q F L R n x f r) (hn : 0 < n) : Calls Try.prog 14 #[.pointer (some ⟨q, 0, none⟩)] w fun e w' => e = .returned (.tuple #[.int .u64 x, .bool true]) ∧ Below w.heap.size w w' :=
  (last_made q F L R n x f r w h hn).mono (by rintro e w' ⟨rfl, rfl⟩; exact ⟨rfl, Below.refl _ _⟩)
theorem last_zb (q : Nat) (F L R x f r : Int) (w : World) (h : IsBent w q F L R 0 x f r) : Calls Try.prog 14 #[.pointer (some ⟨q, 0, none⟩)] w fun e w' => e = .returned (.tuple #[.int .u64 0, .bool false]) ∧ Below w.heap.size w w' :=
  (last_zero q F L R x f r w h).mono (by rintro e w' ⟨rfl, rfl⟩; exact ⟨rfl, Below.refl _ _⟩)
theorem starts_b (q : Nat) (F L R n x f r : Int) (w : World) (h : IsBent w q F L R n x f r) (hn : 0 < n) : Calls Try.prog 18 #[.pointer (some ⟨q, 0, none⟩)] w fun e w' => e = .returned (.int .i64 n) ∧ Below w.heap.size w w' :=
  (starts_made q F L R n x f r w h hn).mono (by rintro e w' ⟨rfl, rfl⟩; exact ⟨rfl, Below.refl _ _⟩)
theorem plus_b (a b v : Int) (w : World) (ha : Word a) (hb : Word b) (hv : stopN (a + b) = v) : Calls Try.prog 26 #[.int .u64 a, .int .u64 b] w fun e w' => e = .returned (.int .u64 v) ∧ Below w.heap.size w w' :=
  (plus_any a b w ha hb).mono (by rintro e w' ⟨rfl, rfl⟩; rw [hv]; exact ⟨rfl, Below.refl _ _⟩)
theorem started_at (F L R : Int) (A : Option Addr) (n c : Nat) (X Y : Nat → Int) (w0 w : World) (B : Below w0.heap.size w0 w) (wF : Word F) (wL : Word L) (wR : Word R) (hm : mayB F L R = true) (hb : R < F) (hn : n ≤ 40)
    (hA : 0 < n → ∃ b off, A = some ⟨b, off, none⟩ ∧ b < w0.heap.size) (hX : ∀ i, Word (X i)) (hY : ∀ i, Word (Y i)) (hC : ActsAt w0 A n X Y) :
    Calls Try.prog 21 #[.agg #[.int .u64 F, .int .u64 L, .int .u64 R], .slice A n c] w fun e w' =>
      ∃ p, e = .returned (.pointer (some ⟨p, 0, none⟩)) ∧ w.heap.size ≤ p ∧ IsBent w' p F L R n (runX X n) (runH X Y F 0 n) (runH X Y R ((F - R) * L) n) ∧ Below w.heap.size w w' := by
  refine started_made F L R A n c X Y w wF wL wR hm hb hn (fun h => ?_) hX hY (fun b off hA' i hi => ?_)
  · obtain ⟨b, off, e, k⟩ := hA h
    exact ⟨b, off, e, Nat.lt_of_lt_of_le k B.size⟩
  · obtain ⟨b', off', e, k⟩ := hA (by omega)
    rw [hA'] at e; injection e with e; injection e with e1 e2; subst e1
    have := hC b off hA' i hi
    exact ⟨(B.cell (p := ⟨b, off + i * 4, none⟩) k).trans this.1, (B.cell (p := ⟨b, off + i * 4 + 1, none⟩) k).trans this.2⟩
theorem acts_cut {w : World} {A : Option Addr} {n : Nat} {X Y : Nat → Int} (hX : ∀ b off, A = some ⟨b, off, none⟩ → ∀ i, i < n → w.cell? ⟨b, off + (i * 4 + 0), none⟩ = some (.int .u64 (X i)))
    (hY : ∀ b off, A = some ⟨b, off, none⟩ → ∀ i, i < n → w.cell? ⟨b, off + (i * 4 + 1), none⟩ = some (.int .u64 (Y i))) : ActsAt w A n (cutF X n) (cutF Y n) := by
  intro b off h i hi
  rw [cutF_at hi, cutF_at hi]
  exact ⟨by simpa using hX b off h i hi, by simpa [Nat.add_assoc] using hY b off h i hi⟩

end Go.Proofs.Ytdkeoanlcninkaa
