/-
  Chapter 9's laws: three trees beside each other.
-/
import Derived.Test.YtjlnbpomncglcaaProg
import Derived.Test.YtjlnbpomncglcaaAugH
namespace Go.Proofs.Ytjlnbpomncglcaa
set_option linter.unusedVariables false
set_option linter.unusedSimpArgs false
set_option maxRecDepth 100000
open Go.RowKit Go.Shelf

theorem dropId_ins {k id v : Int} : ∀ {M : Row}, (∀ p ∈ M, p.1.2 ≠ id) → dropId id (ins (k, id) v M) = M
  | [], _ => by simp [ins, dropId]
  | p :: M, h => by
    have hp := h p (List.mem_cons_self ..)
    have hM : ∀ q ∈ M, q.1.2 ≠ id := fun q hq => h q (List.mem_cons_of_mem _ hq)
    have hf : dropId id (p :: M) = p :: M := List.filter_eq_self.2 fun q hq => by simp [h q hq]
    simp only [ins]
    split
    · show dropId id (((k, id), v) :: p :: M) = _
      unfold dropId at hf ⊢
      rw [List.filter_cons_of_neg (by simp)]
      exact hf
    · show dropId id (p :: ins (k, id) v M) = _
      have := dropId_ins (k := k) (v := v) hM
      unfold dropId at this ⊢
      rw [List.filter_cons_of_pos (by simp [hp]), this]
theorem dropId_aput (id k v : Int) (L : Row) : dropId id (aput id k v L) = dropId id L := dropId_ins fun p hp => (mem_dropId.1 hp).2
theorem aput_twice (id k v k' v' : Int) (L : Row) : aput id k v (aput id k' v' L) = aput id k v L := by
  show ins (k, id) v (dropId id (aput id k' v' L)) = _
  rw [dropId_aput]
  rfl
theorem agIs_aput (id k v : Int) {L : Row} (ho : Once L) : agK id (aput id k v L) = k ∧ agV id (aput id k v L) = v ∧ agIs id (aput id k v L) = true := by
  have : afind id (aput id k v L) = some ((k, id), v) := by rw [afind_aput ho, if_pos rfl]
  unfold agK agV agIs
  rw [this]
  exact ⟨rfl, rfl, rfl⟩
theorem agIs_dropped (id : Int) (L : Row) : agIs id (dropId id L) = false := by unfold agIs; rw [afind_dropped]; rfl
theorem dropId_twice (id : Int) (L : Row) : dropId id (dropId id L) = dropId id L := dropId_none (afind_dropped id L)
/-- Three trees, apart. -/
structure Trio (w0 w : World) (S S1 S2 : Nat → Prop) (U U1 U2 : Nat) (L L1 L2 : Row) : Prop where
  t : Aug w S U L
  a : Aug w S1 U1 L1
  b : Aug w S2 U2 L2
  d1 : ∀ j, S j → ¬ S1 j
  d2 : ∀ j, S j → ¬ S2 j
  d3 : ∀ j, S1 j → ¬ S2 j
  g : ∀ j, S j → w0.heap.size ≤ j
  g1 : ∀ j, S1 j → w0.heap.size ≤ j
  g2 : ∀ j, S2 j → w0.heap.size ≤ j
  below : Below w0.heap.size w0 w
section
variable {w0 w w' : World} {S S1 S2 : Nat → Prop} {U U1 U2 : Nat} {L L1 L2 L' : Row}
theorem Trio.next (h : Trio w0 w S S1 S2 U U1 U2 L L1 L2) (hb : Below w.heap.size w w') : Trio w0 w' S S1 S2 U U1 U2 L L1 L2 := ⟨h.t.next hb, h.a.next hb, h.b.next hb, h.d1, h.d2, h.d3, h.g, h.g1, h.g2, below_next h.below hb⟩
theorem apart_step {X S S' : Nat → Prop} {N : Nat} (h1 : ∀ j, S' j → S j ∨ N ≤ j) (hX : ∀ j, X j → j < N) (hd : ∀ j, X j → ¬ S j) : ∀ j, X j → ¬ S' j := fun j hj hs => by
  rcases h1 j hs with e | e
  · exact hd j hj e
  · have := hX j hj; omega
theorem Trio.stepA (h : Trio w0 w S S1 S2 U U1 U2 L L1 L2) (k : AugTo w w' S1 U1 L') : ∃ S1', Trio w0 w' S S1' S2 U U1 U2 L L' L2 := by
  obtain ⟨S', h1, h2, h3⟩ := k
  refine ⟨S', h.t.fr h2 h.d1, h1, h.b.fr h2 fun j hj e => h.d3 j e hj, apart_step h3 h.t.lt h.d1, h.d2, fun j hj e => apart_step h3 h.b.lt (fun j hj e => h.d3 j e hj) j e hj, h.g, fun j hj => ?_, h.g2, h.below.trans (h2.below h.below.size fun j hj hs => by have := h.g1 j hs; omega)⟩
  rcases h3 j hj with e | e
  · exact h.g1 j e
  · exact Nat.le_trans h.below.size e
theorem Trio.stepB (h : Trio w0 w S S1 S2 U U1 U2 L L1 L2) (k : AugTo w w' S2 U2 L') : ∃ S2', Trio w0 w' S S1 S2' U U1 U2 L L1 L' := by
  obtain ⟨S', h1, h2, h3⟩ := k
  refine ⟨S', h.t.fr h2 h.d2, h.a.fr h2 h.d3, h1, h.d1, apart_step h3 h.t.lt h.d2, apart_step h3 h.a.lt h.d3, h.g, h.g1, fun j hj => ?_, h.below.trans (h2.below h.below.size fun j hj hs => by have := h.g2 j hs; omega)⟩
  rcases h3 j hj with e | e
  · exact h.g2 j e
  · exact Nat.le_trans h.below.size e
/-- A copy in the second one's place. -/
theorem Trio.copy {U' : Nat} {S' : Nat → Prop} (h : Trio w0 w S S1 S2 U U1 U2 L L1 L2) (hc : Aug w' S' U' L) (hs : ∀ j, S' j → w.heap.size ≤ j) (hb : Below w.heap.size w w') : Trio w0 w' S S' S2 U U' U2 L L L2 :=
  ⟨h.t.next hb, hc, h.b.next hb, fun j hj e => by have := h.t.lt j hj; have := hs j e; omega, h.d2, fun j hj e => by have := h.b.lt j e; have := hs j hj; omega, h.g, fun j hj => Nat.le_trans h.below.size (hs j hj), h.g2, below_next h.below hb⟩
end

end Go.Proofs.Ytjlnbpomncglcaa
