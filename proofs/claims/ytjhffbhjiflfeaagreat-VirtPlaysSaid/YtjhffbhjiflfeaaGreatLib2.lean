/-
  More words on memory that the proofs of this seat share. Nothing of the program stands here.
-/
import Derived.Test.YtjhffbhjiflfeaaGreatLib
import Derived.Defers
namespace Go.Proofs.YtjhffbhjiflfeaaGreat
set_option linter.unusedVariables false
set_option linter.unusedSimpArgs false
open Go.RowKit

theorem Blk.get {w : World} {b : Nat} {t : TypeId} {cs : Array Value} (h : Blk w b t cs) (i : Nat) {v : Value} (hv : cs[i]? = some v) : w.cell? ⟨b, i, none⟩ = some v := (h.cell i).trans hv
theorem Blk.new_at {w : World} {t : TypeId} {cs : Array Value} {k : Nat} (hk : k = w.heap.size) : Blk (w.alloc (.cells cs t)) k t cs := by subst hk; exact Blk.new w t cs
theorem Fr.of_drewN (w : World) (S : Nat → Prop) (n : Nat) : Fr S w (w.drewN n) := ⟨rfl, rfl, rfl, Nat.le_refl _, fun _ _ _ => rfl⟩
theorem below_of_drewN (w : World) (B n : Nat) : Below B w (w.drewN n) := ⟨rfl, rfl, rfl, Nat.le_refl _, fun _ _ => rfl⟩
/-- Nothing that was there turns: then whatever may be turned. -/
theorem Fr.of_new {S : Nat → Prop} {w w' : World} (h : Below w.heap.size w w') : Fr S w w' := ⟨h.os, h.tape, h.output, h.size, fun k hk _ => h.block k hk⟩
theorem Fr.next {S : Nat → Prop} {w w1 w2 : World} (h : Fr S w w1) (k : Below w1.heap.size w1 w2) : Fr S w w2 := h.trans (Fr.of_new k)
theorem Blk.next {w w' : World} {b : Nat} {t : TypeId} {cs : Array Value} (h : Blk w b t cs) (k : Below w.heap.size w w') : Blk w' b t cs := h.below k h.lt
theorem below_step {w w1 w1' w2 : World} (h : Below w.heap.size w w1) (k : Below w1.heap.size w1 w1') (h' : Below w1'.heap.size w1' w2) : Below w.heap.size w w2 := below_next (below_next h k) h'
instance (x : Int) : Decidable (Word x) := inferInstanceAs (Decidable (0 ≤ x ∧ x < 18446744073709551616))
/-- A block of two cells, and all that was there at W: kept by a call that makes memory alone. -/
theorem held_keep {W w1 w2 : World} {p : Nat} {t : TypeId} {c0 c1 : Value} (h : (w1.cell? ⟨p, 0, none⟩ = some c0 ∧ w1.cell? ⟨p, 1, none⟩ = some c1) ∧ Blk w1 p t #[c0, c1] ∧ Below W.heap.size W w1) (hb : Below w1.heap.size w1 w2) :
    (w2.cell? ⟨p, 0, none⟩ = some c0 ∧ w2.cell? ⟨p, 1, none⟩ = some c1) ∧ Blk w2 p t #[c0, c1] ∧ Below W.heap.size W w2 := by
  have k := Blk.next h.2.1 hb
  exact ⟨⟨k.get 0 rfl, k.get 1 rfl⟩, k, below_next h.2.2 hb⟩
theorem held_start {W w1 : World} {p : Nat} {t : TypeId} {c0 c1 : Value} (k : Blk w1 p t #[c0, c1]) (hb : Below W.heap.size W w1) :
    (w1.cell? ⟨p, 0, none⟩ = some c0 ∧ w1.cell? ⟨p, 1, none⟩ = some c1) ∧ Blk w1 p t #[c0, c1] ∧ Below W.heap.size W w1 :=
  ⟨⟨k.get 0 rfl, k.get 1 rfl⟩, k, hb⟩
theorem held_drew {W w1 : World} {p : Nat} {t : TypeId} {c0 c1 : Value} (h : (w1.cell? ⟨p, 0, none⟩ = some c0 ∧ w1.cell? ⟨p, 1, none⟩ = some c1) ∧ Blk w1 p t #[c0, c1] ∧ Below W.heap.size W w1) :
    (w1.drew.cell? ⟨p, 0, none⟩ = some c0 ∧ w1.drew.cell? ⟨p, 1, none⟩ = some c1) ∧ Blk w1.drew p t #[c0, c1] ∧ Below W.heap.size W w1.drew :=
  held_keep h (below_of_drewN w1 _ 1)
/-- Both cells of a block are stored to. -/
theorem Blk.puts {w : World} {b : Nat} {t : TypeId} {c0 c1 : Value} (h : Blk w b t #[c0, c1]) (x y : Value) :
    (w.setCell ⟨b, 0, none⟩ x).cell? ⟨b, 0, none⟩ = some x ∧ ((w.setCell ⟨b, 0, none⟩ x).setCell ⟨b, 1, none⟩ y).cell? ⟨b, 1, none⟩ = some y ∧ Blk ((w.setCell ⟨b, 0, none⟩ x).setCell ⟨b, 1, none⟩ y) b t #[x, y] := by
  have a := Blk.put h 0 x
  have c := Blk.put a 1 y
  exact ⟨Blk.get a 0 rfl, Blk.get c 1 rfl, c⟩
theorem below_of_drew {W w1 : World} {B : Nat} (h : Below B W w1) : Below B W w1.drew := below_drewN' h 1
/-- Behind a call that makes memory alone all cells and marks are as they were: as the walk takes it. -/
theorem bcell {W w1 : World} (hb : Below W.heap.size W w1) : (∀ b o, b < W.heap.size → w1.cell? ⟨b, o, none⟩ = W.cell? ⟨b, o, none⟩) ∧ (∀ b o, b < W.heap.size → w1.frozen? ⟨b, o, none⟩ = W.frozen? ⟨b, o, none⟩) :=
  ⟨fun b o h => hb.cell (p := ⟨b, o, none⟩) h, fun b o h => hb.frozen (p := ⟨b, o, none⟩) h⟩

end Go.Proofs.YtjhffbhjiflfeaaGreat
