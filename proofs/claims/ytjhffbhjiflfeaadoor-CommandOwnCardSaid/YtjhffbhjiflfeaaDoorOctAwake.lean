/-
  The chapter's examples of numbers as bytes, as the laws' awake asks them.
-/
import Derived.Test.YtjhffbhjiflfeaaDoorProg
import Derived.Test.YtjhffbhjiflfeaaDoorOctF
namespace Go.Proofs.YtjhffbhjiflfeaaDoor
set_option linter.unusedVariables false
set_option linter.unusedSimpArgs false
set_option maxRecDepth 100000
open Go.RowKit

instance (l : List Nat) : Decidable (Bytes l) := inferInstanceAs (Decidable (∀ x ∈ l, x < 256))
theorem num_val {n : Nat} {t : List Nat} (l : List Nat) (h : decB 0 l = some (n, t)) : numR l = n ∧ numL l = t ∧ numF l = false := num_some h
theorem nb300 : numB 300 = [172, 2] := by rw [numB_more (by decide), numB_small (by decide)]
theorem nb0 : numB 0 = [0] := numB_small (by decide)
theorem nb128 : numB 128 = [128, 1] := by rw [numB_more (by decide), numB_small (by decide)]
theorem nb1 : numB 1 = [1] := numB_small (by decide)
theorem nb2 : numB 2 = [2] := numB_small (by decide)
theorem nb3 : numB 3 = [3] := numB_small (by decide)
theorem pen_num (B g : Nat) (n : Int) (m : Nat) (t : List Nat) (r : Option Nat) (l : List Nat) (w : World) (h : PenAt w B g r l) (hn : Word n) (hl : l.length + 10 ≤ 100000000000000) (hB : B ≤ w.heap.size) (hm : n.toNat = m) (ht : numB m = t) :
    Calls Tryd.prog 23 #[.pointer (some ⟨g, 0, none⟩), .int .u64 n] w fun e w' => e = .returned (.tuple #[]) ∧ PenTo B g r (l ++ t) w w' := by
  subst ht hm; exact penNum B g n r l w h hn hl hB
theorem pen_int (B g : Nat) (n : Int) (m : Nat) (t : List Nat) (r : Option Nat) (l : List Nat) (w : World) (h : PenAt w B g r l) (n0 : -9223372036854775808 ≤ n) (n1 : n ≤ 9223372036854775807) (hl : l.length + 10 ≤ 100000000000000) (hB : B ≤ w.heap.size) (hm : (zz n).toNat = m) (ht : numB m = t) :
    Calls Tryd.prog 24 #[.pointer (some ⟨g, 0, none⟩), .int .i64 n] w fun e w' => e = .returned (.tuple #[]) ∧ PenTo B g r (l ++ t) w w' := by
  subst ht hm; exact penInt B g n r l w h n0 n1 hl hB
theorem eye_num (g n : Nat) (l t : List Nat) (f : Bool) (w : World) (h : EyeAt w g l f) (hd : decB 0 l = some (n, t)) :
    Calls Tryd.prog 30 #[.pointer (some ⟨g, 0, none⟩)] w fun e w' => e = .returned (.int .u64 n) ∧ EyeTo g t false w w' := by
  obtain ⟨a, b, c⟩ := num_some hd
  have := eyeNum g l f w h
  rwa [a, b, c] at this
theorem eye_int (g n : Nat) (m : Int) (l t : List Nat) (f : Bool) (w : World) (h : EyeAt w g l f) (hd : decB 0 l = some (n, t)) (hm : unz n = m) :
    Calls Tryd.prog 31 #[.pointer (some ⟨g, 0, none⟩)] w fun e w' => e = .returned (.int .i64 m) ∧ EyeTo g t false w w' := by
  obtain ⟨a, b, c⟩ := num_some hd
  have := eyeInt g l f w h
  rwa [a, b, c, hm] at this
theorem eye_bad (g : Nat) (l : List Nat) (f : Bool) (w : World) (h : EyeAt w g l f) (hd : decB 0 l = none) :
    Calls Tryd.prog 30 #[.pointer (some ⟨g, 0, none⟩)] w fun e w' => e = .returned (.int .u64 0) ∧ EyeTo g [] true w w' := by
  obtain ⟨a, b, c⟩ := num_none hd
  have := eyeNum g l f w h
  rwa [a, b, c] at this

end Go.Proofs.YtjhffbhjiflfeaaDoor
