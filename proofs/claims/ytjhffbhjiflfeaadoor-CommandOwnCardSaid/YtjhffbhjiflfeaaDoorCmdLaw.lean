/-
  What the laws of chapter 15 share.
-/
import Derived.Test.YtjhffbhjiflfeaaDoorProg
import Derived.Test.YtjhffbhjiflfeaaDoorCmdAw
namespace Go.Proofs.YtjhffbhjiflfeaaDoor
set_option linter.unusedVariables false
set_option linter.unusedSimpArgs false
set_option maxRecDepth 100000
open Go.RowKit

theorem wf_u8 {a : Int} (h : (Lit.int .u8 a).wf = true) : 0 ≤ a ∧ a < 256 := by
  have := byte_of_wf h
  omega
theorem wf_i64 {a : Int} (h : (Lit.int .i64 a).wf = true) : -9223372036854775808 ≤ a ∧ a ≤ 9223372036854775807 := int_of_wf h
theorem eqB_comm {n : Nat} {c d : Nat → Int} : eqB n c d = eqB n d c := by
  have h : eqB n c d = true ↔ eqB n d c = true := by rw [eqB_iff, eqB_iff]; exact ⟨fun h i hi => (h i hi).symm, fun h i hi => (h i hi).symm⟩
  cases h1 : eqB n c d <;> cases h2 : eqB n d c <;> simp_all
/-- A command and a reply that lie in blocks of their own. -/
structure LawB (w W : World) (b : Nat) (X Y : Array Value) : Prop where
  x : Blk W b 32 X
  y : Blk W (b + 1) 47 Y
  below : Below b w W
theorem LawB.new (w : World) (X Y : Array Value) : LawB w ((w.alloc (.cells X 32)).alloc (.cells Y 47)) w.heap.size X Y :=
  ⟨(Blk.new w _ X).alloc _, Blk.new_at (by simp), by go_grown⟩
theorem LawB.next {w W W' : World} {b : Nat} {X Y : Array Value} (h : LawB w W b X Y) (hb : Below W.heap.size W W') : LawB w W' b X Y :=
  ⟨h.x.next hb, h.y.next hb, h.below.trans (hb.mono (Nat.le_of_lt h.x.lt))⟩
theorem encs_pos (c : Nat → Int) (k : Nat) (k0 : 1 ≤ k) (k1 : k ≤ 7) : 1 ≤ (encs c (slotsOf k)).length := by
  have h : slotsOf k ≠ [] := by
    rcases (show k = 1 ∨ k = 2 ∨ k = 3 ∨ k = 4 ∨ k = 5 ∨ k = 6 ∨ k = 7 by omega) with rfl | rfl | rfl | rfl | rfl | rfl | rfl <;> decide
  cases hL : slotsOf k with
  | nil => exact absurd hL h
  | cons s L =>
    have := List.length_pos_iff.2 (encS_ne s.1 (c s.2))
    simp only [encs, List.length_append]
    omega

end Go.Proofs.YtjhffbhjiflfeaaDoor
