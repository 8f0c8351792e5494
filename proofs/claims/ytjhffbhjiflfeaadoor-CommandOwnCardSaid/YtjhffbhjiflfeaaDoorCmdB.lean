/-
  slices.Grow and slices.Concat at rows of any.
-/
import Derived.Test.YtjhffbhjiflfeaaDoorProg
import Derived.Test.YtjhffbhjiflfeaaDoorCmdA
import Derived.Shelf.Spec.SlicesGrow
namespace Go.Proofs.YtjhffbhjiflfeaaDoor
set_option linter.unusedVariables false
set_option linter.unusedSimpArgs false
set_option maxRecDepth 100000
open Go.RowKit Go.Shelf

def tryGrow_ren : Go.Shelf.Ren := ⟨fun | 4 => 35 | n => n, fun | 22 => 55 | 25 => 20 | 3 => 3 | 4 => 4 | 9 => 9 | 20 => 20 | 0 => 0 | n => n, fun | n => n⟩
theorem tryGrow : Go.Proofs.Lays8.n4 Tryd.prog tryGrow_ren := {
  mixed := by kernel_rfl
  f4 := ⟨Tryd.f35.name, by decide, Tryd.func35.trans (congrArg some (by kernel_rfl))⟩
  t0 := Tryd.underlying0
  a0 := Tryd.isAgg0
  z0 := Tryd.sizeOf0
  v0 := Tryd.zeroValue0
  t3 := Tryd.underlying3
  a3 := Tryd.isAgg3
  z3 := Tryd.sizeOf3
  v3 := Tryd.zeroValue3
  t4 := Tryd.underlying4
  a4 := Tryd.isAgg4
  z4 := Tryd.sizeOf4
  v4 := Tryd.zeroValue4
  t9 := Tryd.underlying9
  a9 := Tryd.isAgg9
  z9 := Tryd.sizeOf9
  v9 := Tryd.zeroValue9
  t20 := Tryd.underlying20
  a20 := Tryd.isAgg20
  z20 := Tryd.sizeOf20
  v20 := Tryd.zeroValue20
  t22 := Tryd.underlying55
  a22 := Tryd.isAgg55
  z22 := Tryd.sizeOf55
  v22 := Tryd.zeroValue55 }

/-- A row of any, made to hold n more: a row of the call's own without anything in it. -/
theorem cmd_grow (n : Nat) (hn : n ≤ 1000) (w : World) :
    Calls Tryd.prog 35 #[.slice none 0 0, .int .i64 n] w fun e w' => ∃ v, e = .returned v ∧ w'.ownsRow w.heap.size 20 1 v 0 [] ∧ Below w.heap.size w w' := by
  by_cases h : n = 0
  · subst h
    refine (Any8.slices_Grow_room tryGrow none 0 0 0 w (by omega) (by omega) (by omega) (by omega)).mono ?_
    rintro e w1 ⟨rfl, rfl⟩
    exact ⟨_, rfl, World.ownsRow_nil _ _ _ _, Below.refl _ _⟩
  · obtain ⟨i0, hi0, hz0, hs0, hb0⟩ := info_parts (show (Tryd.prog.info? 20).map (fun i => (i.zero, i.size, i.bytes)) = some (some .nilIface, 1, 16) by kernel_rfl)
    refine (Any8.slices_Grow_grow tryGrow i0 _ hi0 hz0 (by omega) none 0 0 n [] w (by omega) (by omega) (by rw [hb0]; omega) (by omega) (by simp) (fun _ => rfl) (fun a h => nomatch h)).mono ?_
    rintro e w1 ⟨rfl, hw⟩
    have g1 := grownCap_ge w (0 + n) 0 20
    have g2 := grownCap_le_maxLen w (0 + n) 0 20 (by unfold maxLen; omega)
    have hw2 : w1 = w.drew.alloc (.cells (([] : List Value).toArray ++ Builtin.zeroCells Value.nilIface.cells (0 + n - 0) ++ Builtin.zeroCells Value.nilIface.cells (grownCap w (0 + n) 0 20 - (0 + n))) 20) := hw
    clear hw
    have hsz : (([] : List Value).toArray ++ Builtin.zeroCells Value.nilIface.cells (0 + n - 0) ++ Builtin.zeroCells Value.nilIface.cells (grownCap w (0 + n) 0 20 - (0 + n))).size = grownCap w (0 + n) 0 20 * 1 := by
      have z1 : (Value.nilIface.cells).size = 1 := rfl
      simp only [Array.size_append, size_zeroCells, z1, List.size_toArray, List.length_nil]
      omega
    generalize (([] : List Value).toArray ++ Builtin.zeroCells Value.nilIface.cells (0 + n - 0) ++ Builtin.zeroCells Value.nilIface.cells (grownCap w (0 + n) 0 20 - (0 + n))) = cs at hw2 hsz
    subst hw2
    refine ⟨_, rfl, ⟨rfl, Or.inr ⟨w.heap.size, _, cs, rfl, Nat.le_refl _, heap_alloc_new w.drew _, Nat.zero_le _, g2, hsz, ?_⟩⟩, ?_⟩
    · rw [Nat.zero_mul]; rfl
    · exact (below_of_drew (Below.refl w.heap.size w)).alloc (Nat.le_refl _) _

end Go.Proofs.YtjhffbhjiflfeaaDoor
