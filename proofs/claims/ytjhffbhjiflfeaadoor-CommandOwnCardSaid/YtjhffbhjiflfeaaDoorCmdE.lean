/-
  Where what a command has is, by its kind.
-/
import Derived.Test.YtjhffbhjiflfeaaDoorProg
import Derived.Test.YtjhffbhjiflfeaaDoorCmdD
namespace Go.Proofs.YtjhffbhjiflfeaaDoor
set_option linter.unusedVariables false
set_option linter.unusedSimpArgs false
set_option maxRecDepth 100000
open Go.RowKit

set_option maxHeartbeats 8000000 in
theorem cmd_parts_delete (q : Nat) (w : World) (hk : w.cell? ⟨q, 0, none⟩ = some (.int .u8 4)) :
    Calls Tryd.prog 15 #[.pointer (some ⟨q, 0, none⟩)] w fun e w' => e = .returned (.slice (some ⟨w.heap.size, 0, none⟩) 1 1) ∧ Blk w' w.heap.size 20 #[intAt q 18] ∧ Below w.heap.size w w' := by
  go_enter Tryd.func15, Tryd.ntmps15
  go_wp2_with (first | go_quiet (fail))
  go_ret
  refine ⟨by simp, ?_, ?_⟩
  · exact Blk.new_at (by simp)
  · exact ((Below.refl w.heap.size w).alloc (Nat.le_refl _) _).trans (below_of_drewN _ _ _)

set_option maxHeartbeats 8000000 in
theorem cmd_parts_ask (q : Nat) (w : World) (hk : w.cell? ⟨q, 0, none⟩ = some (.int .u8 7)) :
    Calls Tryd.prog 15 #[.pointer (some ⟨q, 0, none⟩)] w fun e w' => e = .returned (.slice (some ⟨w.heap.size, 0, none⟩) 1 1) ∧ Blk w' w.heap.size 20 #[intAt q 18] ∧ Below w.heap.size w w' := by
  go_enter Tryd.func15, Tryd.ntmps15
  go_wp2_with (first | go_quiet (fail))
  go_ret
  refine ⟨by simp, ?_, ?_⟩
  · exact Blk.new_at (by simp)
  · exact ((Below.refl w.heap.size w).alloc (Nat.le_refl _) _).trans (below_of_drewN _ _ _)

set_option maxHeartbeats 8000000 in
theorem cmd_parts_advance (q : Nat) (w : World) (hk : w.cell? ⟨q, 0, none⟩ = some (.int .u8 6)) :
    Calls Tryd.prog 15 #[.pointer (some ⟨q, 0, none⟩)] w fun e w' => e = .returned (.slice (some ⟨w.heap.size, 0, none⟩) 1 1) ∧ Blk w' w.heap.size 20 #[wordAt q 23] ∧ Below w.heap.size w w' := by
  go_enter Tryd.func15, Tryd.ntmps15
  go_wp2_with (first | go_quiet (fail))
  go_ret
  refine ⟨by simp, ?_, ?_⟩
  · exact Blk.new_at (by simp)
  · exact ((Below.refl w.heap.size w).alloc (Nat.le_refl _) _).trans (below_of_drewN _ _ _)

end Go.Proofs.YtjhffbhjiflfeaaDoor
