/-
  spec.With: a spec with other curves.
-/
import Derived.Test.YtjhffbhjiflfeaaDoorProg
import Derived.Test.YtjhffbhjiflfeaaDoorCmdQ
namespace Go.Proofs.YtjhffbhjiflfeaaDoor
set_option linter.unusedVariables false
set_option linter.unusedSimpArgs false
set_option maxRecDepth 100000
open Go.RowKit

set_option maxHeartbeats 16000000 in
theorem spec_with_lit (s c : Nat → Int) (fs fl : Bool) (w : World) :
    Calls Tryd.prog 12 #[.agg #[.int .i64 (s 0), .int .i64 (s 1), .bool fs, .int .u64 (s 3), .int .u64 (s 4), .int .u64 (s 5), .int .u64 (s 6), .int .u64 (s 7), .int .u64 (s 8), .int .u64 (s 9), .int .u64 (s 10), .int .u64 (s 11), .int .i64 (s 12), .int .i64 (s 13)], .agg #[.int .i64 (c 0), .int .i64 (c 1), .bool fl, .int .u64 (c 3), .int .u64 (c 4), .int .u64 (c 5), .int .u64 (c 6), .int .u64 (c 7), .int .u64 (c 8), .int .u64 (c 9), .int .u64 (c 10), .int .u64 (c 11), .int .i64 (c 12), .int .i64 (c 13)]] w fun e w' => e = .returned (.agg #[.int .i64 (s 0), .int .i64 (s 1), .bool fs, .int .u64 (c 3), .int .u64 (c 4), .int .u64 (c 5), .int .u64 (c 6), .int .u64 (c 7), .int .u64 (c 8), .int .u64 (c 9), .int .u64 (c 10), .int .u64 (c 11), .int .i64 (s 12), .int .i64 (s 13)]) ∧ Below w.heap.size w w' := by
  go_enter Tryd.func12, Tryd.ntmps12
  go_wp2_with (first | go_region)
  refine bodyPost_ret (by simp [results, Tryd.results12, go_sem]; try rfl) rfl ?_
  exact ⟨rfl, by go_grown⟩
theorem spec_with (s c : Nat → Int) (w : World) :
    Calls Tryd.prog 12 #[.agg (rowA specT 14 s), .agg (rowA specT 14 c)] w fun e w' => e = .returned (.agg (rowA specT 14 (over s 3 9 c))) ∧ Below w.heap.size w w' :=
  spec_with_lit s c (decide (s 2 = 1)) (decide (c 2 = 1)) w

end Go.Proofs.YtjhffbhjiflfeaaDoor
