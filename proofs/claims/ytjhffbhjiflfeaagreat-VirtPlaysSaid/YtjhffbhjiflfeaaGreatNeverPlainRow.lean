/-
  Rows of numbers, and one more behind them. Nothing of the program stands here.
-/
import Derived.Test.YtjhffbhjiflfeaaGreatLib2
namespace Go.Proofs.YtjhffbhjiflfeaaGreat
set_option linter.unusedVariables false
set_option linter.unusedSimpArgs false

def upd (F : Nat → Int) (n : Nat) (x : Int) : Nat → Int := fun i => if i = n then x else F i
theorem upd_same (F : Nat → Int) (n : Nat) (x : Int) : upd F n x n = x := by unfold upd; rw [if_pos rfl]
theorem upd_other {F : Nat → Int} {n i : Nat} {x : Int} (h : i ≠ n) : upd F n x i = F i := by unfold upd; rw [if_neg h]
def rowOf (F : Nat → Int) (n : Nat) : List Value := (List.range n).map fun i => .int .u64 (F i)
theorem rowOf_upd (F : Nat → Int) (n : Nat) (x : Int) : rowOf (upd F n x) (n + 1) = rowOf F n ++ [.int .u64 x] := by
  unfold rowOf
  rw [List.range_succ, List.map_append, List.map_singleton, upd_same]
  congr 1
  refine List.map_congr_left fun i hi => ?_
  rw [upd_other (by have := List.mem_range.1 hi; omega)]
theorem rowOf_succ (F : Nat → Int) (n : Nat) : rowOf F (n + 1) = rowOf F n ++ [.int .u64 (F n)] := by
  unfold rowOf; rw [List.range_succ, List.map_append, List.map_singleton]
theorem rowOf_length (F : Nat → Int) (n : Nat) : (rowOf F n).length = n := by simp [rowOf]
theorem rowOf_get {F : Nat → Int} {n j : Nat} (h : j < n) : (rowOf F n)[j]? = some (.int .u64 (F j)) := by
  unfold rowOf
  rw [List.getElem?_map, List.getElem?_range h]; rfl


end Go.Proofs.YtjhffbhjiflfeaaGreat
