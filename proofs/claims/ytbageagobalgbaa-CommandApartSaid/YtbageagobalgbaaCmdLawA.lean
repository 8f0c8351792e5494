/-
  What the law CommandApart carries.
-/
import Derived.Test.YtbageagobalgbaaProg
import Derived.Test.YtbageagobalgbaaCmdY
namespace Go.Proofs.Ytbageagobalgbaa
set_option linter.unusedVariables false
set_option linter.unusedSimpArgs false
set_option maxRecDepth 100000
open Go.RowKit

/-- Two commands and two replies in blocks of their own. -/
structure LawA (w W : World) (b : Nat) (X Y R S : Array Value) : Prop where
  x : Blk W b 32 X
  y : Blk W (b + 1) 32 Y
  r : Blk W (b + 2) 41 R
  s : Blk W (b + 3) 41 S
  below : Below b w W
theorem LawA.next {w W W' : World} {b : Nat} {X Y R S : Array Value} (h : LawA w W b X Y R S) (hb : Below W.heap.size W W') : LawA w W' b X Y R S :=
  ⟨h.x.next hb, h.y.next hb, h.r.next hb, h.s.next hb, h.below.trans (hb.mono (Nat.le_of_lt h.x.lt))⟩
theorem LawA.new (w : World) (X Y R S : Array Value) : LawA w ((((w.alloc (.cells X 32)).alloc (.cells Y 32)).alloc (.cells R 41)).alloc (.cells S 41)) w.heap.size X Y R S :=
  ⟨(((Blk.new w _ X).alloc _).alloc _).alloc _, ((Blk.new_at (by simp)).alloc _).alloc _, (Blk.new_at (by simp)).alloc _, Blk.new_at (by simp), by go_grown⟩

end Go.Proofs.Ytbageagobalgbaa
