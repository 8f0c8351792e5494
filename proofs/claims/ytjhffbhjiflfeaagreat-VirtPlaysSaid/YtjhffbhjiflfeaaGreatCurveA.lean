/-
  The pieces of a curve, one behind the other: the iterator's contract.
-/
import Derived.RangeFuncNested
import Derived.RangeFuncBound
import Derived.RangeFuncCalls
import Derived.RangeFuncLeaves
import Derived.Shelf.Abstract
import Derived.Shelf.RegionOpen
import Derived.WalkKit
import Derived.OwnWalkIn
import Derived.TacticsInMore
import Derived.LoopNIn
import Derived.LoopIn
import Derived.Test.YtjhffbhjiflfeaaGreatProg
import Derived.Test.YtjhffbhjiflfeaaGreatLib
import Derived.Test.YtjhffbhjiflfeaaGreatLib2
import Derived.Test.YtjhffbhjiflfeaaGreatCurvePlain
namespace Go.Proofs.YtjhffbhjiflfeaaGreat
set_option linter.unusedVariables false
set_option linter.unusedSimpArgs false
open Go.RowKit Go.Shelf

attribute [local go_sem] Oper.semAt_some

theorem KeepsOthers.of_below {W W' : World} (h : Below W.heap.size W W') : KeepsOthers W W' :=
  ⟨h.size, fun k o hk _ => (h.block k (Array.getElem?_eq_some_iff.1 hk).1).trans hk⟩
theorem Blk.own {β : Type} (b : Nat) (t : TypeId) (f : β → Array Value) : Own (fun s W => Blk W b t (f s)) := fun s X Y row hs hg hrow =>
  (hg.block b (lt_of_block hs) (fun e' => by obtain ⟨o, ho, hc⟩ := hrow b e'.symm; rw [show X.heap[b]? = _ from hs] at ho; cases ho; cases hc)).trans hs

theorem ownFrom_size {β : Type} (B m : Nat) : OwnFrom B (fun (_ : β) W => m ≤ W.heap.size) := fun _ _ _ _ hs hg _ => Nat.le_trans hs hg.size

/-- Block b lies as it lay. -/
def KeepsB (b : Nat) (W W' : World) : Prop := W'.heap[b]? = W.heap[b]?
theorem KeepsB.refl (b : Nat) (W : World) : KeepsB b W W := rfl
theorem KeepsB.trans {b : Nat} {A B C : World} (h : KeepsB b A B) (k : KeepsB b B C) : KeepsB b A C := Eq.trans k h
theorem KeepsB.put {b : Nat} {w : World} (hb : b < w.heap.size) (W : World) (l : Nat) (o o' : Obj) (hl : w.heap.size ≤ l) (_ : W.heap[l]? = some o) (_ : o.isCells = false) (_ : o.isWalk = false) : KeepsB b W (W.putObj l o') := World.putObj_heap_other (by omega)
theorem KeepsB.alloc {b : Nat} {W : World} (h : b < W.heap.size) (o : Obj) : KeepsB b W (W.alloc o) := Below.heap_alloc W o b h
theorem KeepsB.far {b : Nat} (W : World) {p : Addr} (h : b ≠ p.block) (u : Value) : KeepsB b W (W.setCell p u) := Below.heap_setCell W p u b h
theorem KeepsB.below {b : Nat} {W W' : World} (h : Below W.heap.size W W') (hb : b < W.heap.size) : KeepsB b W W' := h.block b hb

/-- A piece: a slope, and how long. -/
abbrev Piece := { p : Int × Int // Word p.1 ∧ Word p.2 }
def encPiece (x : Piece) : Array Value := #[.agg #[.int .u64 x.1.1, .int .u64 x.1.2]]
theorem wordMax : Word 18446744073709551615 := by constructor <;> decide
/-- Those of a curve. -/
def piecesOf (F L R : Int) (hF : Word F) (hL : Word L) (hR : Word R) : List Piece :=
  if 0 < L then [⟨(F, L), hF, hL⟩, ⟨(R, 18446744073709551615), hR, wordMax⟩] else [⟨(R, 18446744073709551615), hR, wordMax⟩]

theorem pieces_any (F L R : Int) (w : World) : Calls Tryz.prog 146 #[.agg #[.int .u64 F, .int .u64 L, .int .u64 R]] w fun e w' =>
    e = .returned (.func (.func 148) #[] #[.pointer (some ⟨w.heap.size, 0, none⟩)]) ∧ w' = w.alloc (.cells #[.int .u64 F, .int .u64 L, .int .u64 R] 32) := by
  go_enter Tryz.func146, Tryz.ntmps146
  go_wp2_with fail
  go_ret
  exact ⟨rfl, rfl⟩

set_option maxRecDepth 100000 in
set_option maxHeartbeats 1000000 in
theorem pieces_stops (n : Nat) (hn : 1 ≤ n) (Bc : Nat) (F L R : Int) (hF : Word F) (hL : Word L) (hR : Word R) (w : World)
    (hc : Blk w Bc 32 #[.int .u64 F, .int .u64 L, .int .u64 R]) :
    SeqStopsK Fence.wide n Tryz.prog 148 #[.pointer (some ⟨Bc, 0, none⟩)] encPiece (KeepsB Bc) (fun ys => ys = piecesOf F L R hF hL hR) (fun pre => pre <+: piecesOf F L R hF hL hR) 2 w := fun l J Jx W hW _ _ hY h0 => by
  refine callsIn_of_wp Tryz.func148 rfl trivial ?_ rfl
  simp only [Tryz.ntmps148, List.size_toArray, List.length_cons, List.length_nil, Nat.reduceAdd, Nat.reduceSub, Array.replicate_succ, Array.replicate_zero, List.push_toArray, List.append_toArray, List.nil_append, List.cons_append]
  have hcW : Blk W Bc 32 #[.int .u64 F, .int .u64 L, .int .u64 R] := hc.next hW
  have g0 := hcW.get 0 rfl
  have g1 := hcW.get 1 rfl
  have g2 := hcW.get 2 rfl
  unfold piecesOf
  by_cases hl : 0 < L
  · rw [if_pos hl]
    obtain ⟨f1, t1, a1, b1, hy1, hR1⟩ := hY [] ⟨(F, L), hF, hL⟩ W h0 (by simp)
    dsimp only [encPiece] at hy1
    gi_wp2
    refine hR1.mono ?_
    rintro e W1 (⟨rfl, hJ1, hk1⟩ | ⟨rfl, hx1⟩)
    · obtain ⟨f2, t2, a2, b2, hy2, hR2⟩ := hY [⟨(F, L), hF, hL⟩] ⟨(R, 18446744073709551615), hR, wordMax⟩ W1 hJ1 (by simp)
      dsimp only [encPiece] at hy2
      have g2' : W1.cell? ⟨Bc, 2, none⟩ = some (.int .u64 R) := Blk.get (show Blk W1 Bc 32 #[.int .u64 F, .int .u64 L, .int .u64 R] from Eq.trans hk1 hcW) 2 rfl
      gi_wp2
      refine hR2.mono ?_
      rintro e W2 (⟨rfl, hJ2, _⟩ | ⟨rfl, hx2⟩)
      · gi_wp2
        go_end0
        exact ⟨⟨_, rfl⟩, .inl ⟨_, rfl, hJ2⟩⟩
      · gi_wp2
        go_end0
        exact ⟨⟨_, rfl⟩, .inr ⟨_, List.prefix_refl _, hx2⟩⟩
    · gi_wp2
      refine bodyPost_ret (results_none rfl _ _ _) rfl ?_
      exact ⟨⟨_, rfl⟩, .inr ⟨_, ⟨_, rfl⟩, hx1⟩⟩
  · rw [if_neg hl]
    obtain ⟨f2, t2, a2, b2, hy2, hR2⟩ := hY [] ⟨(R, 18446744073709551615), hR, wordMax⟩ W h0 (by simp)
    dsimp only [encPiece] at hy2
    have hl' : L ≤ 0 := by omega
    gi_wp2
    refine ⟨fun _ h => (by cases h), ?_⟩
    gi_wp2
    refine hR2.mono ?_
    rintro e W2 (⟨rfl, hJ2, _⟩ | ⟨rfl, hx2⟩)
    · gi_wp2
      go_end0
      exact ⟨⟨_, rfl⟩, .inl ⟨_, rfl, hJ2⟩⟩
    · gi_wp2
      go_end0
      exact ⟨⟨_, rfl⟩, .inr ⟨_, List.prefix_refl _, hx2⟩⟩

end Go.Proofs.YtjhffbhjiflfeaaGreat
