/-
  The chapter's examples answer as the laws of outright.go ask.
-/
import Derived.Test.YtjhffbhjiflfeaaGreatProg
import Derived.Test.YtjhffbhjiflfeaaGreatRatioC
namespace Go.Proofs.YtjhffbhjiflfeaaGreat
set_option linter.unusedVariables false
set_option linter.unusedSimpArgs false
open Go.RowKit Go.Shelf

theorem up_val (a b c d x : Int) (w : World) (ha : Word a) (hb : Word b) (hc : Word c) (ed : upN a b c = d) (ex : errN c = x) :
    Calls Tryz.prog 120 #[.int .u64 a, .int .u64 b, .int .u64 c] w fun e w' => e = .returned (.tuple #[.int .u64 d, .int .i64 x]) ∧ Below w.heap.size w w' := by
  rw [← ed, ← ex]; exact up_any a b c w ha hb hc
theorem plus_val (a b s : Int) (w : World) (ha : Word a) (hb : Word b) (es : stopN (a + b) = s) : Calls Tryz.prog 118 #[.int .u64 a, .int .u64 b] w fun e w' => e = .returned (.int .u64 s) ∧ w = w' := by
  rw [← es]; exact plus_any a b w ha hb
theorem minus_val (a b s : Int) (w : World) (ha : Word a) (hb : Word b) (es : minusN a b = s) : Calls Tryz.prog 145 #[.int .u64 a, .int .u64 b] w fun e w' => e = .returned (.int .u64 s) ∧ w = w' := by
  rw [← es]; exact minus_any a b w ha hb
theorem times_val (a b s : Int) (w : World) (ha : Word a) (hb : Word b) (es : stopN (a * b) = s) : Calls Tryz.prog 121 #[.int .u64 a, .int .u64 b] w fun e w' => e = .returned (.int .u64 s) ∧ Below w.heap.size w w' := by
  rw [← es]; exact times_any a b w ha hb
end Go.Proofs.YtjhffbhjiflfeaaGreat
