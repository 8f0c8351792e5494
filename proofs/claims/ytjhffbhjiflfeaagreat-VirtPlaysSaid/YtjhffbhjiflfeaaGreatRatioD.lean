/-
  What the document's rounded quotients are.
-/
import Derived.Test.YtjhffbhjiflfeaaGreatProg
import Derived.Test.YtjhffbhjiflfeaaGreatRatioC
namespace Go.Proofs.YtjhffbhjiflfeaaGreat
set_option linter.unusedVariables false
set_option linter.unusedSimpArgs false
open Go.RowKit Go.Shelf

/-- The long quotient: its words, and what is left. -/
theorem long_quot {h l c q1 r1 q2 r2 : Int} (h0 : Word h) (hl : Word l) (hc : 0 < c) (e1 : DivQ 0 h c = q1) (e2 : DivR 0 h c = r1) (e3 : DivQ r1 l c = q2) (e4 : DivR r1 l c = r2) :
    wv q1 q2 = wv h l / c ∧ r2 = wv h l % c ∧ 0 ≤ r1 ∧ r1 < c ∧ Word q1 ∧ Word q2 ∧ 0 ≤ r2 ∧ r2 < c := by
  unfold DivQ at e1 e3
  unfold DivR at e2 e4
  rw [Int.zero_mul, Int.zero_add] at e1 e2
  have a1 := Int.mul_ediv_add_emod h c
  have a2 := Int.mul_ediv_add_emod (r1 * 18446744073709551616 + l) c
  have a3 := Int.emod_nonneg h (show c ≠ 0 by omega)
  have a4 := Int.emod_lt_of_pos h hc
  have a5 := Int.emod_nonneg (r1 * 18446744073709551616 + l) (show c ≠ 0 by omega)
  have a6 := Int.emod_lt_of_pos (r1 * 18446744073709551616 + l) hc
  rw [e1, e2] at a1
  rw [e3, e4] at a2
  rw [e2] at a3 a4
  rw [e4] at a5 a6
  have q1n : 0 ≤ q1 := by rw [← e1]; exact Int.ediv_nonneg h0.1 (by omega)
  have q1l : q1 ≤ h := by rw [← e1]; exact Int.ediv_le_self _ h0.1
  have k := quot_words a3 hl a4
  have k1 : Word q2 := by rw [← e3]; exact k.1
  have key : wv h l = r2 + c * wv q1 q2 := by
    unfold wv
    rw [Int.mul_add, ← Int.mul_assoc]
    have : h * 18446744073709551616 = c * q1 * 18446744073709551616 + r1 * 18446744073709551616 := by rw [← Int.add_mul, a1]
    omega
  have hcn : c ≠ 0 := by omega
  refine ⟨?_, ?_, a3, a4, ⟨q1n, by have := h0.2; omega⟩, k1, a5, a6⟩
  · rw [key, Int.add_mul_ediv_left _ _ hcn, Int.ediv_eq_zero_of_lt a5 a6, Int.zero_add]
  · rw [key, Int.add_mul_emod_self_left, Int.emod_eq_of_lt a5 a6]

theorem retWB {a b c d : Int} {x y : Bool} (h : a = c) (h' : b = d) (h'' : x = y) : Ending.returned (.tuple #[.agg #[.int .u64 a, .int .u64 b], .bool x]) = .returned (.tuple #[.agg #[.int .u64 c, .int .u64 d], .bool y]) := by rw [h, h', h'']

theorem stopW_wv {h l : Int} (h0 : 0 ≤ h) (hl : Word l) : stopW h l = stopN (wv h l) := by
  obtain ⟨l0, l1⟩ := hl
  unfold stopW stopN wv; split <;> split <;> first | rfl | omega
theorem refstop_val (h l s : Int) (w : World) (h0 : 0 ≤ h) (hl : Word l) (es : stopN (wv h l) = s) : Calls Tryz.prog 82 #[.agg #[.int .u64 h, .int .u64 l]] w fun e w' => e = .returned (.int .u64 s) ∧ Below w.heap.size w w' := by
  rw [← es, ← stopW_wv h0 hl]; exact refstop_any h l w

theorem refplus_hl (h1 l1 h2 l2 h l e : Int) (w : World) (a1 : Word h1) (a2 : Word l1) (a3 : Word h2) (a4 : Word l2) (eh : plusH h1 l1 h2 l2 = h) (el : plusL h1 l1 h2 l2 = l) (ee : plusE h1 l1 h2 l2 = e) :
    Calls Tryz.prog 92 #[.agg #[.int .u64 h1, .int .u64 l1], .agg #[.int .u64 h2, .int .u64 l2]] w fun e' w' => e' = .returned (.tuple #[.agg #[.int .u64 h, .int .u64 l], .int .i64 e]) ∧ Below w.heap.size w w' := by
  rw [← eh, ← el, ← ee]; exact refplus_any h1 l1 h2 l2 w a1 a2 a3 a4

end Go.Proofs.YtjhffbhjiflfeaaGreat
