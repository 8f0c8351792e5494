/-
  The chapter's examples of wide numbers, as the laws' awake asks them; each contract with its values named.
-/
import Derived.Test.YtifndlkhhhedlaaProg
import Derived.Test.YtifndlkhhhedlaaWideRef
namespace Go.Proofs.Ytifndlkhhhedlaa
set_option linter.unusedVariables false
set_option linter.unusedSimpArgs false
open Go.RowKit Go.Shelf

theorem wdiv_val (h l n q r e : Int) (w : World) (a : Word h) (b : Word l) (c : Word n) (e1 : divQ h l n = q) (e2 : divR h l n = r) (e3 : divE h n = e) : Calls Try.prog 16 #[.agg #[.int .u64 h, .int .u64 l], .int .u64 n] w fun x w' =>
    x = .returned (.tuple #[.int .u64 q, .int .u64 r, .int .i64 e]) ∧ Below w.heap.size w w' := by
  rw [← e1, ← e2, ← e3]; exact wdivs_any h l n w a b c
theorem wplus_val (h1 l1 h2 l2 H L E : Int) (w : World) (a1 : Word h1) (a2 : Word l1) (a3 : Word h2) (a4 : Word l2) (e1 : plusH h1 l1 h2 l2 = H) (e2 : plusL h1 l1 h2 l2 = L) (e3 : plusE h1 l1 h2 l2 = E) :
    Calls Try.prog 12 #[.agg #[.int .u64 h1, .int .u64 l1], .agg #[.int .u64 h2, .int .u64 l2]] w fun e w' => e = .returned (.tuple #[.agg #[.int .u64 H, .int .u64 L], .int .i64 E]) ∧ Below w.heap.size w w' := by
  rw [← e1, ← e2, ← e3]; exact wplus_any h1 l1 h2 l2 w a1 a2 a3 a4
theorem wminus_val (h1 l1 h2 l2 H L E : Int) (w : World) (a1 : Word h1) (a2 : Word l1) (a3 : Word h2) (a4 : Word l2) (e1 : lessH h1 l1 h2 l2 = H) (e2 : lessL h1 l1 h2 l2 = L) (e3 : lessE h1 l1 h2 l2 = E) :
    Calls Try.prog 17 #[.agg #[.int .u64 h1, .int .u64 l1], .agg #[.int .u64 h2, .int .u64 l2]] w fun e w' => e = .returned (.tuple #[.agg #[.int .u64 H, .int .u64 L], .int .i64 E]) ∧ Below w.heap.size w w' := by
  rw [← e1, ← e2, ← e3]; exact wminus_any h1 l1 h2 l2 w a1 a2 a3 a4
theorem cmpw_val (h1 l1 h2 l2 k : Int) (w : World) (a : Word l1) (b : Word l2) (e : cmpN (wv h1 l1) (wv h2 l2) = k) :
    Calls Try.prog 14 #[.agg #[.int .u64 h1, .int .u64 l1], .agg #[.int .u64 h2, .int .u64 l2]] w fun e w' => e = .returned (.int .i64 k) ∧ Below w.heap.size w w' := by
  rw [← e, ← cmpW_words _ _ _ _ a b]; exact cmp_any h1 l1 h2 l2 w
theorem frac_val (a b c d k : Int) (w : World) (wa : Word a) (wb : Word b) (wc : Word c) (wd : Word d) (ek : cmpN (a * d) (c * b) = k) :
    Calls Try.prog 9 #[.int .u64 a, .int .u64 b, .int .u64 c, .int .u64 d] w fun e w' => e = .returned (.int .i64 k) ∧ Below w.heap.size w w' := by
  obtain ⟨h1, e1⟩ : ∃ h, a * d / 18446744073709551616 = h := ⟨_, rfl⟩
  obtain ⟨l1, e2⟩ : ∃ h, a * d % 18446744073709551616 = h := ⟨_, rfl⟩
  obtain ⟨h2, e3⟩ : ∃ h, c * b / 18446744073709551616 = h := ⟨_, rfl⟩
  obtain ⟨l2, e4⟩ : ∃ h, c * b % 18446744073709551616 = h := ⟨_, rfl⟩
  have F1 := Lib.hid (fun w => mul_hl a d h1 l1 w wa wd e1 e2)
  have F2 := Lib.hid (fun w => mul_hl c b h2 l2 w wc wb e3 e4)
  have F3 := Lib.hid (fun w => cmp_val _ _ h1 l1 h2 l2 k w e1 e2 e3 e4 ek)
  clear e1 e2 e3 e4 ek
  go_enter Try.func9, Try.ntmps9
  go_wp2_with fail
  with_reducible refine (F1.out _).mono ?_
  rintro e w1 ⟨rfl, hb1⟩
  have B1 : Below w.heap.size w w1 := by first | with_reducible exact hb1 | exact Below.trans (by go_grown) (hb1.mono (by simp only [World.size_alloc]; omega))
  clear hb1
  go_wp2_with fail
  with_reducible refine (F2.out _).mono ?_
  rintro e w2 ⟨rfl, hb2⟩
  have B2 : Below w.heap.size w w2 := by first | with_reducible exact below_next B1 hb2 | exact below_step B1 (by go_grown) hb2
  clear hb2 B1
  go_wp2_with fail
  with_reducible refine (F3.out _).mono ?_
  rintro e w3 ⟨rfl, hb3⟩
  have B3 : Below w.heap.size w w3 := by first | with_reducible exact below_next B2 hb3 | exact below_step B2 (by go_grown) hb3
  clear hb3 B2
  go_wp2_with fail
  go_ret
  exact ⟨by simp, B3⟩

theorem awake01 (w : World) : Calls Try.prog 11 #[] w fun e w' => e = .returned (.bool true) ∧ Below w.heap.size w w' := by
  have F1 := Lib.hid (fun w => wdiv_val 1 3 10 1844674407370955161 9 0 w (by decide) (by decide) (by decide) (by decide) (by decide) (by decide))
  have F2 := Lib.hid (fun w => wdiv_val 1 0 1 0 0 10 w (by decide) (by decide) (by decide) (by decide) (by decide) (by decide))
  have F3 := Lib.hid (fun w => wdiv_val 0 0 0 0 0 2 w (by decide) (by decide) (by decide) (by decide) (by decide) (by decide))
  have F4 := Lib.hid (fun w => wminus_val 0 0 0 1 0 0 10 w (by decide) (by decide) (by decide) (by decide) (by decide) (by decide) (by decide))
  have F5 := Lib.hid (fun w => mul_hl 4294967296 4294967296 1 0 w (by decide) (by decide) (by decide) (by decide))
  have F6 := Lib.hid (fun w => mul_hl 3 5 0 15 w (by decide) (by decide) (by decide) (by decide))
  have F7 := Lib.hid (fun w => frac_val 1 3 2 5 (-1) w (by decide) (by decide) (by decide) (by decide) (by decide))
  have F8 := Lib.hid (fun w => frac_val 2 6 1 3 0 w (by decide) (by decide) (by decide) (by decide) (by decide))
  have F9 := Lib.hid (fun w => frac_val 1 0 5 1 1 w (by decide) (by decide) (by decide) (by decide) (by decide))
  go_enter Try.func11, Try.ntmps11
  go_wp2_with fail
  with_reducible refine (F1.out _).mono ?_
  rintro e w1 ⟨rfl, hb1⟩
  have B1 : Below w.heap.size w w1 := by first | with_reducible exact hb1 | exact Below.trans (by go_grown) (hb1.mono (by simp only [World.size_alloc]; omega))
  clear hb1
  go_wp2_with fail
  with_reducible refine (F2.out _).mono ?_
  rintro e w2 ⟨rfl, hb2⟩
  have B2 : Below w.heap.size w w2 := by first | with_reducible exact below_next B1 hb2 | exact below_step B1 (by go_grown) hb2
  clear hb2 B1
  go_wp2_with fail
  with_reducible refine (F3.out _).mono ?_
  rintro e w3 ⟨rfl, hb3⟩
  have B3 : Below w.heap.size w w3 := by first | with_reducible exact below_next B2 hb3 | exact below_step B2 (by go_grown) hb3
  clear hb3 B2
  go_wp2_with fail
  with_reducible refine (F4.out _).mono ?_
  rintro e w4 ⟨rfl, hb4⟩
  have B4 : Below w.heap.size w w4 := by first | with_reducible exact below_next B3 hb4 | exact below_step B3 (by go_grown) hb4
  clear hb4 B3
  go_wp2_with fail
  with_reducible refine (F5.out _).mono ?_
  rintro e w5 ⟨rfl, hb5⟩
  have B5 : Below w.heap.size w w5 := by first | with_reducible exact below_next B4 hb5 | exact below_step B4 (by go_grown) hb5
  clear hb5 B4
  go_wp2_with fail
  with_reducible refine (F6.out _).mono ?_
  rintro e w6 ⟨rfl, hb6⟩
  have B6 : Below w.heap.size w w6 := by first | with_reducible exact below_next B5 hb6 | exact below_step B5 (by go_grown) hb6
  clear hb6 B5
  go_wp2_with fail
  with_reducible refine (F7.out _).mono ?_
  rintro e w7 ⟨rfl, hb7⟩
  have B7 : Below w.heap.size w w7 := by first | with_reducible exact below_next B6 hb7 | exact below_step B6 (by go_grown) hb7
  clear hb7 B6
  go_wp2_with fail
  with_reducible refine (F8.out _).mono ?_
  rintro e w8 ⟨rfl, hb8⟩
  have B8 : Below w.heap.size w w8 := by first | with_reducible exact below_next B7 hb8 | exact below_step B7 (by go_grown) hb8
  clear hb8 B7
  go_wp2_with fail
  with_reducible refine (F9.out _).mono ?_
  rintro e w9 ⟨rfl, hb9⟩
  have B9 : Below w.heap.size w w9 := by first | with_reducible exact below_next B8 hb9 | exact below_step B8 (by go_grown) hb9
  clear hb9 B8
  go_wp2_with fail
  go_ret
  exact ⟨by simp, B9⟩

end Go.Proofs.Ytifndlkhhhedlaa
