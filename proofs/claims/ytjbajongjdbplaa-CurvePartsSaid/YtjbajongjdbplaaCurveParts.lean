/-
  The walk of the law CurveParts: a curve by parts has at most its parts.
-/
import Derived.Test.YtjbajongjdbplaaCurveS
namespace Go.Proofs.Ytjbajongjdbplaa
set_option linter.unusedVariables false
set_option linter.unusedSimpArgs false
open Go.RowKit Go.Shelf

set_option maxHeartbeats 8000000 in
theorem curveParts_walk (w : World) (F : Int) (hF : (Lit.int .u64 F).wf = true) (L : Int) (hL : (Lit.int .u64 L).wf = true) (R : Int) (hR : (Lit.int .u64 R).wf = true) (a : Int) (ha : (Lit.int .u64 a).wf = true) (b : Int) (hb : (Lit.int .u64 b).wf = true) (t : Int) (ht : (Lit.int .u64 t).wf = true) :
    Calls Try.prog 9 #[.agg #[.int .u64 F, .int .u64 L, .int .u64 R], .int .u64 a, .int .u64 b, .int .u64 t] w fun e w' => e = .returned (.bool true) ∧ Below w.heap.size w w' := by
  have wF := word_of_wf hF
  have wL := word_of_wf hL
  have wR := word_of_wf hR
  have wa := word_of_wf ha
  have wb := word_of_wf hb
  have wt := word_of_wf ht
  clear hF hL hR ha hb ht
  have AW := Lib.hid (fun w => awake03 w)
  rcases Bool.eq_false_or_eq_true (mayB F L R) with hm | hm
  rotate_left
  · have MA := Lib.hid (fun w => may_val F L R false w wF wL wR hm)
    clear hm
    go_enter Try.func9, Try.ntmps9
    go_wp2_with fail
    with_reducible refine (AW.out _).mono ?_
    rintro e w1 ⟨rfl, hb1⟩
    have Cm : Blk w1 (w.heap.size) 24 #[.int .u64 F, .int .u64 L, .int .u64 R] := Blk.next (by repeat (first | (refine Blk.new_at ?_; simp only [World.size_alloc]; done) | (with_reducible refine Blk.alloc ?_ _) | (with_reducible refine Blk.drewN ?_ _))) hb1
    have Cb := Cm
    clear Cm
    have Cc0 : World.cell? w1 ⟨w.heap.size, 0, none⟩ = some (.int .u64 F) := Cb.get 0 rfl
    have Cf0 := Blk.frozen Cb 0
    have Cc1 : World.cell? w1 ⟨w.heap.size, 1, none⟩ = some (.int .u64 L) := Cb.get 1 rfl
    have Cf1 := Blk.frozen Cb 1
    have Cc2 : World.cell? w1 ⟨w.heap.size, 2, none⟩ = some (.int .u64 R) := Cb.get 2 rfl
    have Cf2 := Blk.frozen Cb 2
    have Cn := Blk.lt Cb
    have B1 : Below w.heap.size w w1 := by first | with_reducible exact hb1 | exact Below.trans (by go_grown) (hb1.mono (by simp only [World.size_alloc]; omega))
    clear hb1
    go_wp2_with fail
    with_reducible refine (MA.out _).mono ?_
    rintro e w2 ⟨rfl, hb2⟩
    have Cm : Blk w2 (w.heap.size) 24 #[.int .u64 F, .int .u64 L, .int .u64 R] := Blk.next (by repeat (first | (with_reducible exact Cb) | (refine Blk.new_at ?_; simp only [World.size_alloc]; done) | (with_reducible refine Blk.alloc ?_ _) | (with_reducible refine Blk.drewN ?_ _))) hb2
    clear Cn Cb Cc0 Cf0 Cc1 Cf1 Cc2 Cf2
    have Cb := Cm
    clear Cm
    have Cc0 : World.cell? w2 ⟨w.heap.size, 0, none⟩ = some (.int .u64 F) := Cb.get 0 rfl
    have Cf0 := Blk.frozen Cb 0
    have Cc1 : World.cell? w2 ⟨w.heap.size, 1, none⟩ = some (.int .u64 L) := Cb.get 1 rfl
    have Cf1 := Blk.frozen Cb 1
    have Cc2 : World.cell? w2 ⟨w.heap.size, 2, none⟩ = some (.int .u64 R) := Cb.get 2 rfl
    have Cf2 := Blk.frozen Cb 2
    have Cn := Blk.lt Cb
    have B2 : Below w.heap.size w w2 := by first | with_reducible exact below_next B1 hb2 | exact below_step B1 (by go_grown) hb2
    clear hb2 B1
    go_wp2_with fail
    go_ret
    exact ⟨by simp, B2⟩
  have MA := Lib.hid (fun w => may_val F L R true w wF wL wR hm)
  by_cases za : 1048576 ≤ a
  · clear hm
    go_enter Try.func9, Try.ntmps9
    go_wp2_with fail
    with_reducible refine (AW.out _).mono ?_
    rintro e w1 ⟨rfl, hb1⟩
    have Cm : Blk w1 (w.heap.size) 24 #[.int .u64 F, .int .u64 L, .int .u64 R] := Blk.next (by repeat (first | (refine Blk.new_at ?_; simp only [World.size_alloc]; done) | (with_reducible refine Blk.alloc ?_ _) | (with_reducible refine Blk.drewN ?_ _))) hb1
    have Cb := Cm
    clear Cm
    have Cc0 : World.cell? w1 ⟨w.heap.size, 0, none⟩ = some (.int .u64 F) := Cb.get 0 rfl
    have Cf0 := Blk.frozen Cb 0
    have Cc1 : World.cell? w1 ⟨w.heap.size, 1, none⟩ = some (.int .u64 L) := Cb.get 1 rfl
    have Cf1 := Blk.frozen Cb 1
    have Cc2 : World.cell? w1 ⟨w.heap.size, 2, none⟩ = some (.int .u64 R) := Cb.get 2 rfl
    have Cf2 := Blk.frozen Cb 2
    have Cn := Blk.lt Cb
    have B1 : Below w.heap.size w w1 := by first | with_reducible exact hb1 | exact Below.trans (by go_grown) (hb1.mono (by simp only [World.size_alloc]; omega))
    clear hb1
    go_wp2_with fail
    with_reducible refine (MA.out _).mono ?_
    rintro e w2 ⟨rfl, hb2⟩
    have Cm : Blk w2 (w.heap.size) 24 #[.int .u64 F, .int .u64 L, .int .u64 R] := Blk.next (by repeat (first | (with_reducible exact Cb) | (refine Blk.new_at ?_; simp only [World.size_alloc]; done) | (with_reducible refine Blk.alloc ?_ _) | (with_reducible refine Blk.drewN ?_ _))) hb2
    clear Cn Cb Cc0 Cf0 Cc1 Cf1 Cc2 Cf2
    have Cb := Cm
    clear Cm
    have Cc0 : World.cell? w2 ⟨w.heap.size, 0, none⟩ = some (.int .u64 F) := Cb.get 0 rfl
    have Cf0 := Blk.frozen Cb 0
    have Cc1 : World.cell? w2 ⟨w.heap.size, 1, none⟩ = some (.int .u64 L) := Cb.get 1 rfl
    have Cf1 := Blk.frozen Cb 1
    have Cc2 : World.cell? w2 ⟨w.heap.size, 2, none⟩ = some (.int .u64 R) := Cb.get 2 rfl
    have Cf2 := Blk.frozen Cb 2
    have Cn := Blk.lt Cb
    have B2 : Below w.heap.size w w2 := by first | with_reducible exact below_next B1 hb2 | exact below_step B1 (by go_grown) hb2
    clear hb2 B1
    go_wp2_with fail
    go_ret
    exact ⟨by simp, B2⟩
  by_cases zb : 1048576 ≤ b
  · clear hm
    go_enter Try.func9, Try.ntmps9
    go_wp2_with fail
    with_reducible refine (AW.out _).mono ?_
    rintro e w1 ⟨rfl, hb1⟩
    have Cm : Blk w1 (w.heap.size) 24 #[.int .u64 F, .int .u64 L, .int .u64 R] := Blk.next (by repeat (first | (refine Blk.new_at ?_; simp only [World.size_alloc]; done) | (with_reducible refine Blk.alloc ?_ _) | (with_reducible refine Blk.drewN ?_ _))) hb1
    have Cb := Cm
    clear Cm
    have Cc0 : World.cell? w1 ⟨w.heap.size, 0, none⟩ = some (.int .u64 F) := Cb.get 0 rfl
    have Cf0 := Blk.frozen Cb 0
    have Cc1 : World.cell? w1 ⟨w.heap.size, 1, none⟩ = some (.int .u64 L) := Cb.get 1 rfl
    have Cf1 := Blk.frozen Cb 1
    have Cc2 : World.cell? w1 ⟨w.heap.size, 2, none⟩ = some (.int .u64 R) := Cb.get 2 rfl
    have Cf2 := Blk.frozen Cb 2
    have Cn := Blk.lt Cb
    have B1 : Below w.heap.size w w1 := by first | with_reducible exact hb1 | exact Below.trans (by go_grown) (hb1.mono (by simp only [World.size_alloc]; omega))
    clear hb1
    go_wp2_with fail
    with_reducible refine (MA.out _).mono ?_
    rintro e w2 ⟨rfl, hb2⟩
    have Cm : Blk w2 (w.heap.size) 24 #[.int .u64 F, .int .u64 L, .int .u64 R] := Blk.next (by repeat (first | (with_reducible exact Cb) | (refine Blk.new_at ?_; simp only [World.size_alloc]; done) | (with_reducible refine Blk.alloc ?_ _) | (with_reducible refine Blk.drewN ?_ _))) hb2
    clear Cn Cb Cc0 Cf0 Cc1 Cf1 Cc2 Cf2
    have Cb := Cm
    clear Cm
    have Cc0 : World.cell? w2 ⟨w.heap.size, 0, none⟩ = some (.int .u64 F) := Cb.get 0 rfl
    have Cf0 := Blk.frozen Cb 0
    have Cc1 : World.cell? w2 ⟨w.heap.size, 1, none⟩ = some (.int .u64 L) := Cb.get 1 rfl
    have Cf1 := Blk.frozen Cb 1
    have Cc2 : World.cell? w2 ⟨w.heap.size, 2, none⟩ = some (.int .u64 R) := Cb.get 2 rfl
    have Cf2 := Blk.frozen Cb 2
    have Cn := Blk.lt Cb
    have B2 : Below w.heap.size w w2 := by first | with_reducible exact below_next B1 hb2 | exact below_step B1 (by go_grown) hb2
    clear hb2 B1
    go_wp2_with fail
    go_ret
    exact ⟨by simp, B2⟩
  by_cases zt : 1099511627776 ≤ t
  · clear hm
    go_enter Try.func9, Try.ntmps9
    go_wp2_with fail
    with_reducible refine (AW.out _).mono ?_
    rintro e w1 ⟨rfl, hb1⟩
    have Cm : Blk w1 (w.heap.size) 24 #[.int .u64 F, .int .u64 L, .int .u64 R] := Blk.next (by repeat (first | (refine Blk.new_at ?_; simp only [World.size_alloc]; done) | (with_reducible refine Blk.alloc ?_ _) | (with_reducible refine Blk.drewN ?_ _))) hb1
    have Cb := Cm
    clear Cm
    have Cc0 : World.cell? w1 ⟨w.heap.size, 0, none⟩ = some (.int .u64 F) := Cb.get 0 rfl
    have Cf0 := Blk.frozen Cb 0
    have Cc1 : World.cell? w1 ⟨w.heap.size, 1, none⟩ = some (.int .u64 L) := Cb.get 1 rfl
    have Cf1 := Blk.frozen Cb 1
    have Cc2 : World.cell? w1 ⟨w.heap.size, 2, none⟩ = some (.int .u64 R) := Cb.get 2 rfl
    have Cf2 := Blk.frozen Cb 2
    have Cn := Blk.lt Cb
    have B1 : Below w.heap.size w w1 := by first | with_reducible exact hb1 | exact Below.trans (by go_grown) (hb1.mono (by simp only [World.size_alloc]; omega))
    clear hb1
    go_wp2_with fail
    with_reducible refine (MA.out _).mono ?_
    rintro e w2 ⟨rfl, hb2⟩
    have Cm : Blk w2 (w.heap.size) 24 #[.int .u64 F, .int .u64 L, .int .u64 R] := Blk.next (by repeat (first | (with_reducible exact Cb) | (refine Blk.new_at ?_; simp only [World.size_alloc]; done) | (with_reducible refine Blk.alloc ?_ _) | (with_reducible refine Blk.drewN ?_ _))) hb2
    clear Cn Cb Cc0 Cf0 Cc1 Cf1 Cc2 Cf2
    have Cb := Cm
    clear Cm
    have Cc0 : World.cell? w2 ⟨w.heap.size, 0, none⟩ = some (.int .u64 F) := Cb.get 0 rfl
    have Cf0 := Blk.frozen Cb 0
    have Cc1 : World.cell? w2 ⟨w.heap.size, 1, none⟩ = some (.int .u64 L) := Cb.get 1 rfl
    have Cf1 := Blk.frozen Cb 1
    have Cc2 : World.cell? w2 ⟨w.heap.size, 2, none⟩ = some (.int .u64 R) := Cb.get 2 rfl
    have Cf2 := Blk.frozen Cb 2
    have Cn := Blk.lt Cb
    have B2 : Below w.heap.size w w2 := by first | with_reducible exact below_next B1 hb2 | exact below_step B1 (by go_grown) hb2
    clear hb2 B1
    go_wp2_with fail
    go_ret
    exact ⟨by simp, B2⟩
  have m := may_of wF wL wR hm
  have a0 := wa.1
  have b0' := wb.1
  have t0 := wt.1
  have e0 : noneB 0 0 0 = true := by decide
  have NO := Lib.hid (fun w => none_any 0 0 0 w)
  rw [e0] at NO
  clear e0
  by_cases hb : b = 0
  · obtain ⟨e1, e2, e3, e4⟩ := parts_zero (a := a) hm hb
    have SC := Lib.hid (fun w => scale_val F L R a b 0 0 0 2 w wF wL wR wa wb e2 e3 e4 e1)
    have zb0 : (b == 0) = true := beq_iff_eq.2 hb
    clear hm m e1 e2 e3 e4 hb
    go_enter Try.func9, Try.ntmps9
    go_wp2_with fail
    with_reducible refine (AW.out _).mono ?_
    rintro e w1 ⟨rfl, hb1⟩
    have Cm : Blk w1 (w.heap.size) 24 #[.int .u64 F, .int .u64 L, .int .u64 R] := Blk.next (by repeat (first | (refine Blk.new_at ?_; simp only [World.size_alloc]; done) | (with_reducible refine Blk.alloc ?_ _) | (with_reducible refine Blk.drewN ?_ _))) hb1
    have Cb := Cm
    clear Cm
    have Cc0 : World.cell? w1 ⟨w.heap.size, 0, none⟩ = some (.int .u64 F) := Cb.get 0 rfl
    have Cf0 := Blk.frozen Cb 0
    have Cc1 : World.cell? w1 ⟨w.heap.size, 1, none⟩ = some (.int .u64 L) := Cb.get 1 rfl
    have Cf1 := Blk.frozen Cb 1
    have Cc2 : World.cell? w1 ⟨w.heap.size, 2, none⟩ = some (.int .u64 R) := Cb.get 2 rfl
    have Cf2 := Blk.frozen Cb 2
    have Cn := Blk.lt Cb
    have B1 : Below w.heap.size w w1 := by first | with_reducible exact hb1 | exact Below.trans (by go_grown) (hb1.mono (by simp only [World.size_alloc]; omega))
    clear hb1
    go_wp2_with fail
    with_reducible refine (MA.out _).mono ?_
    rintro e w2 ⟨rfl, hb2⟩
    have Cm : Blk w2 (w.heap.size) 24 #[.int .u64 F, .int .u64 L, .int .u64 R] := Blk.next (by repeat (first | (with_reducible exact Cb) | (refine Blk.new_at ?_; simp only [World.size_alloc]; done) | (with_reducible refine Blk.alloc ?_ _) | (with_reducible refine Blk.drewN ?_ _))) hb2
    clear Cn Cb Cc0 Cf0 Cc1 Cf1 Cc2 Cf2
    have Cb := Cm
    clear Cm
    have Cc0 : World.cell? w2 ⟨w.heap.size, 0, none⟩ = some (.int .u64 F) := Cb.get 0 rfl
    have Cf0 := Blk.frozen Cb 0
    have Cc1 : World.cell? w2 ⟨w.heap.size, 1, none⟩ = some (.int .u64 L) := Cb.get 1 rfl
    have Cf1 := Blk.frozen Cb 1
    have Cc2 : World.cell? w2 ⟨w.heap.size, 2, none⟩ = some (.int .u64 R) := Cb.get 2 rfl
    have Cf2 := Blk.frozen Cb 2
    have Cn := Blk.lt Cb
    have B2 : Below w.heap.size w w2 := by first | with_reducible exact below_next B1 hb2 | exact below_step B1 (by go_grown) hb2
    clear hb2 B1
    go_wp2_with fail
    with_reducible refine (SC.out _).mono ?_
    rintro e w3 ⟨rfl, hb3⟩
    have Cm : Blk w3 (w.heap.size) 24 #[.int .u64 F, .int .u64 L, .int .u64 R] := Blk.next (by repeat (first | (with_reducible exact Cb) | (refine Blk.new_at ?_; simp only [World.size_alloc]; done) | (with_reducible refine Blk.alloc ?_ _) | (with_reducible refine Blk.drewN ?_ _))) hb3
    clear Cn Cb Cc0 Cf0 Cc1 Cf1 Cc2 Cf2
    have Cb := Cm
    clear Cm
    have Cc0 : World.cell? w3 ⟨w.heap.size, 0, none⟩ = some (.int .u64 F) := Cb.get 0 rfl
    have Cf0 := Blk.frozen Cb 0
    have Cc1 : World.cell? w3 ⟨w.heap.size, 1, none⟩ = some (.int .u64 L) := Cb.get 1 rfl
    have Cf1 := Blk.frozen Cb 1
    have Cc2 : World.cell? w3 ⟨w.heap.size, 2, none⟩ = some (.int .u64 R) := Cb.get 2 rfl
    have Cf2 := Blk.frozen Cb 2
    have Cn := Blk.lt Cb
    have B3 : Below w.heap.size w w3 := by first | with_reducible exact below_next B2 hb3 | exact below_step B2 (by go_grown) hb3
    clear hb3 B2
    go_wp2_with fail
    with_reducible refine (NO.out _).mono ?_
    rintro e w4 ⟨rfl, hb4⟩
    have Cm : Blk w4 (w.heap.size) 24 #[.int .u64 F, .int .u64 L, .int .u64 R] := Blk.next (by repeat (first | (with_reducible exact Cb) | (refine Blk.new_at ?_; simp only [World.size_alloc]; done) | (with_reducible refine Blk.alloc ?_ _) | (with_reducible refine Blk.drewN ?_ _))) hb4
    clear Cn Cb Cc0 Cf0 Cc1 Cf1 Cc2 Cf2
    have Cb := Cm
    clear Cm
    have Cc0 : World.cell? w4 ⟨w.heap.size, 0, none⟩ = some (.int .u64 F) := Cb.get 0 rfl
    have Cf0 := Blk.frozen Cb 0
    have Cc1 : World.cell? w4 ⟨w.heap.size, 1, none⟩ = some (.int .u64 L) := Cb.get 1 rfl
    have Cf1 := Blk.frozen Cb 1
    have Cc2 : World.cell? w4 ⟨w.heap.size, 2, none⟩ = some (.int .u64 R) := Cb.get 2 rfl
    have Cf2 := Blk.frozen Cb 2
    have Cn := Blk.lt Cb
    have Dm : Blk w4 (w3.heap.size) 24 #[.int .u64 0, .int .u64 0, .int .u64 0] := Blk.next (by repeat (first | (refine Blk.new_at ?_; simp only [World.size_alloc]; done) | (with_reducible refine Blk.alloc ?_ _) | (with_reducible refine Blk.drewN ?_ _))) hb4
    have Db := Dm
    clear Dm
    have Dc0 : World.cell? w4 ⟨w3.heap.size, 0, none⟩ = some (.int .u64 0) := Db.get 0 rfl
    have Df0 := Blk.frozen Db 0
    have Dc1 : World.cell? w4 ⟨w3.heap.size, 1, none⟩ = some (.int .u64 0) := Db.get 1 rfl
    have Df1 := Blk.frozen Db 1
    have Dc2 : World.cell? w4 ⟨w3.heap.size, 2, none⟩ = some (.int .u64 0) := Db.get 2 rfl
    have Df2 := Blk.frozen Db 2
    have Dn := Blk.lt Db
    have B4 : Below w.heap.size w w4 := by first | with_reducible exact below_next B3 hb4 | exact below_step B3 (by go_grown) hb4
    clear hb4 B3
    go_wp2_with fail
    go_ret
    exact ⟨by simp, B4⟩
  have b0 : 0 < b := by omega
  have zb0 : (b == 0) = false := beq_eq_false_iff_ne.2 hb
  obtain ⟨o1, o2⟩ := one_may m
  have sF := part_self (b := b) m.f0 m.f1 b0 (by omega)
  have sR := part_self (b := b) m.r0 m.r1 b0 (by omega)
  have sm : mayB (oneF (downN F b b) L (downN R b b)) (oneL (downN F b b) L (downN R b b)) (downN R b b) = true := by rw [sF, sR, o1, o2]; exact hm
  obtain ⟨x1, x2, x3, x4⟩ := parts_is hm hb sm
  rw [sF, sR, o1] at x2
  rw [sF, sR, o2] at x3
  rw [sR] at x4
  have SB := Lib.hid (fun w => scale_val F L R b b F L R 0 w wF wL wR wb wb x2 x3 x4 x1)
  clear x1 x2 x3 x4 sF sR sm o1 o2
  have dF := down_small m.f0 m.f1 a0 (show a < 1048576 by omega) b0
  have dR := down_small m.r0 m.r1 a0 (show a < 1048576 by omega) b0
  rcases Bool.eq_false_or_eq_true (mayB (oneF (downN F a b) L (downN R a b)) (oneL (downN F a b) L (downN R a b)) (downN R a b)) with hq | hq
  rotate_left
  · obtain ⟨e1, e2, e3, e4⟩ := parts_not hm hb hq
    have SC := Lib.hid (fun w => scale_val F L R a b 0 0 0 30 w wF wL wR wa wb e2 e3 e4 e1)
    obtain ⟨s, hs⟩ : ∃ s, downN (max F R) a b = s := ⟨_, rfl⟩
    have hsb : 1048576 < s := by
      rcases one_mayB (F := downN F a b) (R := downN R a b) (by rw [dF.1]; exact dF.2) m.l0 m.l1 (by rw [dR.1]; exact dR.2) with h | h
      · rw [hq] at h; exact absurd h (by decide)
      · rw [← hs, down_max m.f0 m.r0 a0 b0]; exact h
    have wm : Word (max F R) := ⟨by have := m.f0; omega, by have := m.f1; have := m.r1; omega⟩
    have DM := Lib.hid (fun w => down_val (max F R) a b s 0 w wm wa wb hs (by unfold errN; rw [if_neg hb]))
    clear hm m e1 e2 e3 e4 hb hq dF dR hs
    go_enter Try.func9, Try.ntmps9
    go_wp2_with fail
    with_reducible refine (AW.out _).mono ?_
    rintro e w1 ⟨rfl, hb1⟩
    have Cm : Blk w1 (w.heap.size) 24 #[.int .u64 F, .int .u64 L, .int .u64 R] := Blk.next (by repeat (first | (refine Blk.new_at ?_; simp only [World.size_alloc]; done) | (with_reducible refine Blk.alloc ?_ _) | (with_reducible refine Blk.drewN ?_ _))) hb1
    have Cb := Cm
    clear Cm
    have Cc0 : World.cell? w1 ⟨w.heap.size, 0, none⟩ = some (.int .u64 F) := Cb.get 0 rfl
    have Cf0 := Blk.frozen Cb 0
    have Cc1 : World.cell? w1 ⟨w.heap.size, 1, none⟩ = some (.int .u64 L) := Cb.get 1 rfl
    have Cf1 := Blk.frozen Cb 1
    have Cc2 : World.cell? w1 ⟨w.heap.size, 2, none⟩ = some (.int .u64 R) := Cb.get 2 rfl
    have Cf2 := Blk.frozen Cb 2
    have Cn := Blk.lt Cb
    have B1 : Below w.heap.size w w1 := by first | with_reducible exact hb1 | exact Below.trans (by go_grown) (hb1.mono (by simp only [World.size_alloc]; omega))
    clear hb1
    go_wp2_with fail
    with_reducible refine (MA.out _).mono ?_
    rintro e w2 ⟨rfl, hb2⟩
    have Cm : Blk w2 (w.heap.size) 24 #[.int .u64 F, .int .u64 L, .int .u64 R] := Blk.next (by repeat (first | (with_reducible exact Cb) | (refine Blk.new_at ?_; simp only [World.size_alloc]; done) | (with_reducible refine Blk.alloc ?_ _) | (with_reducible refine Blk.drewN ?_ _))) hb2
    clear Cn Cb Cc0 Cf0 Cc1 Cf1 Cc2 Cf2
    have Cb := Cm
    clear Cm
    have Cc0 : World.cell? w2 ⟨w.heap.size, 0, none⟩ = some (.int .u64 F) := Cb.get 0 rfl
    have Cf0 := Blk.frozen Cb 0
    have Cc1 : World.cell? w2 ⟨w.heap.size, 1, none⟩ = some (.int .u64 L) := Cb.get 1 rfl
    have Cf1 := Blk.frozen Cb 1
    have Cc2 : World.cell? w2 ⟨w.heap.size, 2, none⟩ = some (.int .u64 R) := Cb.get 2 rfl
    have Cf2 := Blk.frozen Cb 2
    have Cn := Blk.lt Cb
    have B2 : Below w.heap.size w w2 := by first | with_reducible exact below_next B1 hb2 | exact below_step B1 (by go_grown) hb2
    clear hb2 B1
    go_wp2_with fail
    with_reducible refine (SC.out _).mono ?_
    rintro e w3 ⟨rfl, hb3⟩
    have Cm : Blk w3 (w.heap.size) 24 #[.int .u64 F, .int .u64 L, .int .u64 R] := Blk.next (by repeat (first | (with_reducible exact Cb) | (refine Blk.new_at ?_; simp only [World.size_alloc]; done) | (with_reducible refine Blk.alloc ?_ _) | (with_reducible refine Blk.drewN ?_ _))) hb3
    clear Cn Cb Cc0 Cf0 Cc1 Cf1 Cc2 Cf2
    have Cb := Cm
    clear Cm
    have Cc0 : World.cell? w3 ⟨w.heap.size, 0, none⟩ = some (.int .u64 F) := Cb.get 0 rfl
    have Cf0 := Blk.frozen Cb 0
    have Cc1 : World.cell? w3 ⟨w.heap.size, 1, none⟩ = some (.int .u64 L) := Cb.get 1 rfl
    have Cf1 := Blk.frozen Cb 1
    have Cc2 : World.cell? w3 ⟨w.heap.size, 2, none⟩ = some (.int .u64 R) := Cb.get 2 rfl
    have Cf2 := Blk.frozen Cb 2
    have Cn := Blk.lt Cb
    have B3 : Below w.heap.size w w3 := by first | with_reducible exact below_next B2 hb3 | exact below_step B2 (by go_grown) hb3
    clear hb3 B2
    go_wp2_with fail
    with_reducible refine (SB.out _).mono ?_
    rintro e w4 ⟨rfl, hb4⟩
    have Cm : Blk w4 (w.heap.size) 24 #[.int .u64 F, .int .u64 L, .int .u64 R] := Blk.next (by repeat (first | (with_reducible exact Cb) | (refine Blk.new_at ?_; simp only [World.size_alloc]; done) | (with_reducible refine Blk.alloc ?_ _) | (with_reducible refine Blk.drewN ?_ _))) hb4
    clear Cn Cb Cc0 Cf0 Cc1 Cf1 Cc2 Cf2
    have Cb := Cm
    clear Cm
    have Cc0 : World.cell? w4 ⟨w.heap.size, 0, none⟩ = some (.int .u64 F) := Cb.get 0 rfl
    have Cf0 := Blk.frozen Cb 0
    have Cc1 : World.cell? w4 ⟨w.heap.size, 1, none⟩ = some (.int .u64 L) := Cb.get 1 rfl
    have Cf1 := Blk.frozen Cb 1
    have Cc2 : World.cell? w4 ⟨w.heap.size, 2, none⟩ = some (.int .u64 R) := Cb.get 2 rfl
    have Cf2 := Blk.frozen Cb 2
    have Cn := Blk.lt Cb
    have Dm : Blk w4 (w3.heap.size) 24 #[.int .u64 0, .int .u64 0, .int .u64 0] := Blk.next (by repeat (first | (refine Blk.new_at ?_; simp only [World.size_alloc]; done) | (with_reducible refine Blk.alloc ?_ _) | (with_reducible refine Blk.drewN ?_ _))) hb4
    have Db := Dm
    clear Dm
    have Dc0 : World.cell? w4 ⟨w3.heap.size, 0, none⟩ = some (.int .u64 0) := Db.get 0 rfl
    have Df0 := Blk.frozen Db 0
    have Dc1 : World.cell? w4 ⟨w3.heap.size, 1, none⟩ = some (.int .u64 0) := Db.get 1 rfl
    have Df1 := Blk.frozen Db 1
    have Dc2 : World.cell? w4 ⟨w3.heap.size, 2, none⟩ = some (.int .u64 0) := Db.get 2 rfl
    have Df2 := Blk.frozen Db 2
    have Dn := Blk.lt Db
    have B4 : Below w.heap.size w w4 := by first | with_reducible exact below_next B3 hb4 | exact below_step B3 (by go_grown) hb4
    clear hb4 B3
    go_wp2_with fail
    with_reducible refine (DM.out _).mono ?_
    rintro e w5 ⟨rfl, hb5⟩
    have Cm : Blk w5 (w.heap.size) 24 #[.int .u64 F, .int .u64 L, .int .u64 R] := Blk.next (by repeat (first | (with_reducible exact Cb) | (refine Blk.new_at ?_; simp only [World.size_alloc]; done) | (with_reducible refine Blk.alloc ?_ _) | (with_reducible refine Blk.drewN ?_ _))) hb5
    clear Cn Cb Cc0 Cf0 Cc1 Cf1 Cc2 Cf2
    have Cb := Cm
    clear Cm
    have Cc0 : World.cell? w5 ⟨w.heap.size, 0, none⟩ = some (.int .u64 F) := Cb.get 0 rfl
    have Cf0 := Blk.frozen Cb 0
    have Cc1 : World.cell? w5 ⟨w.heap.size, 1, none⟩ = some (.int .u64 L) := Cb.get 1 rfl
    have Cf1 := Blk.frozen Cb 1
    have Cc2 : World.cell? w5 ⟨w.heap.size, 2, none⟩ = some (.int .u64 R) := Cb.get 2 rfl
    have Cf2 := Blk.frozen Cb 2
    have Cn := Blk.lt Cb
    have Dm : Blk w5 (w3.heap.size) 24 #[.int .u64 0, .int .u64 0, .int .u64 0] := Blk.next (by repeat (first | (with_reducible exact Db) | (refine Blk.new_at ?_; simp only [World.size_alloc]; done) | (with_reducible refine Blk.alloc ?_ _) | (with_reducible refine Blk.drewN ?_ _))) hb5
    clear Dn Db Dc0 Df0 Dc1 Df1 Dc2 Df2
    have Db := Dm
    clear Dm
    have Dc0 : World.cell? w5 ⟨w3.heap.size, 0, none⟩ = some (.int .u64 0) := Db.get 0 rfl
    have Df0 := Blk.frozen Db 0
    have Dc1 : World.cell? w5 ⟨w3.heap.size, 1, none⟩ = some (.int .u64 0) := Db.get 1 rfl
    have Df1 := Blk.frozen Db 1
    have Dc2 : World.cell? w5 ⟨w3.heap.size, 2, none⟩ = some (.int .u64 0) := Db.get 2 rfl
    have Df2 := Blk.frozen Db 2
    have Dn := Blk.lt Db
    have Em : Blk w5 (w4.heap.size) 24 #[.int .u64 F, .int .u64 L, .int .u64 R] := Blk.next (by repeat (first | (refine Blk.new_at ?_; simp only [World.size_alloc]; done) | (with_reducible refine Blk.alloc ?_ _) | (with_reducible refine Blk.drewN ?_ _))) hb5
    have Eb := Em
    clear Em
    have Ec0 : World.cell? w5 ⟨w4.heap.size, 0, none⟩ = some (.int .u64 F) := Eb.get 0 rfl
    have Ef0 := Blk.frozen Eb 0
    have Ec1 : World.cell? w5 ⟨w4.heap.size, 1, none⟩ = some (.int .u64 L) := Eb.get 1 rfl
    have Ef1 := Blk.frozen Eb 1
    have Ec2 : World.cell? w5 ⟨w4.heap.size, 2, none⟩ = some (.int .u64 R) := Eb.get 2 rfl
    have Ef2 := Blk.frozen Eb 2
    have En := Blk.lt Eb
    have B5 : Below w.heap.size w w5 := by first | with_reducible exact below_next B4 hb5 | exact below_step B4 (by go_grown) hb5
    clear hb5 B4
    go_wp2_with fail
    with_reducible refine (NO.out _).mono ?_
    rintro e w6 ⟨rfl, hb6⟩
    have Cm : Blk w6 (w.heap.size) 24 #[.int .u64 F, .int .u64 L, .int .u64 R] := Blk.next (by repeat (first | (with_reducible exact Cb) | (refine Blk.new_at ?_; simp only [World.size_alloc]; done) | (with_reducible refine Blk.alloc ?_ _) | (with_reducible refine Blk.drewN ?_ _))) hb6
    clear Cn Cb Cc0 Cf0 Cc1 Cf1 Cc2 Cf2
    have Cb := Cm
    clear Cm
    have Cc0 : World.cell? w6 ⟨w.heap.size, 0, none⟩ = some (.int .u64 F) := Cb.get 0 rfl
    have Cf0 := Blk.frozen Cb 0
    have Cc1 : World.cell? w6 ⟨w.heap.size, 1, none⟩ = some (.int .u64 L) := Cb.get 1 rfl
    have Cf1 := Blk.frozen Cb 1
    have Cc2 : World.cell? w6 ⟨w.heap.size, 2, none⟩ = some (.int .u64 R) := Cb.get 2 rfl
    have Cf2 := Blk.frozen Cb 2
    have Cn := Blk.lt Cb
    have Dm : Blk w6 (w3.heap.size) 24 #[.int .u64 0, .int .u64 0, .int .u64 0] := Blk.next (by repeat (first | (with_reducible exact Db) | (refine Blk.new_at ?_; simp only [World.size_alloc]; done) | (with_reducible refine Blk.alloc ?_ _) | (with_reducible refine Blk.drewN ?_ _))) hb6
    clear Dn Db Dc0 Df0 Dc1 Df1 Dc2 Df2
    have Db := Dm
    clear Dm
    have Dc0 : World.cell? w6 ⟨w3.heap.size, 0, none⟩ = some (.int .u64 0) := Db.get 0 rfl
    have Df0 := Blk.frozen Db 0
    have Dc1 : World.cell? w6 ⟨w3.heap.size, 1, none⟩ = some (.int .u64 0) := Db.get 1 rfl
    have Df1 := Blk.frozen Db 1
    have Dc2 : World.cell? w6 ⟨w3.heap.size, 2, none⟩ = some (.int .u64 0) := Db.get 2 rfl
    have Df2 := Blk.frozen Db 2
    have Dn := Blk.lt Db
    have Em : Blk w6 (w4.heap.size) 24 #[.int .u64 F, .int .u64 L, .int .u64 R] := Blk.next (by repeat (first | (with_reducible exact Eb) | (refine Blk.new_at ?_; simp only [World.size_alloc]; done) | (with_reducible refine Blk.alloc ?_ _) | (with_reducible refine Blk.drewN ?_ _))) hb6
    clear En Eb Ec0 Ef0 Ec1 Ef1 Ec2 Ef2
    have Eb := Em
    clear Em
    have Ec0 : World.cell? w6 ⟨w4.heap.size, 0, none⟩ = some (.int .u64 F) := Eb.get 0 rfl
    have Ef0 := Blk.frozen Eb 0
    have Ec1 : World.cell? w6 ⟨w4.heap.size, 1, none⟩ = some (.int .u64 L) := Eb.get 1 rfl
    have Ef1 := Blk.frozen Eb 1
    have Ec2 : World.cell? w6 ⟨w4.heap.size, 2, none⟩ = some (.int .u64 R) := Eb.get 2 rfl
    have Ef2 := Blk.frozen Eb 2
    have En := Blk.lt Eb
    have B6 : Below w.heap.size w w6 := by first | with_reducible exact below_next B5 hb6 | exact below_step B5 (by go_grown) hb6
    clear hb6 B5
    go_wp2_with fail
    go_ret
    exact ⟨by simp, B6⟩
  · obtain ⟨e1, e2, e3, e4⟩ := parts_is hm hb hq
    obtain ⟨p1, p2⟩ := part_at m a0 (show a < 1048576 by omega) b0 t0 (by omega)
    obtain ⟨pF, hpF⟩ : ∃ x, oneF (downN F a b) L (downN R a b) = x := ⟨_, rfl⟩
    obtain ⟨pL, hpL⟩ : ∃ x, oneL (downN F a b) L (downN R a b) = x := ⟨_, rfl⟩
    obtain ⟨pR, hpR⟩ : ∃ x, downN R a b = x := ⟨_, rfl⟩
    have wpR : Word pR := by rw [← hpR]; exact down_words _ _ _ m.r0 a0 wb.1
    have wpF : Word pF := by
      rw [← hpF]; unfold oneF; split
      · exact ⟨by decide, by decide⟩
      · exact down_words _ _ _ m.f0 a0 wb.1
    have wpL : Word pL := by
      rw [← hpL]; unfold oneL; split
      · exact ⟨by decide, by decide⟩
      · exact wL
    rw [hpF] at e2
    rw [hpL] at e3
    rw [hpR] at e4
    rw [hpF, hpL, hpR] at hq p1 p2
    clear hpF hpL hpR
    have SC := Lib.hid (fun w => scale_val F L R a b pF pL pR 0 w wF wL wR wa wb e2 e3 e4 e1)
    have MD := Lib.hid (fun w => may_val pF pL pR true w wpF wpL wpR hq)
    obtain ⟨v, hv⟩ : ∃ x, atN pF pL pR t = x := ⟨_, rfl⟩
    obtain ⟨u, hu⟩ : ∃ x, atN F L R t = x := ⟨_, rfl⟩
    have u0 : 0 ≤ u := by rw [← hu]; exact at_nonneg m t0
    have u1 : u ≤ 4611686018427387904 := by rw [← hu]; exact at_le _ _ _ _
    have v0 : 0 ≤ v := by rw [← hv]; exact stop_nonneg (raw_nonneg wpF.1 wpL.1 wpR.1 t0)
    have v1 : v ≤ 4611686018427387904 := by rw [← hv]; exact at_le _ _ _ _
    have A1 := Lib.hid (fun w => at_val pF pL pR t v w wpF wpL wpR wt hv)
    have A2 := Lib.hid (fun w => at_val F L R t u w wF wL wR wt hu)
    rw [hv, hu] at p1 p2
    obtain ⟨q, hq2⟩ : ∃ x, downN u a b = x := ⟨_, rfl⟩
    have DM := Lib.hid (fun w => down_val u a b q 0 w ⟨u0, by omega⟩ wa wb hq2 (by unfold errN; rw [if_neg hb]))
    rw [hq2] at p1 p2
    obtain ⟨y, hy⟩ : ∃ x, stopN (t + 1) = x := ⟨_, rfl⟩
    have y0 : 0 ≤ y := by rw [← hy]; exact stop_nonneg (by omega)
    have y1 : y ≤ 4611686018427387904 := by rw [← hy]; exact stop_le _
    have P1 := Lib.hid (fun w => plus_any t 1 w wt (by decide))
    rw [hy] at P1 p2
    obtain ⟨z, hz⟩ : ∃ x, stopN (v + y) = x := ⟨_, rfl⟩
    have P2 := Lib.hid (fun w => plus_any v y w ⟨v0, by omega⟩ ⟨y0, by omega⟩)
    rw [hz] at P2 p2
    clear hm m e1 e2 e3 e4 hb hq dF dR hv hu hq2 hy hz
    go_enter Try.func9, Try.ntmps9
    go_wp2_with fail
    with_reducible refine (AW.out _).mono ?_
    rintro e w1 ⟨rfl, hb1⟩
    have Cm : Blk w1 (w.heap.size) 24 #[.int .u64 F, .int .u64 L, .int .u64 R] := Blk.next (by repeat (first | (refine Blk.new_at ?_; simp only [World.size_alloc]; done) | (with_reducible refine Blk.alloc ?_ _) | (with_reducible refine Blk.drewN ?_ _))) hb1
    have Cb := Cm
    clear Cm
    have Cc0 : World.cell? w1 ⟨w.heap.size, 0, none⟩ = some (.int .u64 F) := Cb.get 0 rfl
    have Cf0 := Blk.frozen Cb 0
    have Cc1 : World.cell? w1 ⟨w.heap.size, 1, none⟩ = some (.int .u64 L) := Cb.get 1 rfl
    have Cf1 := Blk.frozen Cb 1
    have Cc2 : World.cell? w1 ⟨w.heap.size, 2, none⟩ = some (.int .u64 R) := Cb.get 2 rfl
    have Cf2 := Blk.frozen Cb 2
    have Cn := Blk.lt Cb
    have B1 : Below w.heap.size w w1 := by first | with_reducible exact hb1 | exact Below.trans (by go_grown) (hb1.mono (by simp only [World.size_alloc]; omega))
    clear hb1
    go_wp2_with fail
    with_reducible refine (MA.out _).mono ?_
    rintro e w2 ⟨rfl, hb2⟩
    have Cm : Blk w2 (w.heap.size) 24 #[.int .u64 F, .int .u64 L, .int .u64 R] := Blk.next (by repeat (first | (with_reducible exact Cb) | (refine Blk.new_at ?_; simp only [World.size_alloc]; done) | (with_reducible refine Blk.alloc ?_ _) | (with_reducible refine Blk.drewN ?_ _))) hb2
    clear Cn Cb Cc0 Cf0 Cc1 Cf1 Cc2 Cf2
    have Cb := Cm
    clear Cm
    have Cc0 : World.cell? w2 ⟨w.heap.size, 0, none⟩ = some (.int .u64 F) := Cb.get 0 rfl
    have Cf0 := Blk.frozen Cb 0
    have Cc1 : World.cell? w2 ⟨w.heap.size, 1, none⟩ = some (.int .u64 L) := Cb.get 1 rfl
    have Cf1 := Blk.frozen Cb 1
    have Cc2 : World.cell? w2 ⟨w.heap.size, 2, none⟩ = some (.int .u64 R) := Cb.get 2 rfl
    have Cf2 := Blk.frozen Cb 2
    have Cn := Blk.lt Cb
    have B2 : Below w.heap.size w w2 := by first | with_reducible exact below_next B1 hb2 | exact below_step B1 (by go_grown) hb2
    clear hb2 B1
    go_wp2_with fail
    with_reducible refine (SC.out _).mono ?_
    rintro e w3 ⟨rfl, hb3⟩
    have Cm : Blk w3 (w.heap.size) 24 #[.int .u64 F, .int .u64 L, .int .u64 R] := Blk.next (by repeat (first | (with_reducible exact Cb) | (refine Blk.new_at ?_; simp only [World.size_alloc]; done) | (with_reducible refine Blk.alloc ?_ _) | (with_reducible refine Blk.drewN ?_ _))) hb3
    clear Cn Cb Cc0 Cf0 Cc1 Cf1 Cc2 Cf2
    have Cb := Cm
    clear Cm
    have Cc0 : World.cell? w3 ⟨w.heap.size, 0, none⟩ = some (.int .u64 F) := Cb.get 0 rfl
    have Cf0 := Blk.frozen Cb 0
    have Cc1 : World.cell? w3 ⟨w.heap.size, 1, none⟩ = some (.int .u64 L) := Cb.get 1 rfl
    have Cf1 := Blk.frozen Cb 1
    have Cc2 : World.cell? w3 ⟨w.heap.size, 2, none⟩ = some (.int .u64 R) := Cb.get 2 rfl
    have Cf2 := Blk.frozen Cb 2
    have Cn := Blk.lt Cb
    have B3 : Below w.heap.size w w3 := by first | with_reducible exact below_next B2 hb3 | exact below_step B2 (by go_grown) hb3
    clear hb3 B2
    go_wp2_with fail
    with_reducible refine (SB.out _).mono ?_
    rintro e w4 ⟨rfl, hb4⟩
    have Cm : Blk w4 (w.heap.size) 24 #[.int .u64 F, .int .u64 L, .int .u64 R] := Blk.next (by repeat (first | (with_reducible exact Cb) | (refine Blk.new_at ?_; simp only [World.size_alloc]; done) | (with_reducible refine Blk.alloc ?_ _) | (with_reducible refine Blk.drewN ?_ _))) hb4
    clear Cn Cb Cc0 Cf0 Cc1 Cf1 Cc2 Cf2
    have Cb := Cm
    clear Cm
    have Cc0 : World.cell? w4 ⟨w.heap.size, 0, none⟩ = some (.int .u64 F) := Cb.get 0 rfl
    have Cf0 := Blk.frozen Cb 0
    have Cc1 : World.cell? w4 ⟨w.heap.size, 1, none⟩ = some (.int .u64 L) := Cb.get 1 rfl
    have Cf1 := Blk.frozen Cb 1
    have Cc2 : World.cell? w4 ⟨w.heap.size, 2, none⟩ = some (.int .u64 R) := Cb.get 2 rfl
    have Cf2 := Blk.frozen Cb 2
    have Cn := Blk.lt Cb
    have Dm : Blk w4 (w3.heap.size) 24 #[.int .u64 pF, .int .u64 pL, .int .u64 pR] := Blk.next (by repeat (first | (refine Blk.new_at ?_; simp only [World.size_alloc]; done) | (with_reducible refine Blk.alloc ?_ _) | (with_reducible refine Blk.drewN ?_ _))) hb4
    have Db := Dm
    clear Dm
    have Dc0 : World.cell? w4 ⟨w3.heap.size, 0, none⟩ = some (.int .u64 pF) := Db.get 0 rfl
    have Df0 := Blk.frozen Db 0
    have Dc1 : World.cell? w4 ⟨w3.heap.size, 1, none⟩ = some (.int .u64 pL) := Db.get 1 rfl
    have Df1 := Blk.frozen Db 1
    have Dc2 : World.cell? w4 ⟨w3.heap.size, 2, none⟩ = some (.int .u64 pR) := Db.get 2 rfl
    have Df2 := Blk.frozen Db 2
    have Dn := Blk.lt Db
    have B4 : Below w.heap.size w w4 := by first | with_reducible exact below_next B3 hb4 | exact below_step B3 (by go_grown) hb4
    clear hb4 B3
    go_wp2_with fail
    with_reducible refine (A1.out _).mono ?_
    rintro e w5 ⟨rfl, hb5⟩
    have Cm : Blk w5 (w.heap.size) 24 #[.int .u64 F, .int .u64 L, .int .u64 R] := Blk.next (by repeat (first | (with_reducible exact Cb) | (refine Blk.new_at ?_; simp only [World.size_alloc]; done) | (with_reducible refine Blk.alloc ?_ _) | (with_reducible refine Blk.drewN ?_ _))) hb5
    clear Cn Cb Cc0 Cf0 Cc1 Cf1 Cc2 Cf2
    have Cb := Cm
    clear Cm
    have Cc0 : World.cell? w5 ⟨w.heap.size, 0, none⟩ = some (.int .u64 F) := Cb.get 0 rfl
    have Cf0 := Blk.frozen Cb 0
    have Cc1 : World.cell? w5 ⟨w.heap.size, 1, none⟩ = some (.int .u64 L) := Cb.get 1 rfl
    have Cf1 := Blk.frozen Cb 1
    have Cc2 : World.cell? w5 ⟨w.heap.size, 2, none⟩ = some (.int .u64 R) := Cb.get 2 rfl
    have Cf2 := Blk.frozen Cb 2
    have Cn := Blk.lt Cb
    have Dm : Blk w5 (w3.heap.size) 24 #[.int .u64 pF, .int .u64 pL, .int .u64 pR] := Blk.next (by repeat (first | (with_reducible exact Db) | (refine Blk.new_at ?_; simp only [World.size_alloc]; done) | (with_reducible refine Blk.alloc ?_ _) | (with_reducible refine Blk.drewN ?_ _))) hb5
    clear Dn Db Dc0 Df0 Dc1 Df1 Dc2 Df2
    have Db := Dm
    clear Dm
    have Dc0 : World.cell? w5 ⟨w3.heap.size, 0, none⟩ = some (.int .u64 pF) := Db.get 0 rfl
    have Df0 := Blk.frozen Db 0
    have Dc1 : World.cell? w5 ⟨w3.heap.size, 1, none⟩ = some (.int .u64 pL) := Db.get 1 rfl
    have Df1 := Blk.frozen Db 1
    have Dc2 : World.cell? w5 ⟨w3.heap.size, 2, none⟩ = some (.int .u64 pR) := Db.get 2 rfl
    have Df2 := Blk.frozen Db 2
    have Dn := Blk.lt Db
    have Em : Blk w5 (w4.heap.size) 24 #[.int .u64 F, .int .u64 L, .int .u64 R] := Blk.next (by repeat (first | (refine Blk.new_at ?_; simp only [World.size_alloc]; done) | (with_reducible refine Blk.alloc ?_ _) | (with_reducible refine Blk.drewN ?_ _))) hb5
    have Eb := Em
    clear Em
    have Ec0 : World.cell? w5 ⟨w4.heap.size, 0, none⟩ = some (.int .u64 F) := Eb.get 0 rfl
    have Ef0 := Blk.frozen Eb 0
    have Ec1 : World.cell? w5 ⟨w4.heap.size, 1, none⟩ = some (.int .u64 L) := Eb.get 1 rfl
    have Ef1 := Blk.frozen Eb 1
    have Ec2 : World.cell? w5 ⟨w4.heap.size, 2, none⟩ = some (.int .u64 R) := Eb.get 2 rfl
    have Ef2 := Blk.frozen Eb 2
    have En := Blk.lt Eb
    have B5 : Below w.heap.size w w5 := by first | with_reducible exact below_next B4 hb5 | exact below_step B4 (by go_grown) hb5
    clear hb5 B4
    go_wp2_with fail
    with_reducible refine (A2.out _).mono ?_
    rintro e w6 ⟨rfl, hb6⟩
    have Cm : Blk w6 (w.heap.size) 24 #[.int .u64 F, .int .u64 L, .int .u64 R] := Blk.next (by repeat (first | (with_reducible exact Cb) | (refine Blk.new_at ?_; simp only [World.size_alloc]; done) | (with_reducible refine Blk.alloc ?_ _) | (with_reducible refine Blk.drewN ?_ _))) hb6
    clear Cn Cb Cc0 Cf0 Cc1 Cf1 Cc2 Cf2
    have Cb := Cm
    clear Cm
    have Cc0 : World.cell? w6 ⟨w.heap.size, 0, none⟩ = some (.int .u64 F) := Cb.get 0 rfl
    have Cf0 := Blk.frozen Cb 0
    have Cc1 : World.cell? w6 ⟨w.heap.size, 1, none⟩ = some (.int .u64 L) := Cb.get 1 rfl
    have Cf1 := Blk.frozen Cb 1
    have Cc2 : World.cell? w6 ⟨w.heap.size, 2, none⟩ = some (.int .u64 R) := Cb.get 2 rfl
    have Cf2 := Blk.frozen Cb 2
    have Cn := Blk.lt Cb
    have Dm : Blk w6 (w3.heap.size) 24 #[.int .u64 pF, .int .u64 pL, .int .u64 pR] := Blk.next (by repeat (first | (with_reducible exact Db) | (refine Blk.new_at ?_; simp only [World.size_alloc]; done) | (with_reducible refine Blk.alloc ?_ _) | (with_reducible refine Blk.drewN ?_ _))) hb6
    clear Dn Db Dc0 Df0 Dc1 Df1 Dc2 Df2
    have Db := Dm
    clear Dm
    have Dc0 : World.cell? w6 ⟨w3.heap.size, 0, none⟩ = some (.int .u64 pF) := Db.get 0 rfl
    have Df0 := Blk.frozen Db 0
    have Dc1 : World.cell? w6 ⟨w3.heap.size, 1, none⟩ = some (.int .u64 pL) := Db.get 1 rfl
    have Df1 := Blk.frozen Db 1
    have Dc2 : World.cell? w6 ⟨w3.heap.size, 2, none⟩ = some (.int .u64 pR) := Db.get 2 rfl
    have Df2 := Blk.frozen Db 2
    have Dn := Blk.lt Db
    have Em : Blk w6 (w4.heap.size) 24 #[.int .u64 F, .int .u64 L, .int .u64 R] := Blk.next (by repeat (first | (with_reducible exact Eb) | (refine Blk.new_at ?_; simp only [World.size_alloc]; done) | (with_reducible refine Blk.alloc ?_ _) | (with_reducible refine Blk.drewN ?_ _))) hb6
    clear En Eb Ec0 Ef0 Ec1 Ef1 Ec2 Ef2
    have Eb := Em
    clear Em
    have Ec0 : World.cell? w6 ⟨w4.heap.size, 0, none⟩ = some (.int .u64 F) := Eb.get 0 rfl
    have Ef0 := Blk.frozen Eb 0
    have Ec1 : World.cell? w6 ⟨w4.heap.size, 1, none⟩ = some (.int .u64 L) := Eb.get 1 rfl
    have Ef1 := Blk.frozen Eb 1
    have Ec2 : World.cell? w6 ⟨w4.heap.size, 2, none⟩ = some (.int .u64 R) := Eb.get 2 rfl
    have Ef2 := Blk.frozen Eb 2
    have En := Blk.lt Eb
    have B6 : Below w.heap.size w w6 := by first | with_reducible exact below_next B5 hb6 | exact below_step B5 (by go_grown) hb6
    clear hb6 B5
    go_wp2_with fail
    with_reducible refine (DM.out _).mono ?_
    rintro e w7 ⟨rfl, hb7⟩
    have Cm : Blk w7 (w.heap.size) 24 #[.int .u64 F, .int .u64 L, .int .u64 R] := Blk.next (by repeat (first | (with_reducible exact Cb) | (refine Blk.new_at ?_; simp only [World.size_alloc]; done) | (with_reducible refine Blk.alloc ?_ _) | (with_reducible refine Blk.drewN ?_ _))) hb7
    clear Cn Cb Cc0 Cf0 Cc1 Cf1 Cc2 Cf2
    have Cb := Cm
    clear Cm
    have Cc0 : World.cell? w7 ⟨w.heap.size, 0, none⟩ = some (.int .u64 F) := Cb.get 0 rfl
    have Cf0 := Blk.frozen Cb 0
    have Cc1 : World.cell? w7 ⟨w.heap.size, 1, none⟩ = some (.int .u64 L) := Cb.get 1 rfl
    have Cf1 := Blk.frozen Cb 1
    have Cc2 : World.cell? w7 ⟨w.heap.size, 2, none⟩ = some (.int .u64 R) := Cb.get 2 rfl
    have Cf2 := Blk.frozen Cb 2
    have Cn := Blk.lt Cb
    have Dm : Blk w7 (w3.heap.size) 24 #[.int .u64 pF, .int .u64 pL, .int .u64 pR] := Blk.next (by repeat (first | (with_reducible exact Db) | (refine Blk.new_at ?_; simp only [World.size_alloc]; done) | (with_reducible refine Blk.alloc ?_ _) | (with_reducible refine Blk.drewN ?_ _))) hb7
    clear Dn Db Dc0 Df0 Dc1 Df1 Dc2 Df2
    have Db := Dm
    clear Dm
    have Dc0 : World.cell? w7 ⟨w3.heap.size, 0, none⟩ = some (.int .u64 pF) := Db.get 0 rfl
    have Df0 := Blk.frozen Db 0
    have Dc1 : World.cell? w7 ⟨w3.heap.size, 1, none⟩ = some (.int .u64 pL) := Db.get 1 rfl
    have Df1 := Blk.frozen Db 1
    have Dc2 : World.cell? w7 ⟨w3.heap.size, 2, none⟩ = some (.int .u64 pR) := Db.get 2 rfl
    have Df2 := Blk.frozen Db 2
    have Dn := Blk.lt Db
    have Em : Blk w7 (w4.heap.size) 24 #[.int .u64 F, .int .u64 L, .int .u64 R] := Blk.next (by repeat (first | (with_reducible exact Eb) | (refine Blk.new_at ?_; simp only [World.size_alloc]; done) | (with_reducible refine Blk.alloc ?_ _) | (with_reducible refine Blk.drewN ?_ _))) hb7
    clear En Eb Ec0 Ef0 Ec1 Ef1 Ec2 Ef2
    have Eb := Em
    clear Em
    have Ec0 : World.cell? w7 ⟨w4.heap.size, 0, none⟩ = some (.int .u64 F) := Eb.get 0 rfl
    have Ef0 := Blk.frozen Eb 0
    have Ec1 : World.cell? w7 ⟨w4.heap.size, 1, none⟩ = some (.int .u64 L) := Eb.get 1 rfl
    have Ef1 := Blk.frozen Eb 1
    have Ec2 : World.cell? w7 ⟨w4.heap.size, 2, none⟩ = some (.int .u64 R) := Eb.get 2 rfl
    have Ef2 := Blk.frozen Eb 2
    have En := Blk.lt Eb
    have B7 : Below w.heap.size w w7 := by first | with_reducible exact below_next B6 hb7 | exact below_step B6 (by go_grown) hb7
    clear hb7 B6
    go_wp2_with fail
    with_reducible refine (MD.out _).mono ?_
    rintro e w8 ⟨rfl, hb8⟩
    have Cm : Blk w8 (w.heap.size) 24 #[.int .u64 F, .int .u64 L, .int .u64 R] := Blk.next (by repeat (first | (with_reducible exact Cb) | (refine Blk.new_at ?_; simp only [World.size_alloc]; done) | (with_reducible refine Blk.alloc ?_ _) | (with_reducible refine Blk.drewN ?_ _))) hb8
    clear Cn Cb Cc0 Cf0 Cc1 Cf1 Cc2 Cf2
    have Cb := Cm
    clear Cm
    have Cc0 : World.cell? w8 ⟨w.heap.size, 0, none⟩ = some (.int .u64 F) := Cb.get 0 rfl
    have Cf0 := Blk.frozen Cb 0
    have Cc1 : World.cell? w8 ⟨w.heap.size, 1, none⟩ = some (.int .u64 L) := Cb.get 1 rfl
    have Cf1 := Blk.frozen Cb 1
    have Cc2 : World.cell? w8 ⟨w.heap.size, 2, none⟩ = some (.int .u64 R) := Cb.get 2 rfl
    have Cf2 := Blk.frozen Cb 2
    have Cn := Blk.lt Cb
    have Dm : Blk w8 (w3.heap.size) 24 #[.int .u64 pF, .int .u64 pL, .int .u64 pR] := Blk.next (by repeat (first | (with_reducible exact Db) | (refine Blk.new_at ?_; simp only [World.size_alloc]; done) | (with_reducible refine Blk.alloc ?_ _) | (with_reducible refine Blk.drewN ?_ _))) hb8
    clear Dn Db Dc0 Df0 Dc1 Df1 Dc2 Df2
    have Db := Dm
    clear Dm
    have Dc0 : World.cell? w8 ⟨w3.heap.size, 0, none⟩ = some (.int .u64 pF) := Db.get 0 rfl
    have Df0 := Blk.frozen Db 0
    have Dc1 : World.cell? w8 ⟨w3.heap.size, 1, none⟩ = some (.int .u64 pL) := Db.get 1 rfl
    have Df1 := Blk.frozen Db 1
    have Dc2 : World.cell? w8 ⟨w3.heap.size, 2, none⟩ = some (.int .u64 pR) := Db.get 2 rfl
    have Df2 := Blk.frozen Db 2
    have Dn := Blk.lt Db
    have Em : Blk w8 (w4.heap.size) 24 #[.int .u64 F, .int .u64 L, .int .u64 R] := Blk.next (by repeat (first | (with_reducible exact Eb) | (refine Blk.new_at ?_; simp only [World.size_alloc]; done) | (with_reducible refine Blk.alloc ?_ _) | (with_reducible refine Blk.drewN ?_ _))) hb8
    clear En Eb Ec0 Ef0 Ec1 Ef1 Ec2 Ef2
    have Eb := Em
    clear Em
    have Ec0 : World.cell? w8 ⟨w4.heap.size, 0, none⟩ = some (.int .u64 F) := Eb.get 0 rfl
    have Ef0 := Blk.frozen Eb 0
    have Ec1 : World.cell? w8 ⟨w4.heap.size, 1, none⟩ = some (.int .u64 L) := Eb.get 1 rfl
    have Ef1 := Blk.frozen Eb 1
    have Ec2 : World.cell? w8 ⟨w4.heap.size, 2, none⟩ = some (.int .u64 R) := Eb.get 2 rfl
    have Ef2 := Blk.frozen Eb 2
    have En := Blk.lt Eb
    have B8 : Below w.heap.size w w8 := by first | with_reducible exact below_next B7 hb8 | exact below_step B7 (by go_grown) hb8
    clear hb8 B7
    go_wp2_with fail
    with_reducible refine (P1.out _).mono ?_
    rintro e wx ⟨rfl, rfl⟩
    go_wp2_with fail
    with_reducible refine (P2.out _).mono ?_
    rintro e wx ⟨rfl, rfl⟩
    go_wp2_with fail
    go_ret
    exact ⟨by simp, B8⟩

end Go.Proofs.Ytjbajongjdbplaa
