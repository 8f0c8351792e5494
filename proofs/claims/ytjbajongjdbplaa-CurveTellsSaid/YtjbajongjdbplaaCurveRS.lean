/-
  What a curve by parts is: the document's Scale.
-/
import Derived.Test.YtjbajongjdbplaaCurveS
namespace Go.Proofs.Ytjbajongjdbplaa
set_option linter.unusedVariables false
set_option linter.unusedSimpArgs false
open Go.RowKit Go.Shelf

theorem refdown_val (a b c v : Int) (e : Int) (w : World) (ha : Word a) (hb : Word b) (hc : Word c) (hv : downN a b c = v) (he : errN c = e) : Calls Try.prog 57 #[.int .u64 a, .int .u64 b, .int .u64 c] w fun q w' => q = .returned (.tuple #[.int .u64 v, .int .i64 e]) ∧ Below w.heap.size w w' := by
  rw [← hv, ← he]; exact refdown_any a b c w ha hb hc

set_option maxRecDepth 100000 in
set_option maxHeartbeats 4000000 in
theorem refscale_any (F L R a b : Int) (w : World) (wF : Word F) (wL : Word L) (wR : Word R) (wa : Word a) (wb : Word b) : Calls Try.prog 28 #[.agg #[.int .u64 F, .int .u64 L, .int .u64 R], .int .u64 a, .int .u64 b] w fun e w' =>
    e = .returned (.tuple #[.agg #[.int .u64 (partF F L R a b), .int .u64 (partL F L R a b), .int .u64 (partR F L R a b)], .int .i64 (partE F L R a b)]) ∧ Below w.heap.size w w' := by
  rcases Bool.eq_false_or_eq_true (mayB F L R) with hm | hm
  rotate_left
  · have MA := Lib.hid (fun w => refmay_val F L R false w wL hm)
    obtain ⟨e1, e2, e3, e4⟩ := parts_bad (a := a) (b := b) hm
    rw [e1, e2, e3, e4]
    clear hm e1 e2 e3 e4
    go_enter Try.func28, Try.ntmps28
    go_wp2_with fail
    with_reducible refine (MA.out _).mono ?_
    rintro e w1 ⟨rfl, hb1⟩
    have Cm : Blk w1 (w.heap.size) 24 #[.int .u64 F, .int .u64 L, .int .u64 R] := Blk.next (by repeat (first | (refine Blk.new_at ?_; simp only [World.size_alloc]; done) | (with_reducible refine Blk.alloc ?_ _) | (with_reducible refine Blk.drewN ?_ _))) hb1
    have Cb := Cm
    clear Cm
    have Cc0 : World.cell? w1 ⟨w.heap.size, 0, none⟩ = some (.int .u64 F) := Cb.get 0 rfl
    have Cf0 := Blk.frozen Cb 0
    have Cc1 : World.cell? w1 ⟨w.heap.size, 1, none⟩ = some (.int .u64 L) := Cb.get 1 rfl
    have Cf1 := Blk.frozen Cb 1
    have Cc2 : World.cell? w1 ⟨w.heap.size, 2, none⟩ = some (.int .u64 R) := Cb.get 2 rfl
    have Cf2 := Blk.frozen Cb 2
    have Cn := Blk.lt Cb
    have Zm : Blk w1 (w.heap.size + 1) 24 #[.int .u64 0, .int .u64 0, .int .u64 0] := Blk.next (by repeat (first | (refine Blk.new_at ?_; simp only [World.size_alloc]; done) | (with_reducible refine Blk.alloc ?_ _) | (with_reducible refine Blk.drewN ?_ _))) hb1
    have Zb := Zm
    clear Zm
    have Zc0 : World.cell? w1 ⟨w.heap.size + 1, 0, none⟩ = some (.int .u64 0) := Zb.get 0 rfl
    have Zf0 := Blk.frozen Zb 0
    have Zc1 : World.cell? w1 ⟨w.heap.size + 1, 1, none⟩ = some (.int .u64 0) := Zb.get 1 rfl
    have Zf1 := Blk.frozen Zb 1
    have Zc2 : World.cell? w1 ⟨w.heap.size + 1, 2, none⟩ = some (.int .u64 0) := Zb.get 2 rfl
    have Zf2 := Blk.frozen Zb 2
    have Zn := Blk.lt Zb
    have B1 : Below w.heap.size w w1 := by first | with_reducible exact hb1 | exact Below.trans (by go_grown) (hb1.mono (by simp only [World.size_alloc]; omega))
    clear hb1
    obtain ⟨P0, P1, P2, P3⟩ := Blk.puts3 Zb (.int .u64 0) (.int .u64 0) (.int .u64 0)
    go_wp2_with fail
    refine bodyPost_ret (by simp [results, Try.results28, go_sem, P0, P1, P2]; try rfl) rfl ?_
    exact ⟨rfl, below_puts3 B1 (by omega) _ _ _⟩
  have MA := Lib.hid (fun w => refmay_val F L R true w wL hm)
  by_cases hb : b = 0
  · obtain ⟨e1, e2, e3, e4⟩ := parts_zero (a := a) hm hb
    rw [e1, e2, e3, e4]
    subst hb
    clear hm e1 e2 e3 e4
    go_enter Try.func28, Try.ntmps28
    go_wp2_with fail
    with_reducible refine (MA.out _).mono ?_
    rintro e w1 ⟨rfl, hb1⟩
    have Cm : Blk w1 (w.heap.size) 24 #[.int .u64 F, .int .u64 L, .int .u64 R] := Blk.next (by repeat (first | (refine Blk.new_at ?_; simp only [World.size_alloc]; done) | (with_reducible refine Blk.alloc ?_ _) | (with_reducible refine Blk.drewN ?_ _))) hb1
    have Cb := Cm
    clear Cm
    have Cc0 : World.cell? w1 ⟨w.heap.size, 0, none⟩ = some (.int .u64 F) := Cb.get 0 rfl
    have Cf0 := Blk.frozen Cb 0
    have Cc1 : World.cell? w1 ⟨w.heap.size, 1, none⟩ = some (.int .u64 L) := Cb.get 1 rfl
    have Cf1 := Blk.frozen Cb 1
    have Cc2 : World.cell? w1 ⟨w.heap.size, 2, none⟩ = some (.int .u64 R) := Cb.get 2 rfl
    have Cf2 := Blk.frozen Cb 2
    have Cn := Blk.lt Cb
    have Zm : Blk w1 (w.heap.size + 1) 24 #[.int .u64 0, .int .u64 0, .int .u64 0] := Blk.next (by repeat (first | (refine Blk.new_at ?_; simp only [World.size_alloc]; done) | (with_reducible refine Blk.alloc ?_ _) | (with_reducible refine Blk.drewN ?_ _))) hb1
    have Zb := Zm
    clear Zm
    have Zc0 : World.cell? w1 ⟨w.heap.size + 1, 0, none⟩ = some (.int .u64 0) := Zb.get 0 rfl
    have Zf0 := Blk.frozen Zb 0
    have Zc1 : World.cell? w1 ⟨w.heap.size + 1, 1, none⟩ = some (.int .u64 0) := Zb.get 1 rfl
    have Zf1 := Blk.frozen Zb 1
    have Zc2 : World.cell? w1 ⟨w.heap.size + 1, 2, none⟩ = some (.int .u64 0) := Zb.get 2 rfl
    have Zf2 := Blk.frozen Zb 2
    have Zn := Blk.lt Zb
    have B1 : Below w.heap.size w w1 := by first | with_reducible exact hb1 | exact Below.trans (by go_grown) (hb1.mono (by simp only [World.size_alloc]; omega))
    clear hb1
    obtain ⟨P0, P1, P2, P3⟩ := Blk.puts3 Zb (.int .u64 0) (.int .u64 0) (.int .u64 0)
    go_wp2_with fail
    refine bodyPost_ret (by simp [results, Try.results28, go_sem, P0, P1, P2]; try rfl) rfl ?_
    exact ⟨rfl, below_puts3 B1 (by omega) _ _ _⟩
  have zb : (b == 0) = false := beq_eq_false_iff_ne.2 hb
  have ee : errN b = 0 := by unfold errN; rw [if_neg hb]
  have wx0 := down_words F a b wF.1 wa.1 wb.1
  have wx1 := down_words R a b wR.1 wa.1 wb.1
  have pI := parts_is (F := F) (L := L) (R := R) (a := a) hm hb
  have pN := parts_not (F := F) (L := L) (R := R) (a := a) hm hb
  obtain ⟨x0, hx0⟩ : ∃ x, downN F a b = x := ⟨_, rfl⟩
  obtain ⟨x1, hx1⟩ : ∃ x, downN R a b = x := ⟨_, rfl⟩
  have D0 := Lib.hid (fun w => refdown_val F a b x0 0 w wF wa wb hx0 ee)
  have D1 := Lib.hid (fun w => refdown_val R a b x1 0 w wR wa wb hx1 ee)
  rw [hx0] at wx0
  rw [hx1] at wx1
  rw [hx0, hx1] at pI pN
  have l0 := wL.1
  clear hx0 hx1 ee hm hb
  -- the one way to say it
  have ways : (x0 = x1 ∧ oneF x0 L x1 = 0 ∧ oneL x0 L x1 = 0) ∨ ((x0 == x1) = false ∧ L = 0 ∧ oneF x0 L x1 = 0 ∧ oneL x0 L x1 = 0) ∨ ((x0 == x1) = false ∧ 0 < L ∧ oneF x0 L x1 = x0 ∧ oneL x0 L x1 = L) := by
    unfold oneF oneL
    by_cases h : x0 = x1
    · exact .inl ⟨h, by rw [if_pos (.inl h)], by rw [if_pos (.inl h)]⟩
    · have h' := beq_eq_false_iff_ne.2 h
      rcases Int.lt_or_le 0 L with k | k
      · exact .inr (.inr ⟨h', k, by rw [if_neg (by omega)], by rw [if_neg (by omega)]⟩)
      · have : L = 0 := by omega
        exact .inr (.inl ⟨h', this, by rw [if_pos (.inr this)], by rw [if_pos (.inr this)]⟩)
  rcases ways with ⟨rfl, o1, o2⟩ | ⟨hne, rfl, o1, o2⟩ | ⟨hne, hl, o1, o2⟩
  · rw [o1, o2] at pI pN
    clear o1 o2
    rcases Bool.eq_false_or_eq_true (mayB 0 0 x0) with hq | hq
    · obtain ⟨e1, e2, e3, e4⟩ := pI hq
      rw [e1, e2, e3, e4]
      have M2 := Lib.hid (fun w => refmay_val 0 0 x0 true w (by decide) hq)
      clear pI pN e1 e2 e3 e4 hq
      go_enter Try.func28, Try.ntmps28
      go_wp2_with fail
      with_reducible refine (MA.out _).mono ?_
      rintro e w1 ⟨rfl, hb1⟩
      have Cm : Blk w1 (w.heap.size) 24 #[.int .u64 F, .int .u64 L, .int .u64 R] := Blk.next (by repeat (first | (refine Blk.new_at ?_; simp only [World.size_alloc]; done) | (with_reducible refine Blk.alloc ?_ _) | (with_reducible refine Blk.drewN ?_ _))) hb1
      have Cb := Cm
      clear Cm
      have Cc0 : World.cell? w1 ⟨w.heap.size, 0, none⟩ = some (.int .u64 F) := Cb.get 0 rfl
      have Cf0 := Blk.frozen Cb 0
      have Cc1 : World.cell? w1 ⟨w.heap.size, 1, none⟩ = some (.int .u64 L) := Cb.get 1 rfl
      have Cf1 := Blk.frozen Cb 1
      have Cc2 : World.cell? w1 ⟨w.heap.size, 2, none⟩ = some (.int .u64 R) := Cb.get 2 rfl
      have Cf2 := Blk.frozen Cb 2
      have Cn := Blk.lt Cb
      have Zm : Blk w1 (w.heap.size + 1) 24 #[.int .u64 0, .int .u64 0, .int .u64 0] := Blk.next (by repeat (first | (refine Blk.new_at ?_; simp only [World.size_alloc]; done) | (with_reducible refine Blk.alloc ?_ _) | (with_reducible refine Blk.drewN ?_ _))) hb1
      have Zb := Zm
      clear Zm
      have Zc0 : World.cell? w1 ⟨w.heap.size + 1, 0, none⟩ = some (.int .u64 0) := Zb.get 0 rfl
      have Zf0 := Blk.frozen Zb 0
      have Zc1 : World.cell? w1 ⟨w.heap.size + 1, 1, none⟩ = some (.int .u64 0) := Zb.get 1 rfl
      have Zf1 := Blk.frozen Zb 1
      have Zc2 : World.cell? w1 ⟨w.heap.size + 1, 2, none⟩ = some (.int .u64 0) := Zb.get 2 rfl
      have Zf2 := Blk.frozen Zb 2
      have Zn := Blk.lt Zb
      have B1 : Below w.heap.size w w1 := by first | with_reducible exact hb1 | exact Below.trans (by go_grown) (hb1.mono (by simp only [World.size_alloc]; omega))
      clear hb1
      go_wp2_with fail
      with_reducible refine (D0.out _).mono ?_
      rintro e w2 ⟨rfl, hb2⟩
      have Cm : Blk w2 (w.heap.size) 24 #[.int .u64 F, .int .u64 L, .int .u64 R] := Blk.next (by repeat (first | (with_reducible exact Cb) | (refine Blk.new_at ?_; simp only [World.size_alloc]; done) | (with_reducible refine Blk.alloc ?_ _) | (with_reducible refine Blk.drewN ?_ _))) hb2
      clear Cn Cb Cc0 Cf0 Cc1 Cf1 Cc2 Cf2
      have Cb := Cm
      clear Cm
      have Cc0 : World.cell? w2 ⟨w.heap.size, 0, none⟩ = some (.int .u64 F) := Cb.get 0 rfl
      have Cf0 := Blk.frozen Cb 0
      have Cc1 : World.cell? w2 ⟨w.heap.size, 1, none⟩ = some (.int .u64 L) := Cb.get 1 rfl
      have Cf1 := Blk.frozen Cb 1
      have Cc2 : World.cell? w2 ⟨w.heap.size, 2, none⟩ = some (.int .u64 R) := Cb.get 2 rfl
      have Cf2 := Blk.frozen Cb 2
      have Cn := Blk.lt Cb
      have Zm : Blk w2 (w.heap.size + 1) 24 #[.int .u64 0, .int .u64 0, .int .u64 0] := Blk.next (by repeat (first | (with_reducible exact Zb) | (refine Blk.new_at ?_; simp only [World.size_alloc]; done) | (with_reducible refine Blk.alloc ?_ _) | (with_reducible refine Blk.drewN ?_ _))) hb2
      clear Zn Zb Zc0 Zf0 Zc1 Zf1 Zc2 Zf2
      have Zb := Zm
      clear Zm
      have Zc0 : World.cell? w2 ⟨w.heap.size + 1, 0, none⟩ = some (.int .u64 0) := Zb.get 0 rfl
      have Zf0 := Blk.frozen Zb 0
      have Zc1 : World.cell? w2 ⟨w.heap.size + 1, 1, none⟩ = some (.int .u64 0) := Zb.get 1 rfl
      have Zf1 := Blk.frozen Zb 1
      have Zc2 : World.cell? w2 ⟨w.heap.size + 1, 2, none⟩ = some (.int .u64 0) := Zb.get 2 rfl
      have Zf2 := Blk.frozen Zb 2
      have Zn := Blk.lt Zb
      have B2 : Below w.heap.size w w2 := by first | with_reducible exact below_next B1 hb2 | exact below_step B1 (by go_grown) hb2
      clear hb2 B1
      go_wp2_with fail
      with_reducible refine (D1.out _).mono ?_
      rintro e w3 ⟨rfl, hb3⟩
      have Cm : Blk w3 (w.heap.size) 24 #[.int .u64 F, .int .u64 L, .int .u64 R] := Blk.next (by repeat (first | (with_reducible exact Cb) | (refine Blk.new_at ?_; simp only [World.size_alloc]; done) | (with_reducible refine Blk.alloc ?_ _) | (with_reducible refine Blk.drewN ?_ _))) hb3
      clear Cn Cb Cc0 Cf0 Cc1 Cf1 Cc2 Cf2
      have Cb := Cm
      clear Cm
      have Cc0 : World.cell? w3 ⟨w.heap.size, 0, none⟩ = some (.int .u64 F) := Cb.get 0 rfl
      have Cf0 := Blk.frozen Cb 0
      have Cc1 : World.cell? w3 ⟨w.heap.size, 1, none⟩ = some (.int .u64 L) := Cb.get 1 rfl
      have Cf1 := Blk.frozen Cb 1
      have Cc2 : World.cell? w3 ⟨w.heap.size, 2, none⟩ = some (.int .u64 R) := Cb.get 2 rfl
      have Cf2 := Blk.frozen Cb 2
      have Cn := Blk.lt Cb
      have Zm : Blk w3 (w.heap.size + 1) 24 #[.int .u64 0, .int .u64 0, .int .u64 0] := Blk.next (by repeat (first | (with_reducible exact Zb) | (refine Blk.new_at ?_; simp only [World.size_alloc]; done) | (with_reducible refine Blk.alloc ?_ _) | (with_reducible refine Blk.drewN ?_ _))) hb3
      clear Zn Zb Zc0 Zf0 Zc1 Zf1 Zc2 Zf2
      have Zb := Zm
      clear Zm
      have Zc0 : World.cell? w3 ⟨w.heap.size + 1, 0, none⟩ = some (.int .u64 0) := Zb.get 0 rfl
      have Zf0 := Blk.frozen Zb 0
      have Zc1 : World.cell? w3 ⟨w.heap.size + 1, 1, none⟩ = some (.int .u64 0) := Zb.get 1 rfl
      have Zf1 := Blk.frozen Zb 1
      have Zc2 : World.cell? w3 ⟨w.heap.size + 1, 2, none⟩ = some (.int .u64 0) := Zb.get 2 rfl
      have Zf2 := Blk.frozen Zb 2
      have Zn := Blk.lt Zb
      have B3 : Below w.heap.size w w3 := by first | with_reducible exact below_next B2 hb3 | exact below_step B2 (by go_grown) hb3
      clear hb3 B2
      go_wp2_with fail
      with_reducible refine (M2.out _).mono ?_
      rintro e w4 ⟨rfl, hb4⟩
      have Cm : Blk w4 (w.heap.size) 24 #[.int .u64 F, .int .u64 L, .int .u64 R] := Blk.next (by repeat (first | (with_reducible exact Cb) | (refine Blk.new_at ?_; simp only [World.size_alloc]; done) | (with_reducible refine Blk.alloc ?_ _) | (with_reducible refine Blk.drewN ?_ _))) hb4
      clear Cn Cb Cc0 Cf0 Cc1 Cf1 Cc2 Cf2
      have Cb := Cm
      clear Cm
      have Cc0 : World.cell? w4 ⟨w.heap.size, 0, none⟩ = some (.int .u64 F) := Cb.get 0 rfl
      have Cf0 := Blk.frozen Cb 0
      have Cc1 : World.cell? w4 ⟨w.heap.size, 1, none⟩ = some (.int .u64 L) := Cb.get 1 rfl
      have Cf1 := Blk.frozen Cb 1
      have Cc2 : World.cell? w4 ⟨w.heap.size, 2, none⟩ = some (.int .u64 R) := Cb.get 2 rfl
      have Cf2 := Blk.frozen Cb 2
      have Cn := Blk.lt Cb
      have Zm : Blk w4 (w.heap.size + 1) 24 #[.int .u64 0, .int .u64 0, .int .u64 0] := Blk.next (by repeat (first | (with_reducible exact Zb) | (refine Blk.new_at ?_; simp only [World.size_alloc]; done) | (with_reducible refine Blk.alloc ?_ _) | (with_reducible refine Blk.drewN ?_ _))) hb4
      clear Zn Zb Zc0 Zf0 Zc1 Zf1 Zc2 Zf2
      have Zb := Zm
      clear Zm
      have Zc0 : World.cell? w4 ⟨w.heap.size + 1, 0, none⟩ = some (.int .u64 0) := Zb.get 0 rfl
      have Zf0 := Blk.frozen Zb 0
      have Zc1 : World.cell? w4 ⟨w.heap.size + 1, 1, none⟩ = some (.int .u64 0) := Zb.get 1 rfl
      have Zf1 := Blk.frozen Zb 1
      have Zc2 : World.cell? w4 ⟨w.heap.size + 1, 2, none⟩ = some (.int .u64 0) := Zb.get 2 rfl
      have Zf2 := Blk.frozen Zb 2
      have Zn := Blk.lt Zb
      have Om : Blk w4 (w3.heap.size) 24 #[.int .u64 0, .int .u64 0, .int .u64 x0] := Blk.next (by repeat (first | (refine Blk.new_at ?_; simp only [World.size_alloc]; done) | (with_reducible refine Blk.alloc ?_ _) | (with_reducible refine Blk.drewN ?_ _))) hb4
      have Ob := Om
      clear Om
      have Oc0 : World.cell? w4 ⟨w3.heap.size, 0, none⟩ = some (.int .u64 0) := Ob.get 0 rfl
      have Of0 := Blk.frozen Ob 0
      have Oc1 : World.cell? w4 ⟨w3.heap.size, 1, none⟩ = some (.int .u64 0) := Ob.get 1 rfl
      have Of1 := Blk.frozen Ob 1
      have Oc2 : World.cell? w4 ⟨w3.heap.size, 2, none⟩ = some (.int .u64 x0) := Ob.get 2 rfl
      have Of2 := Blk.frozen Ob 2
      have On := Blk.lt Ob
      have B4 : Below w.heap.size w w4 := by first | with_reducible exact below_next B3 hb4 | exact below_step B3 (by go_grown) hb4
      clear hb4 B3
      obtain ⟨P0, P1, P2, P3⟩ := Blk.puts3 Zb (.int .u64 0) (.int .u64 0) (.int .u64 x0)
      go_wp2_with fail
      refine bodyPost_ret (by simp [results, Try.results28, go_sem, P0, P1, P2]; try rfl) rfl ?_
      exact ⟨rfl, below_puts3 B4 (by omega) _ _ _⟩
    · obtain ⟨e1, e2, e3, e4⟩ := pN hq
      rw [e1, e2, e3, e4]
      have M2 := Lib.hid (fun w => refmay_val 0 0 x0 false w (by decide) hq)
      clear pI pN e1 e2 e3 e4 hq
      go_enter Try.func28, Try.ntmps28
      go_wp2_with fail
      with_reducible refine (MA.out _).mono ?_
      rintro e w1 ⟨rfl, hb1⟩
      have Cm : Blk w1 (w.heap.size) 24 #[.int .u64 F, .int .u64 L, .int .u64 R] := Blk.next (by repeat (first | (refine Blk.new_at ?_; simp only [World.size_alloc]; done) | (with_reducible refine Blk.alloc ?_ _) | (with_reducible refine Blk.drewN ?_ _))) hb1
      have Cb := Cm
      clear Cm
      have Cc0 : World.cell? w1 ⟨w.heap.size, 0, none⟩ = some (.int .u64 F) := Cb.get 0 rfl
      have Cf0 := Blk.frozen Cb 0
      have Cc1 : World.cell? w1 ⟨w.heap.size, 1, none⟩ = some (.int .u64 L) := Cb.get 1 rfl
      have Cf1 := Blk.frozen Cb 1
      have Cc2 : World.cell? w1 ⟨w.heap.size, 2, none⟩ = some (.int .u64 R) := Cb.get 2 rfl
      have Cf2 := Blk.frozen Cb 2
      have Cn := Blk.lt Cb
      have Zm : Blk w1 (w.heap.size + 1) 24 #[.int .u64 0, .int .u64 0, .int .u64 0] := Blk.next (by repeat (first | (refine Blk.new_at ?_; simp only [World.size_alloc]; done) | (with_reducible refine Blk.alloc ?_ _) | (with_reducible refine Blk.drewN ?_ _))) hb1
      have Zb := Zm
      clear Zm
      have Zc0 : World.cell? w1 ⟨w.heap.size + 1, 0, none⟩ = some (.int .u64 0) := Zb.get 0 rfl
      have Zf0 := Blk.frozen Zb 0
      have Zc1 : World.cell? w1 ⟨w.heap.size + 1, 1, none⟩ = some (.int .u64 0) := Zb.get 1 rfl
      have Zf1 := Blk.frozen Zb 1
      have Zc2 : World.cell? w1 ⟨w.heap.size + 1, 2, none⟩ = some (.int .u64 0) := Zb.get 2 rfl
      have Zf2 := Blk.frozen Zb 2
      have Zn := Blk.lt Zb
      have B1 : Below w.heap.size w w1 := by first | with_reducible exact hb1 | exact Below.trans (by go_grown) (hb1.mono (by simp only [World.size_alloc]; omega))
      clear hb1
      go_wp2_with fail
      with_reducible refine (D0.out _).mono ?_
      rintro e w2 ⟨rfl, hb2⟩
      have Cm : Blk w2 (w.heap.size) 24 #[.int .u64 F, .int .u64 L, .int .u64 R] := Blk.next (by repeat (first | (with_reducible exact Cb) | (refine Blk.new_at ?_; simp only [World.size_alloc]; done) | (with_reducible refine Blk.alloc ?_ _) | (with_reducible refine Blk.drewN ?_ _))) hb2
      clear Cn Cb Cc0 Cf0 Cc1 Cf1 Cc2 Cf2
      have Cb := Cm
      clear Cm
      have Cc0 : World.cell? w2 ⟨w.heap.size, 0, none⟩ = some (.int .u64 F) := Cb.get 0 rfl
      have Cf0 := Blk.frozen Cb 0
      have Cc1 : World.cell? w2 ⟨w.heap.size, 1, none⟩ = some (.int .u64 L) := Cb.get 1 rfl
      have Cf1 := Blk.frozen Cb 1
      have Cc2 : World.cell? w2 ⟨w.heap.size, 2, none⟩ = some (.int .u64 R) := Cb.get 2 rfl
      have Cf2 := Blk.frozen Cb 2
      have Cn := Blk.lt Cb
      have Zm : Blk w2 (w.heap.size + 1) 24 #[.int .u64 0, .int .u64 0, .int .u64 0] := Blk.next (by repeat (first | (with_reducible exact Zb) | (refine Blk.new_at ?_; simp only [World.size_alloc]; done) | (with_reducible refine Blk.alloc ?_ _) | (with_reducible refine Blk.drewN ?_ _))) hb2
      clear Zn Zb Zc0 Zf0 Zc1 Zf1 Zc2 Zf2
      have Zb := Zm
      clear Zm
      have Zc0 : World.cell? w2 ⟨w.heap.size + 1, 0, none⟩ = some (.int .u64 0) := Zb.get 0 rfl
      have Zf0 := Blk.frozen Zb 0
      have Zc1 : World.cell? w2 ⟨w.heap.size + 1, 1, none⟩ = some (.int .u64 0) := Zb.get 1 rfl
      have Zf1 := Blk.frozen Zb 1
      have Zc2 : World.cell? w2 ⟨w.heap.size + 1, 2, none⟩ = some (.int .u64 0) := Zb.get 2 rfl
      have Zf2 := Blk.frozen Zb 2
      have Zn := Blk.lt Zb
      have B2 : Below w.heap.size w w2 := by first | with_reducible exact below_next B1 hb2 | exact below_step B1 (by go_grown) hb2
      clear hb2 B1
      go_wp2_with fail
      with_reducible refine (D1.out _).mono ?_
      rintro e w3 ⟨rfl, hb3⟩
      have Cm : Blk w3 (w.heap.size) 24 #[.int .u64 F, .int .u64 L, .int .u64 R] := Blk.next (by repeat (first | (with_reducible exact Cb) | (refine Blk.new_at ?_; simp only [World.size_alloc]; done) | (with_reducible refine Blk.alloc ?_ _) | (with_reducible refine Blk.drewN ?_ _))) hb3
      clear Cn Cb Cc0 Cf0 Cc1 Cf1 Cc2 Cf2
      have Cb := Cm
      clear Cm
      have Cc0 : World.cell? w3 ⟨w.heap.size, 0, none⟩ = some (.int .u64 F) := Cb.get 0 rfl
      have Cf0 := Blk.frozen Cb 0
      have Cc1 : World.cell? w3 ⟨w.heap.size, 1, none⟩ = some (.int .u64 L) := Cb.get 1 rfl
      have Cf1 := Blk.frozen Cb 1
      have Cc2 : World.cell? w3 ⟨w.heap.size, 2, none⟩ = some (.int .u64 R) := Cb.get 2 rfl
      have Cf2 := Blk.frozen Cb 2
      have Cn := Blk.lt Cb
      have Zm : Blk w3 (w.heap.size + 1) 24 #[.int .u64 0, .int .u64 0, .int .u64 0] := Blk.next (by repeat (first | (with_reducible exact Zb) | (refine Blk.new_at ?_; simp only [World.size_alloc]; done) | (with_reducible refine Blk.alloc ?_ _) | (with_reducible refine Blk.drewN ?_ _))) hb3
      clear Zn Zb Zc0 Zf0 Zc1 Zf1 Zc2 Zf2
      have Zb := Zm
      clear Zm
      have Zc0 : World.cell? w3 ⟨w.heap.size + 1, 0, none⟩ = some (.int .u64 0) := Zb.get 0 rfl
      have Zf0 := Blk.frozen Zb 0
      have Zc1 : World.cell? w3 ⟨w.heap.size + 1, 1, none⟩ = some (.int .u64 0) := Zb.get 1 rfl
      have Zf1 := Blk.frozen Zb 1
      have Zc2 : World.cell? w3 ⟨w.heap.size + 1, 2, none⟩ = some (.int .u64 0) := Zb.get 2 rfl
      have Zf2 := Blk.frozen Zb 2
      have Zn := Blk.lt Zb
      have B3 : Below w.heap.size w w3 := by first | with_reducible exact below_next B2 hb3 | exact below_step B2 (by go_grown) hb3
      clear hb3 B2
      go_wp2_with fail
      with_reducible refine (M2.out _).mono ?_
      rintro e w4 ⟨rfl, hb4⟩
      have Cm : Blk w4 (w.heap.size) 24 #[.int .u64 F, .int .u64 L, .int .u64 R] := Blk.next (by repeat (first | (with_reducible exact Cb) | (refine Blk.new_at ?_; simp only [World.size_alloc]; done) | (with_reducible refine Blk.alloc ?_ _) | (with_reducible refine Blk.drewN ?_ _))) hb4
      clear Cn Cb Cc0 Cf0 Cc1 Cf1 Cc2 Cf2
      have Cb := Cm
      clear Cm
      have Cc0 : World.cell? w4 ⟨w.heap.size, 0, none⟩ = some (.int .u64 F) := Cb.get 0 rfl
      have Cf0 := Blk.frozen Cb 0
      have Cc1 : World.cell? w4 ⟨w.heap.size, 1, none⟩ = some (.int .u64 L) := Cb.get 1 rfl
      have Cf1 := Blk.frozen Cb 1
      have Cc2 : World.cell? w4 ⟨w.heap.size, 2, none⟩ = some (.int .u64 R) := Cb.get 2 rfl
      have Cf2 := Blk.frozen Cb 2
      have Cn := Blk.lt Cb
      have Zm : Blk w4 (w.heap.size + 1) 24 #[.int .u64 0, .int .u64 0, .int .u64 0] := Blk.next (by repeat (first | (with_reducible exact Zb) | (refine Blk.new_at ?_; simp only [World.size_alloc]; done) | (with_reducible refine Blk.alloc ?_ _) | (with_reducible refine Blk.drewN ?_ _))) hb4
      clear Zn Zb Zc0 Zf0 Zc1 Zf1 Zc2 Zf2
      have Zb := Zm
      clear Zm
      have Zc0 : World.cell? w4 ⟨w.heap.size + 1, 0, none⟩ = some (.int .u64 0) := Zb.get 0 rfl
      have Zf0 := Blk.frozen Zb 0
      have Zc1 : World.cell? w4 ⟨w.heap.size + 1, 1, none⟩ = some (.int .u64 0) := Zb.get 1 rfl
      have Zf1 := Blk.frozen Zb 1
      have Zc2 : World.cell? w4 ⟨w.heap.size + 1, 2, none⟩ = some (.int .u64 0) := Zb.get 2 rfl
      have Zf2 := Blk.frozen Zb 2
      have Zn := Blk.lt Zb
      have Om : Blk w4 (w3.heap.size) 24 #[.int .u64 0, .int .u64 0, .int .u64 x0] := Blk.next (by repeat (first | (refine Blk.new_at ?_; simp only [World.size_alloc]; done) | (with_reducible refine Blk.alloc ?_ _) | (with_reducible refine Blk.drewN ?_ _))) hb4
      have Ob := Om
      clear Om
      have Oc0 : World.cell? w4 ⟨w3.heap.size, 0, none⟩ = some (.int .u64 0) := Ob.get 0 rfl
      have Of0 := Blk.frozen Ob 0
      have Oc1 : World.cell? w4 ⟨w3.heap.size, 1, none⟩ = some (.int .u64 0) := Ob.get 1 rfl
      have Of1 := Blk.frozen Ob 1
      have Oc2 : World.cell? w4 ⟨w3.heap.size, 2, none⟩ = some (.int .u64 x0) := Ob.get 2 rfl
      have Of2 := Blk.frozen Ob 2
      have On := Blk.lt Ob
      have B4 : Below w.heap.size w w4 := by first | with_reducible exact below_next B3 hb4 | exact below_step B3 (by go_grown) hb4
      clear hb4 B3
      obtain ⟨P0, P1, P2, P3⟩ := Blk.puts3 Zb (.int .u64 0) (.int .u64 0) (.int .u64 0)
      go_wp2_with fail
      refine bodyPost_ret (by simp [results, Try.results28, go_sem, P0, P1, P2]; try rfl) rfl ?_
      exact ⟨rfl, below_puts3 B4 (by omega) _ _ _⟩
  · rw [o1, o2] at pI pN
    clear o1 o2
    have hne2 : (x0 != x1) = true := by simp [bne, hne]
    rcases Bool.eq_false_or_eq_true (mayB 0 0 x1) with hq | hq
    · obtain ⟨e1, e2, e3, e4⟩ := pI hq
      rw [e1, e2, e3, e4]
      have M2 := Lib.hid (fun w => refmay_val 0 0 x1 true w (by decide) hq)
      clear pI pN e1 e2 e3 e4 hq
      go_enter Try.func28, Try.ntmps28
      go_wp2_with fail
      with_reducible refine (MA.out _).mono ?_
      rintro e w1 ⟨rfl, hb1⟩
      have Cm : Blk w1 (w.heap.size) 24 #[.int .u64 F, .int .u64 0, .int .u64 R] := Blk.next (by repeat (first | (refine Blk.new_at ?_; simp only [World.size_alloc]; done) | (with_reducible refine Blk.alloc ?_ _) | (with_reducible refine Blk.drewN ?_ _))) hb1
      have Cb := Cm
      clear Cm
      have Cc0 : World.cell? w1 ⟨w.heap.size, 0, none⟩ = some (.int .u64 F) := Cb.get 0 rfl
      have Cf0 := Blk.frozen Cb 0
      have Cc1 : World.cell? w1 ⟨w.heap.size, 1, none⟩ = some (.int .u64 0) := Cb.get 1 rfl
      have Cf1 := Blk.frozen Cb 1
      have Cc2 : World.cell? w1 ⟨w.heap.size, 2, none⟩ = some (.int .u64 R) := Cb.get 2 rfl
      have Cf2 := Blk.frozen Cb 2
      have Cn := Blk.lt Cb
      have Zm : Blk w1 (w.heap.size + 1) 24 #[.int .u64 0, .int .u64 0, .int .u64 0] := Blk.next (by repeat (first | (refine Blk.new_at ?_; simp only [World.size_alloc]; done) | (with_reducible refine Blk.alloc ?_ _) | (with_reducible refine Blk.drewN ?_ _))) hb1
      have Zb := Zm
      clear Zm
      have Zc0 : World.cell? w1 ⟨w.heap.size + 1, 0, none⟩ = some (.int .u64 0) := Zb.get 0 rfl
      have Zf0 := Blk.frozen Zb 0
      have Zc1 : World.cell? w1 ⟨w.heap.size + 1, 1, none⟩ = some (.int .u64 0) := Zb.get 1 rfl
      have Zf1 := Blk.frozen Zb 1
      have Zc2 : World.cell? w1 ⟨w.heap.size + 1, 2, none⟩ = some (.int .u64 0) := Zb.get 2 rfl
      have Zf2 := Blk.frozen Zb 2
      have Zn := Blk.lt Zb
      have B1 : Below w.heap.size w w1 := by first | with_reducible exact hb1 | exact Below.trans (by go_grown) (hb1.mono (by simp only [World.size_alloc]; omega))
      clear hb1
      go_wp2_with fail
      with_reducible refine (D0.out _).mono ?_
      rintro e w2 ⟨rfl, hb2⟩
      have Cm : Blk w2 (w.heap.size) 24 #[.int .u64 F, .int .u64 0, .int .u64 R] := Blk.next (by repeat (first | (with_reducible exact Cb) | (refine Blk.new_at ?_; simp only [World.size_alloc]; done) | (with_reducible refine Blk.alloc ?_ _) | (with_reducible refine Blk.drewN ?_ _))) hb2
      clear Cn Cb Cc0 Cf0 Cc1 Cf1 Cc2 Cf2
      have Cb := Cm
      clear Cm
      have Cc0 : World.cell? w2 ⟨w.heap.size, 0, none⟩ = some (.int .u64 F) := Cb.get 0 rfl
      have Cf0 := Blk.frozen Cb 0
      have Cc1 : World.cell? w2 ⟨w.heap.size, 1, none⟩ = some (.int .u64 0) := Cb.get 1 rfl
      have Cf1 := Blk.frozen Cb 1
      have Cc2 : World.cell? w2 ⟨w.heap.size, 2, none⟩ = some (.int .u64 R) := Cb.get 2 rfl
      have Cf2 := Blk.frozen Cb 2
      have Cn := Blk.lt Cb
      have Zm : Blk w2 (w.heap.size + 1) 24 #[.int .u64 0, .int .u64 0, .int .u64 0] := Blk.next (by repeat (first | (with_reducible exact Zb) | (refine Blk.new_at ?_; simp only [World.size_alloc]; done) | (with_reducible refine Blk.alloc ?_ _) | (with_reducible refine Blk.drewN ?_ _))) hb2
      clear Zn Zb Zc0 Zf0 Zc1 Zf1 Zc2 Zf2
      have Zb := Zm
      clear Zm
      have Zc0 : World.cell? w2 ⟨w.heap.size + 1, 0, none⟩ = some (.int .u64 0) := Zb.get 0 rfl
      have Zf0 := Blk.frozen Zb 0
      have Zc1 : World.cell? w2 ⟨w.heap.size + 1, 1, none⟩ = some (.int .u64 0) := Zb.get 1 rfl
      have Zf1 := Blk.frozen Zb 1
      have Zc2 : World.cell? w2 ⟨w.heap.size + 1, 2, none⟩ = some (.int .u64 0) := Zb.get 2 rfl
      have Zf2 := Blk.frozen Zb 2
      have Zn := Blk.lt Zb
      have B2 : Below w.heap.size w w2 := by first | with_reducible exact below_next B1 hb2 | exact below_step B1 (by go_grown) hb2
      clear hb2 B1
      go_wp2_with fail
      with_reducible refine (D1.out _).mono ?_
      rintro e w3 ⟨rfl, hb3⟩
      have Cm : Blk w3 (w.heap.size) 24 #[.int .u64 F, .int .u64 0, .int .u64 R] := Blk.next (by repeat (first | (with_reducible exact Cb) | (refine Blk.new_at ?_; simp only [World.size_alloc]; done) | (with_reducible refine Blk.alloc ?_ _) | (with_reducible refine Blk.drewN ?_ _))) hb3
      clear Cn Cb Cc0 Cf0 Cc1 Cf1 Cc2 Cf2
      have Cb := Cm
      clear Cm
      have Cc0 : World.cell? w3 ⟨w.heap.size, 0, none⟩ = some (.int .u64 F) := Cb.get 0 rfl
      have Cf0 := Blk.frozen Cb 0
      have Cc1 : World.cell? w3 ⟨w.heap.size, 1, none⟩ = some (.int .u64 0) := Cb.get 1 rfl
      have Cf1 := Blk.frozen Cb 1
      have Cc2 : World.cell? w3 ⟨w.heap.size, 2, none⟩ = some (.int .u64 R) := Cb.get 2 rfl
      have Cf2 := Blk.frozen Cb 2
      have Cn := Blk.lt Cb
      have Zm : Blk w3 (w.heap.size + 1) 24 #[.int .u64 0, .int .u64 0, .int .u64 0] := Blk.next (by repeat (first | (with_reducible exact Zb) | (refine Blk.new_at ?_; simp only [World.size_alloc]; done) | (with_reducible refine Blk.alloc ?_ _) | (with_reducible refine Blk.drewN ?_ _))) hb3
      clear Zn Zb Zc0 Zf0 Zc1 Zf1 Zc2 Zf2
      have Zb := Zm
      clear Zm
      have Zc0 : World.cell? w3 ⟨w.heap.size + 1, 0, none⟩ = some (.int .u64 0) := Zb.get 0 rfl
      have Zf0 := Blk.frozen Zb 0
      have Zc1 : World.cell? w3 ⟨w.heap.size + 1, 1, none⟩ = some (.int .u64 0) := Zb.get 1 rfl
      have Zf1 := Blk.frozen Zb 1
      have Zc2 : World.cell? w3 ⟨w.heap.size + 1, 2, none⟩ = some (.int .u64 0) := Zb.get 2 rfl
      have Zf2 := Blk.frozen Zb 2
      have Zn := Blk.lt Zb
      have B3 : Below w.heap.size w w3 := by first | with_reducible exact below_next B2 hb3 | exact below_step B2 (by go_grown) hb3
      clear hb3 B2
      go_wp2_with fail
      with_reducible refine (M2.out _).mono ?_
      rintro e w4 ⟨rfl, hb4⟩
      have Cm : Blk w4 (w.heap.size) 24 #[.int .u64 F, .int .u64 0, .int .u64 R] := Blk.next (by repeat (first | (with_reducible exact Cb) | (refine Blk.new_at ?_; simp only [World.size_alloc]; done) | (with_reducible refine Blk.alloc ?_ _) | (with_reducible refine Blk.drewN ?_ _))) hb4
      clear Cn Cb Cc0 Cf0 Cc1 Cf1 Cc2 Cf2
      have Cb := Cm
      clear Cm
      have Cc0 : World.cell? w4 ⟨w.heap.size, 0, none⟩ = some (.int .u64 F) := Cb.get 0 rfl
      have Cf0 := Blk.frozen Cb 0
      have Cc1 : World.cell? w4 ⟨w.heap.size, 1, none⟩ = some (.int .u64 0) := Cb.get 1 rfl
      have Cf1 := Blk.frozen Cb 1
      have Cc2 : World.cell? w4 ⟨w.heap.size, 2, none⟩ = some (.int .u64 R) := Cb.get 2 rfl
      have Cf2 := Blk.frozen Cb 2
      have Cn := Blk.lt Cb
      have Zm : Blk w4 (w.heap.size + 1) 24 #[.int .u64 0, .int .u64 0, .int .u64 0] := Blk.next (by repeat (first | (with_reducible exact Zb) | (refine Blk.new_at ?_; simp only [World.size_alloc]; done) | (with_reducible refine Blk.alloc ?_ _) | (with_reducible refine Blk.drewN ?_ _))) hb4
      clear Zn Zb Zc0 Zf0 Zc1 Zf1 Zc2 Zf2
      have Zb := Zm
      clear Zm
      have Zc0 : World.cell? w4 ⟨w.heap.size + 1, 0, none⟩ = some (.int .u64 0) := Zb.get 0 rfl
      have Zf0 := Blk.frozen Zb 0
      have Zc1 : World.cell? w4 ⟨w.heap.size + 1, 1, none⟩ = some (.int .u64 0) := Zb.get 1 rfl
      have Zf1 := Blk.frozen Zb 1
      have Zc2 : World.cell? w4 ⟨w.heap.size + 1, 2, none⟩ = some (.int .u64 0) := Zb.get 2 rfl
      have Zf2 := Blk.frozen Zb 2
      have Zn := Blk.lt Zb
      have Om : Blk w4 (w3.heap.size) 24 #[.int .u64 0, .int .u64 0, .int .u64 x1] := Blk.next (by repeat (first | (refine Blk.new_at ?_; simp only [World.size_alloc]; done) | (with_reducible refine Blk.alloc ?_ _) | (with_reducible refine Blk.drewN ?_ _))) hb4
      have Ob := Om
      clear Om
      have Oc0 : World.cell? w4 ⟨w3.heap.size, 0, none⟩ = some (.int .u64 0) := Ob.get 0 rfl
      have Of0 := Blk.frozen Ob 0
      have Oc1 : World.cell? w4 ⟨w3.heap.size, 1, none⟩ = some (.int .u64 0) := Ob.get 1 rfl
      have Of1 := Blk.frozen Ob 1
      have Oc2 : World.cell? w4 ⟨w3.heap.size, 2, none⟩ = some (.int .u64 x1) := Ob.get 2 rfl
      have Of2 := Blk.frozen Ob 2
      have On := Blk.lt Ob
      have B4 : Below w.heap.size w w4 := by first | with_reducible exact below_next B3 hb4 | exact below_step B3 (by go_grown) hb4
      clear hb4 B3
      obtain ⟨P0, P1, P2, P3⟩ := Blk.puts3 Zb (.int .u64 0) (.int .u64 0) (.int .u64 x1)
      go_wp2_with fail
      refine bodyPost_ret (by simp [results, Try.results28, go_sem, P0, P1, P2]; try rfl) rfl ?_
      exact ⟨rfl, below_puts3 B4 (by omega) _ _ _⟩
    · obtain ⟨e1, e2, e3, e4⟩ := pN hq
      rw [e1, e2, e3, e4]
      have M2 := Lib.hid (fun w => refmay_val 0 0 x1 false w (by decide) hq)
      clear pI pN e1 e2 e3 e4 hq
      go_enter Try.func28, Try.ntmps28
      go_wp2_with fail
      with_reducible refine (MA.out _).mono ?_
      rintro e w1 ⟨rfl, hb1⟩
      have Cm : Blk w1 (w.heap.size) 24 #[.int .u64 F, .int .u64 0, .int .u64 R] := Blk.next (by repeat (first | (refine Blk.new_at ?_; simp only [World.size_alloc]; done) | (with_reducible refine Blk.alloc ?_ _) | (with_reducible refine Blk.drewN ?_ _))) hb1
      have Cb := Cm
      clear Cm
      have Cc0 : World.cell? w1 ⟨w.heap.size, 0, none⟩ = some (.int .u64 F) := Cb.get 0 rfl
      have Cf0 := Blk.frozen Cb 0
      have Cc1 : World.cell? w1 ⟨w.heap.size, 1, none⟩ = some (.int .u64 0) := Cb.get 1 rfl
      have Cf1 := Blk.frozen Cb 1
      have Cc2 : World.cell? w1 ⟨w.heap.size, 2, none⟩ = some (.int .u64 R) := Cb.get 2 rfl
      have Cf2 := Blk.frozen Cb 2
      have Cn := Blk.lt Cb
      have Zm : Blk w1 (w.heap.size + 1) 24 #[.int .u64 0, .int .u64 0, .int .u64 0] := Blk.next (by repeat (first | (refine Blk.new_at ?_; simp only [World.size_alloc]; done) | (with_reducible refine Blk.alloc ?_ _) | (with_reducible refine Blk.drewN ?_ _))) hb1
      have Zb := Zm
      clear Zm
      have Zc0 : World.cell? w1 ⟨w.heap.size + 1, 0, none⟩ = some (.int .u64 0) := Zb.get 0 rfl
      have Zf0 := Blk.frozen Zb 0
      have Zc1 : World.cell? w1 ⟨w.heap.size + 1, 1, none⟩ = some (.int .u64 0) := Zb.get 1 rfl
      have Zf1 := Blk.frozen Zb 1
      have Zc2 : World.cell? w1 ⟨w.heap.size + 1, 2, none⟩ = some (.int .u64 0) := Zb.get 2 rfl
      have Zf2 := Blk.frozen Zb 2
      have Zn := Blk.lt Zb
      have B1 : Below w.heap.size w w1 := by first | with_reducible exact hb1 | exact Below.trans (by go_grown) (hb1.mono (by simp only [World.size_alloc]; omega))
      clear hb1
      go_wp2_with fail
      with_reducible refine (D0.out _).mono ?_
      rintro e w2 ⟨rfl, hb2⟩
      have Cm : Blk w2 (w.heap.size) 24 #[.int .u64 F, .int .u64 0, .int .u64 R] := Blk.next (by repeat (first | (with_reducible exact Cb) | (refine Blk.new_at ?_; simp only [World.size_alloc]; done) | (with_reducible refine Blk.alloc ?_ _) | (with_reducible refine Blk.drewN ?_ _))) hb2
      clear Cn Cb Cc0 Cf0 Cc1 Cf1 Cc2 Cf2
      have Cb := Cm
      clear Cm
      have Cc0 : World.cell? w2 ⟨w.heap.size, 0, none⟩ = some (.int .u64 F) := Cb.get 0 rfl
      have Cf0 := Blk.frozen Cb 0
      have Cc1 : World.cell? w2 ⟨w.heap.size, 1, none⟩ = some (.int .u64 0) := Cb.get 1 rfl
      have Cf1 := Blk.frozen Cb 1
      have Cc2 : World.cell? w2 ⟨w.heap.size, 2, none⟩ = some (.int .u64 R) := Cb.get 2 rfl
      have Cf2 := Blk.frozen Cb 2
      have Cn := Blk.lt Cb
      have Zm : Blk w2 (w.heap.size + 1) 24 #[.int .u64 0, .int .u64 0, .int .u64 0] := Blk.next (by repeat (first | (with_reducible exact Zb) | (refine Blk.new_at ?_; simp only [World.size_alloc]; done) | (with_reducible refine Blk.alloc ?_ _) | (with_reducible refine Blk.drewN ?_ _))) hb2
      clear Zn Zb Zc0 Zf0 Zc1 Zf1 Zc2 Zf2
      have Zb := Zm
      clear Zm
      have Zc0 : World.cell? w2 ⟨w.heap.size + 1, 0, none⟩ = some (.int .u64 0) := Zb.get 0 rfl
      have Zf0 := Blk.frozen Zb 0
      have Zc1 : World.cell? w2 ⟨w.heap.size + 1, 1, none⟩ = some (.int .u64 0) := Zb.get 1 rfl
      have Zf1 := Blk.frozen Zb 1
      have Zc2 : World.cell? w2 ⟨w.heap.size + 1, 2, none⟩ = some (.int .u64 0) := Zb.get 2 rfl
      have Zf2 := Blk.frozen Zb 2
      have Zn := Blk.lt Zb
      have B2 : Below w.heap.size w w2 := by first | with_reducible exact below_next B1 hb2 | exact below_step B1 (by go_grown) hb2
      clear hb2 B1
      go_wp2_with fail
      with_reducible refine (D1.out _).mono ?_
      rintro e w3 ⟨rfl, hb3⟩
      have Cm : Blk w3 (w.heap.size) 24 #[.int .u64 F, .int .u64 0, .int .u64 R] := Blk.next (by repeat (first | (with_reducible exact Cb) | (refine Blk.new_at ?_; simp only [World.size_alloc]; done) | (with_reducible refine Blk.alloc ?_ _) | (with_reducible refine Blk.drewN ?_ _))) hb3
      clear Cn Cb Cc0 Cf0 Cc1 Cf1 Cc2 Cf2
      have Cb := Cm
      clear Cm
      have Cc0 : World.cell? w3 ⟨w.heap.size, 0, none⟩ = some (.int .u64 F) := Cb.get 0 rfl
      have Cf0 := Blk.frozen Cb 0
      have Cc1 : World.cell? w3 ⟨w.heap.size, 1, none⟩ = some (.int .u64 0) := Cb.get 1 rfl
      have Cf1 := Blk.frozen Cb 1
      have Cc2 : World.cell? w3 ⟨w.heap.size, 2, none⟩ = some (.int .u64 R) := Cb.get 2 rfl
      have Cf2 := Blk.frozen Cb 2
      have Cn := Blk.lt Cb
      have Zm : Blk w3 (w.heap.size + 1) 24 #[.int .u64 0, .int .u64 0, .int .u64 0] := Blk.next (by repeat (first | (with_reducible exact Zb) | (refine Blk.new_at ?_; simp only [World.size_alloc]; done) | (with_reducible refine Blk.alloc ?_ _) | (with_reducible refine Blk.drewN ?_ _))) hb3
      clear Zn Zb Zc0 Zf0 Zc1 Zf1 Zc2 Zf2
      have Zb := Zm
      clear Zm
      have Zc0 : World.cell? w3 ⟨w.heap.size + 1, 0, none⟩ = some (.int .u64 0) := Zb.get 0 rfl
      have Zf0 := Blk.frozen Zb 0
      have Zc1 : World.cell? w3 ⟨w.heap.size + 1, 1, none⟩ = some (.int .u64 0) := Zb.get 1 rfl
      have Zf1 := Blk.frozen Zb 1
      have Zc2 : World.cell? w3 ⟨w.heap.size + 1, 2, none⟩ = some (.int .u64 0) := Zb.get 2 rfl
      have Zf2 := Blk.frozen Zb 2
      have Zn := Blk.lt Zb
      have B3 : Below w.heap.size w w3 := by first | with_reducible exact below_next B2 hb3 | exact below_step B2 (by go_grown) hb3
      clear hb3 B2
      go_wp2_with fail
      with_reducible refine (M2.out _).mono ?_
      rintro e w4 ⟨rfl, hb4⟩
      have Cm : Blk w4 (w.heap.size) 24 #[.int .u64 F, .int .u64 0, .int .u64 R] := Blk.next (by repeat (first | (with_reducible exact Cb) | (refine Blk.new_at ?_; simp only [World.size_alloc]; done) | (with_reducible refine Blk.alloc ?_ _) | (with_reducible refine Blk.drewN ?_ _))) hb4
      clear Cn Cb Cc0 Cf0 Cc1 Cf1 Cc2 Cf2
      have Cb := Cm
      clear Cm
      have Cc0 : World.cell? w4 ⟨w.heap.size, 0, none⟩ = some (.int .u64 F) := Cb.get 0 rfl
      have Cf0 := Blk.frozen Cb 0
      have Cc1 : World.cell? w4 ⟨w.heap.size, 1, none⟩ = some (.int .u64 0) := Cb.get 1 rfl
      have Cf1 := Blk.frozen Cb 1
      have Cc2 : World.cell? w4 ⟨w.heap.size, 2, none⟩ = some (.int .u64 R) := Cb.get 2 rfl
      have Cf2 := Blk.frozen Cb 2
      have Cn := Blk.lt Cb
      have Zm : Blk w4 (w.heap.size + 1) 24 #[.int .u64 0, .int .u64 0, .int .u64 0] := Blk.next (by repeat (first | (with_reducible exact Zb) | (refine Blk.new_at ?_; simp only [World.size_alloc]; done) | (with_reducible refine Blk.alloc ?_ _) | (with_reducible refine Blk.drewN ?_ _))) hb4
      clear Zn Zb Zc0 Zf0 Zc1 Zf1 Zc2 Zf2
      have Zb := Zm
      clear Zm
      have Zc0 : World.cell? w4 ⟨w.heap.size + 1, 0, none⟩ = some (.int .u64 0) := Zb.get 0 rfl
      have Zf0 := Blk.frozen Zb 0
      have Zc1 : World.cell? w4 ⟨w.heap.size + 1, 1, none⟩ = some (.int .u64 0) := Zb.get 1 rfl
      have Zf1 := Blk.frozen Zb 1
      have Zc2 : World.cell? w4 ⟨w.heap.size + 1, 2, none⟩ = some (.int .u64 0) := Zb.get 2 rfl
      have Zf2 := Blk.frozen Zb 2
      have Zn := Blk.lt Zb
      have Om : Blk w4 (w3.heap.size) 24 #[.int .u64 0, .int .u64 0, .int .u64 x1] := Blk.next (by repeat (first | (refine Blk.new_at ?_; simp only [World.size_alloc]; done) | (with_reducible refine Blk.alloc ?_ _) | (with_reducible refine Blk.drewN ?_ _))) hb4
      have Ob := Om
      clear Om
      have Oc0 : World.cell? w4 ⟨w3.heap.size, 0, none⟩ = some (.int .u64 0) := Ob.get 0 rfl
      have Of0 := Blk.frozen Ob 0
      have Oc1 : World.cell? w4 ⟨w3.heap.size, 1, none⟩ = some (.int .u64 0) := Ob.get 1 rfl
      have Of1 := Blk.frozen Ob 1
      have Oc2 : World.cell? w4 ⟨w3.heap.size, 2, none⟩ = some (.int .u64 x1) := Ob.get 2 rfl
      have Of2 := Blk.frozen Ob 2
      have On := Blk.lt Ob
      have B4 : Below w.heap.size w w4 := by first | with_reducible exact below_next B3 hb4 | exact below_step B3 (by go_grown) hb4
      clear hb4 B3
      obtain ⟨P0, P1, P2, P3⟩ := Blk.puts3 Zb (.int .u64 0) (.int .u64 0) (.int .u64 0)
      go_wp2_with fail
      refine bodyPost_ret (by simp [results, Try.results28, go_sem, P0, P1, P2]; try rfl) rfl ?_
      exact ⟨rfl, below_puts3 B4 (by omega) _ _ _⟩
  · rw [o1, o2] at pI pN
    clear o1 o2
    have hne2 : (x0 != x1) = true := by simp [bne, hne]
    rcases Bool.eq_false_or_eq_true (mayB x0 L x1) with hq | hq
    · obtain ⟨e1, e2, e3, e4⟩ := pI hq
      rw [e1, e2, e3, e4]
      have M2 := Lib.hid (fun w => refmay_val x0 L x1 true w wL hq)
      clear pI pN e1 e2 e3 e4 hq
      go_enter Try.func28, Try.ntmps28
      go_wp2_with fail
      with_reducible refine (MA.out _).mono ?_
      rintro e w1 ⟨rfl, hb1⟩
      have Cm : Blk w1 (w.heap.size) 24 #[.int .u64 F, .int .u64 L, .int .u64 R] := Blk.next (by repeat (first | (refine Blk.new_at ?_; simp only [World.size_alloc]; done) | (with_reducible refine Blk.alloc ?_ _) | (with_reducible refine Blk.drewN ?_ _))) hb1
      have Cb := Cm
      clear Cm
      have Cc0 : World.cell? w1 ⟨w.heap.size, 0, none⟩ = some (.int .u64 F) := Cb.get 0 rfl
      have Cf0 := Blk.frozen Cb 0
      have Cc1 : World.cell? w1 ⟨w.heap.size, 1, none⟩ = some (.int .u64 L) := Cb.get 1 rfl
      have Cf1 := Blk.frozen Cb 1
      have Cc2 : World.cell? w1 ⟨w.heap.size, 2, none⟩ = some (.int .u64 R) := Cb.get 2 rfl
      have Cf2 := Blk.frozen Cb 2
      have Cn := Blk.lt Cb
      have Zm : Blk w1 (w.heap.size + 1) 24 #[.int .u64 0, .int .u64 0, .int .u64 0] := Blk.next (by repeat (first | (refine Blk.new_at ?_; simp only [World.size_alloc]; done) | (with_reducible refine Blk.alloc ?_ _) | (with_reducible refine Blk.drewN ?_ _))) hb1
      have Zb := Zm
      clear Zm
      have Zc0 : World.cell? w1 ⟨w.heap.size + 1, 0, none⟩ = some (.int .u64 0) := Zb.get 0 rfl
      have Zf0 := Blk.frozen Zb 0
      have Zc1 : World.cell? w1 ⟨w.heap.size + 1, 1, none⟩ = some (.int .u64 0) := Zb.get 1 rfl
      have Zf1 := Blk.frozen Zb 1
      have Zc2 : World.cell? w1 ⟨w.heap.size + 1, 2, none⟩ = some (.int .u64 0) := Zb.get 2 rfl
      have Zf2 := Blk.frozen Zb 2
      have Zn := Blk.lt Zb
      have B1 : Below w.heap.size w w1 := by first | with_reducible exact hb1 | exact Below.trans (by go_grown) (hb1.mono (by simp only [World.size_alloc]; omega))
      clear hb1
      go_wp2_with fail
      with_reducible refine (D0.out _).mono ?_
      rintro e w2 ⟨rfl, hb2⟩
      have Cm : Blk w2 (w.heap.size) 24 #[.int .u64 F, .int .u64 L, .int .u64 R] := Blk.next (by repeat (first | (with_reducible exact Cb) | (refine Blk.new_at ?_; simp only [World.size_alloc]; done) | (with_reducible refine Blk.alloc ?_ _) | (with_reducible refine Blk.drewN ?_ _))) hb2
      clear Cn Cb Cc0 Cf0 Cc1 Cf1 Cc2 Cf2
      have Cb := Cm
      clear Cm
      have Cc0 : World.cell? w2 ⟨w.heap.size, 0, none⟩ = some (.int .u64 F) := Cb.get 0 rfl
      have Cf0 := Blk.frozen Cb 0
      have Cc1 : World.cell? w2 ⟨w.heap.size, 1, none⟩ = some (.int .u64 L) := Cb.get 1 rfl
      have Cf1 := Blk.frozen Cb 1
      have Cc2 : World.cell? w2 ⟨w.heap.size, 2, none⟩ = some (.int .u64 R) := Cb.get 2 rfl
      have Cf2 := Blk.frozen Cb 2
      have Cn := Blk.lt Cb
      have Zm : Blk w2 (w.heap.size + 1) 24 #[.int .u64 0, .int .u64 0, .int .u64 0] := Blk.next (by repeat (first | (with_reducible exact Zb) | (refine Blk.new_at ?_; simp only [World.size_alloc]; done) | (with_reducible refine Blk.alloc ?_ _) | (with_reducible refine Blk.drewN ?_ _))) hb2
      clear Zn Zb Zc0 Zf0 Zc1 Zf1 Zc2 Zf2
      have Zb := Zm
      clear Zm
      have Zc0 : World.cell? w2 ⟨w.heap.size + 1, 0, none⟩ = some (.int .u64 0) := Zb.get 0 rfl
      have Zf0 := Blk.frozen Zb 0
      have Zc1 : World.cell? w2 ⟨w.heap.size + 1, 1, none⟩ = some (.int .u64 0) := Zb.get 1 rfl
      have Zf1 := Blk.frozen Zb 1
      have Zc2 : World.cell? w2 ⟨w.heap.size + 1, 2, none⟩ = some (.int .u64 0) := Zb.get 2 rfl
      have Zf2 := Blk.frozen Zb 2
      have Zn := Blk.lt Zb
      have B2 : Below w.heap.size w w2 := by first | with_reducible exact below_next B1 hb2 | exact below_step B1 (by go_grown) hb2
      clear hb2 B1
      go_wp2_with fail
      with_reducible refine (D1.out _).mono ?_
      rintro e w3 ⟨rfl, hb3⟩
      have Cm : Blk w3 (w.heap.size) 24 #[.int .u64 F, .int .u64 L, .int .u64 R] := Blk.next (by repeat (first | (with_reducible exact Cb) | (refine Blk.new_at ?_; simp only [World.size_alloc]; done) | (with_reducible refine Blk.alloc ?_ _) | (with_reducible refine Blk.drewN ?_ _))) hb3
      clear Cn Cb Cc0 Cf0 Cc1 Cf1 Cc2 Cf2
      have Cb := Cm
      clear Cm
      have Cc0 : World.cell? w3 ⟨w.heap.size, 0, none⟩ = some (.int .u64 F) := Cb.get 0 rfl
      have Cf0 := Blk.frozen Cb 0
      have Cc1 : World.cell? w3 ⟨w.heap.size, 1, none⟩ = some (.int .u64 L) := Cb.get 1 rfl
      have Cf1 := Blk.frozen Cb 1
      have Cc2 : World.cell? w3 ⟨w.heap.size, 2, none⟩ = some (.int .u64 R) := Cb.get 2 rfl
      have Cf2 := Blk.frozen Cb 2
      have Cn := Blk.lt Cb
      have Zm : Blk w3 (w.heap.size + 1) 24 #[.int .u64 0, .int .u64 0, .int .u64 0] := Blk.next (by repeat (first | (with_reducible exact Zb) | (refine Blk.new_at ?_; simp only [World.size_alloc]; done) | (with_reducible refine Blk.alloc ?_ _) | (with_reducible refine Blk.drewN ?_ _))) hb3
      clear Zn Zb Zc0 Zf0 Zc1 Zf1 Zc2 Zf2
      have Zb := Zm
      clear Zm
      have Zc0 : World.cell? w3 ⟨w.heap.size + 1, 0, none⟩ = some (.int .u64 0) := Zb.get 0 rfl
      have Zf0 := Blk.frozen Zb 0
      have Zc1 : World.cell? w3 ⟨w.heap.size + 1, 1, none⟩ = some (.int .u64 0) := Zb.get 1 rfl
      have Zf1 := Blk.frozen Zb 1
      have Zc2 : World.cell? w3 ⟨w.heap.size + 1, 2, none⟩ = some (.int .u64 0) := Zb.get 2 rfl
      have Zf2 := Blk.frozen Zb 2
      have Zn := Blk.lt Zb
      have B3 : Below w.heap.size w w3 := by first | with_reducible exact below_next B2 hb3 | exact below_step B2 (by go_grown) hb3
      clear hb3 B2
      go_wp2_with fail
      with_reducible refine (M2.out _).mono ?_
      rintro e w4 ⟨rfl, hb4⟩
      have Cm : Blk w4 (w.heap.size) 24 #[.int .u64 F, .int .u64 L, .int .u64 R] := Blk.next (by repeat (first | (with_reducible exact Cb) | (refine Blk.new_at ?_; simp only [World.size_alloc]; done) | (with_reducible refine Blk.alloc ?_ _) | (with_reducible refine Blk.drewN ?_ _))) hb4
      clear Cn Cb Cc0 Cf0 Cc1 Cf1 Cc2 Cf2
      have Cb := Cm
      clear Cm
      have Cc0 : World.cell? w4 ⟨w.heap.size, 0, none⟩ = some (.int .u64 F) := Cb.get 0 rfl
      have Cf0 := Blk.frozen Cb 0
      have Cc1 : World.cell? w4 ⟨w.heap.size, 1, none⟩ = some (.int .u64 L) := Cb.get 1 rfl
      have Cf1 := Blk.frozen Cb 1
      have Cc2 : World.cell? w4 ⟨w.heap.size, 2, none⟩ = some (.int .u64 R) := Cb.get 2 rfl
      have Cf2 := Blk.frozen Cb 2
      have Cn := Blk.lt Cb
      have Zm : Blk w4 (w.heap.size + 1) 24 #[.int .u64 0, .int .u64 0, .int .u64 0] := Blk.next (by repeat (first | (with_reducible exact Zb) | (refine Blk.new_at ?_; simp only [World.size_alloc]; done) | (with_reducible refine Blk.alloc ?_ _) | (with_reducible refine Blk.drewN ?_ _))) hb4
      clear Zn Zb Zc0 Zf0 Zc1 Zf1 Zc2 Zf2
      have Zb := Zm
      clear Zm
      have Zc0 : World.cell? w4 ⟨w.heap.size + 1, 0, none⟩ = some (.int .u64 0) := Zb.get 0 rfl
      have Zf0 := Blk.frozen Zb 0
      have Zc1 : World.cell? w4 ⟨w.heap.size + 1, 1, none⟩ = some (.int .u64 0) := Zb.get 1 rfl
      have Zf1 := Blk.frozen Zb 1
      have Zc2 : World.cell? w4 ⟨w.heap.size + 1, 2, none⟩ = some (.int .u64 0) := Zb.get 2 rfl
      have Zf2 := Blk.frozen Zb 2
      have Zn := Blk.lt Zb
      have Om : Blk w4 (w3.heap.size) 24 #[.int .u64 x0, .int .u64 L, .int .u64 x1] := Blk.next (by repeat (first | (refine Blk.new_at ?_; simp only [World.size_alloc]; done) | (with_reducible refine Blk.alloc ?_ _) | (with_reducible refine Blk.drewN ?_ _))) hb4
      have Ob := Om
      clear Om
      have Oc0 : World.cell? w4 ⟨w3.heap.size, 0, none⟩ = some (.int .u64 x0) := Ob.get 0 rfl
      have Of0 := Blk.frozen Ob 0
      have Oc1 : World.cell? w4 ⟨w3.heap.size, 1, none⟩ = some (.int .u64 L) := Ob.get 1 rfl
      have Of1 := Blk.frozen Ob 1
      have Oc2 : World.cell? w4 ⟨w3.heap.size, 2, none⟩ = some (.int .u64 x1) := Ob.get 2 rfl
      have Of2 := Blk.frozen Ob 2
      have On := Blk.lt Ob
      have B4 : Below w.heap.size w w4 := by first | with_reducible exact below_next B3 hb4 | exact below_step B3 (by go_grown) hb4
      clear hb4 B3
      obtain ⟨P0, P1, P2, P3⟩ := Blk.puts3 Zb (.int .u64 x0) (.int .u64 L) (.int .u64 x1)
      go_wp2_with fail
      refine bodyPost_ret (by simp [results, Try.results28, go_sem, P0, P1, P2]; try rfl) rfl ?_
      exact ⟨rfl, below_puts3 B4 (by omega) _ _ _⟩
    · obtain ⟨e1, e2, e3, e4⟩ := pN hq
      rw [e1, e2, e3, e4]
      have M2 := Lib.hid (fun w => refmay_val x0 L x1 false w wL hq)
      clear pI pN e1 e2 e3 e4 hq
      go_enter Try.func28, Try.ntmps28
      go_wp2_with fail
      with_reducible refine (MA.out _).mono ?_
      rintro e w1 ⟨rfl, hb1⟩
      have Cm : Blk w1 (w.heap.size) 24 #[.int .u64 F, .int .u64 L, .int .u64 R] := Blk.next (by repeat (first | (refine Blk.new_at ?_; simp only [World.size_alloc]; done) | (with_reducible refine Blk.alloc ?_ _) | (with_reducible refine Blk.drewN ?_ _))) hb1
      have Cb := Cm
      clear Cm
      have Cc0 : World.cell? w1 ⟨w.heap.size, 0, none⟩ = some (.int .u64 F) := Cb.get 0 rfl
      have Cf0 := Blk.frozen Cb 0
      have Cc1 : World.cell? w1 ⟨w.heap.size, 1, none⟩ = some (.int .u64 L) := Cb.get 1 rfl
      have Cf1 := Blk.frozen Cb 1
      have Cc2 : World.cell? w1 ⟨w.heap.size, 2, none⟩ = some (.int .u64 R) := Cb.get 2 rfl
      have Cf2 := Blk.frozen Cb 2
      have Cn := Blk.lt Cb
      have Zm : Blk w1 (w.heap.size + 1) 24 #[.int .u64 0, .int .u64 0, .int .u64 0] := Blk.next (by repeat (first | (refine Blk.new_at ?_; simp only [World.size_alloc]; done) | (with_reducible refine Blk.alloc ?_ _) | (with_reducible refine Blk.drewN ?_ _))) hb1
      have Zb := Zm
      clear Zm
      have Zc0 : World.cell? w1 ⟨w.heap.size + 1, 0, none⟩ = some (.int .u64 0) := Zb.get 0 rfl
      have Zf0 := Blk.frozen Zb 0
      have Zc1 : World.cell? w1 ⟨w.heap.size + 1, 1, none⟩ = some (.int .u64 0) := Zb.get 1 rfl
      have Zf1 := Blk.frozen Zb 1
      have Zc2 : World.cell? w1 ⟨w.heap.size + 1, 2, none⟩ = some (.int .u64 0) := Zb.get 2 rfl
      have Zf2 := Blk.frozen Zb 2
      have Zn := Blk.lt Zb
      have B1 : Below w.heap.size w w1 := by first | with_reducible exact hb1 | exact Below.trans (by go_grown) (hb1.mono (by simp only [World.size_alloc]; omega))
      clear hb1
      go_wp2_with fail
      with_reducible refine (D0.out _).mono ?_
      rintro e w2 ⟨rfl, hb2⟩
      have Cm : Blk w2 (w.heap.size) 24 #[.int .u64 F, .int .u64 L, .int .u64 R] := Blk.next (by repeat (first | (with_reducible exact Cb) | (refine Blk.new_at ?_; simp only [World.size_alloc]; done) | (with_reducible refine Blk.alloc ?_ _) | (with_reducible refine Blk.drewN ?_ _))) hb2
      clear Cn Cb Cc0 Cf0 Cc1 Cf1 Cc2 Cf2
      have Cb := Cm
      clear Cm
      have Cc0 : World.cell? w2 ⟨w.heap.size, 0, none⟩ = some (.int .u64 F) := Cb.get 0 rfl
      have Cf0 := Blk.frozen Cb 0
      have Cc1 : World.cell? w2 ⟨w.heap.size, 1, none⟩ = some (.int .u64 L) := Cb.get 1 rfl
      have Cf1 := Blk.frozen Cb 1
      have Cc2 : World.cell? w2 ⟨w.heap.size, 2, none⟩ = some (.int .u64 R) := Cb.get 2 rfl
      have Cf2 := Blk.frozen Cb 2
      have Cn := Blk.lt Cb
      have Zm : Blk w2 (w.heap.size + 1) 24 #[.int .u64 0, .int .u64 0, .int .u64 0] := Blk.next (by repeat (first | (with_reducible exact Zb) | (refine Blk.new_at ?_; simp only [World.size_alloc]; done) | (with_reducible refine Blk.alloc ?_ _) | (with_reducible refine Blk.drewN ?_ _))) hb2
      clear Zn Zb Zc0 Zf0 Zc1 Zf1 Zc2 Zf2
      have Zb := Zm
      clear Zm
      have Zc0 : World.cell? w2 ⟨w.heap.size + 1, 0, none⟩ = some (.int .u64 0) := Zb.get 0 rfl
      have Zf0 := Blk.frozen Zb 0
      have Zc1 : World.cell? w2 ⟨w.heap.size + 1, 1, none⟩ = some (.int .u64 0) := Zb.get 1 rfl
      have Zf1 := Blk.frozen Zb 1
      have Zc2 : World.cell? w2 ⟨w.heap.size + 1, 2, none⟩ = some (.int .u64 0) := Zb.get 2 rfl
      have Zf2 := Blk.frozen Zb 2
      have Zn := Blk.lt Zb
      have B2 : Below w.heap.size w w2 := by first | with_reducible exact below_next B1 hb2 | exact below_step B1 (by go_grown) hb2
      clear hb2 B1
      go_wp2_with fail
      with_reducible refine (D1.out _).mono ?_
      rintro e w3 ⟨rfl, hb3⟩
      have Cm : Blk w3 (w.heap.size) 24 #[.int .u64 F, .int .u64 L, .int .u64 R] := Blk.next (by repeat (first | (with_reducible exact Cb) | (refine Blk.new_at ?_; simp only [World.size_alloc]; done) | (with_reducible refine Blk.alloc ?_ _) | (with_reducible refine Blk.drewN ?_ _))) hb3
      clear Cn Cb Cc0 Cf0 Cc1 Cf1 Cc2 Cf2
      have Cb := Cm
      clear Cm
      have Cc0 : World.cell? w3 ⟨w.heap.size, 0, none⟩ = some (.int .u64 F) := Cb.get 0 rfl
      have Cf0 := Blk.frozen Cb 0
      have Cc1 : World.cell? w3 ⟨w.heap.size, 1, none⟩ = some (.int .u64 L) := Cb.get 1 rfl
      have Cf1 := Blk.frozen Cb 1
      have Cc2 : World.cell? w3 ⟨w.heap.size, 2, none⟩ = some (.int .u64 R) := Cb.get 2 rfl
      have Cf2 := Blk.frozen Cb 2
      have Cn := Blk.lt Cb
      have Zm : Blk w3 (w.heap.size + 1) 24 #[.int .u64 0, .int .u64 0, .int .u64 0] := Blk.next (by repeat (first | (with_reducible exact Zb) | (refine Blk.new_at ?_; simp only [World.size_alloc]; done) | (with_reducible refine Blk.alloc ?_ _) | (with_reducible refine Blk.drewN ?_ _))) hb3
      clear Zn Zb Zc0 Zf0 Zc1 Zf1 Zc2 Zf2
      have Zb := Zm
      clear Zm
      have Zc0 : World.cell? w3 ⟨w.heap.size + 1, 0, none⟩ = some (.int .u64 0) := Zb.get 0 rfl
      have Zf0 := Blk.frozen Zb 0
      have Zc1 : World.cell? w3 ⟨w.heap.size + 1, 1, none⟩ = some (.int .u64 0) := Zb.get 1 rfl
      have Zf1 := Blk.frozen Zb 1
      have Zc2 : World.cell? w3 ⟨w.heap.size + 1, 2, none⟩ = some (.int .u64 0) := Zb.get 2 rfl
      have Zf2 := Blk.frozen Zb 2
      have Zn := Blk.lt Zb
      have B3 : Below w.heap.size w w3 := by first | with_reducible exact below_next B2 hb3 | exact below_step B2 (by go_grown) hb3
      clear hb3 B2
      go_wp2_with fail
      with_reducible refine (M2.out _).mono ?_
      rintro e w4 ⟨rfl, hb4⟩
      have Cm : Blk w4 (w.heap.size) 24 #[.int .u64 F, .int .u64 L, .int .u64 R] := Blk.next (by repeat (first | (with_reducible exact Cb) | (refine Blk.new_at ?_; simp only [World.size_alloc]; done) | (with_reducible refine Blk.alloc ?_ _) | (with_reducible refine Blk.drewN ?_ _))) hb4
      clear Cn Cb Cc0 Cf0 Cc1 Cf1 Cc2 Cf2
      have Cb := Cm
      clear Cm
      have Cc0 : World.cell? w4 ⟨w.heap.size, 0, none⟩ = some (.int .u64 F) := Cb.get 0 rfl
      have Cf0 := Blk.frozen Cb 0
      have Cc1 : World.cell? w4 ⟨w.heap.size, 1, none⟩ = some (.int .u64 L) := Cb.get 1 rfl
      have Cf1 := Blk.frozen Cb 1
      have Cc2 : World.cell? w4 ⟨w.heap.size, 2, none⟩ = some (.int .u64 R) := Cb.get 2 rfl
      have Cf2 := Blk.frozen Cb 2
      have Cn := Blk.lt Cb
      have Zm : Blk w4 (w.heap.size + 1) 24 #[.int .u64 0, .int .u64 0, .int .u64 0] := Blk.next (by repeat (first | (with_reducible exact Zb) | (refine Blk.new_at ?_; simp only [World.size_alloc]; done) | (with_reducible refine Blk.alloc ?_ _) | (with_reducible refine Blk.drewN ?_ _))) hb4
      clear Zn Zb Zc0 Zf0 Zc1 Zf1 Zc2 Zf2
      have Zb := Zm
      clear Zm
      have Zc0 : World.cell? w4 ⟨w.heap.size + 1, 0, none⟩ = some (.int .u64 0) := Zb.get 0 rfl
      have Zf0 := Blk.frozen Zb 0
      have Zc1 : World.cell? w4 ⟨w.heap.size + 1, 1, none⟩ = some (.int .u64 0) := Zb.get 1 rfl
      have Zf1 := Blk.frozen Zb 1
      have Zc2 : World.cell? w4 ⟨w.heap.size + 1, 2, none⟩ = some (.int .u64 0) := Zb.get 2 rfl
      have Zf2 := Blk.frozen Zb 2
      have Zn := Blk.lt Zb
      have Om : Blk w4 (w3.heap.size) 24 #[.int .u64 x0, .int .u64 L, .int .u64 x1] := Blk.next (by repeat (first | (refine Blk.new_at ?_; simp only [World.size_alloc]; done) | (with_reducible refine Blk.alloc ?_ _) | (with_reducible refine Blk.drewN ?_ _))) hb4
      have Ob := Om
      clear Om
      have Oc0 : World.cell? w4 ⟨w3.heap.size, 0, none⟩ = some (.int .u64 x0) := Ob.get 0 rfl
      have Of0 := Blk.frozen Ob 0
      have Oc1 : World.cell? w4 ⟨w3.heap.size, 1, none⟩ = some (.int .u64 L) := Ob.get 1 rfl
      have Of1 := Blk.frozen Ob 1
      have Oc2 : World.cell? w4 ⟨w3.heap.size, 2, none⟩ = some (.int .u64 x1) := Ob.get 2 rfl
      have Of2 := Blk.frozen Ob 2
      have On := Blk.lt Ob
      have B4 : Below w.heap.size w w4 := by first | with_reducible exact below_next B3 hb4 | exact below_step B3 (by go_grown) hb4
      clear hb4 B3
      obtain ⟨P0, P1, P2, P3⟩ := Blk.puts3 Zb (.int .u64 0) (.int .u64 0) (.int .u64 0)
      go_wp2_with fail
      refine bodyPost_ret (by simp [results, Try.results28, go_sem, P0, P1, P2]; try rfl) rfl ?_
      exact ⟨rfl, below_puts3 B4 (by omega) _ _ _⟩
theorem refscale_val (F L R a b x y z e : Int) (w : World) (wF : Word F) (wL : Word L) (wR : Word R) (wa : Word a) (wb : Word b) (hx : partF F L R a b = x) (hy : partL F L R a b = y) (hz : partR F L R a b = z) (he : partE F L R a b = e) : Calls Try.prog 28 #[.agg #[.int .u64 F, .int .u64 L, .int .u64 R], .int .u64 a, .int .u64 b] w fun q w' =>
    q = .returned (.tuple #[.agg #[.int .u64 x, .int .u64 y, .int .u64 z], .int .i64 e]) ∧ Below w.heap.size w w' := by
  rw [← hx, ← hy, ← hz, ← he]; exact refscale_any F L R a b w wF wL wR wa wb

end Go.Proofs.Ytjbajongjdbplaa
