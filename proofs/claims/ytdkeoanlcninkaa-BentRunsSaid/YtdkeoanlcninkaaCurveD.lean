/-
  What May, None, Bent, Straight, Burst of a curve compute; contracts at named values.
-/
import Derived.Test.YtdkeoanlcninkaaCurveC
namespace Go.Proofs.Ytdkeoanlcninkaa
set_option linter.unusedVariables false
set_option linter.unusedSimpArgs false
open Go.RowKit Go.Shelf

theorem may_any (F L R : Int) (w : World) : Calls Try.prog 11 #[.agg #[.int .u64 F, .int .u64 L, .int .u64 R]] w fun e w' => e = .returned (.bool (mayB F L R)) ∧ Below w.heap.size w w' := by
  unfold mayB
  by_cases h1 : F > 1048576
  · rw [if_pos (.inl h1)]
    go_enter Try.func11, Try.ntmps11
    go_wp2_with fail
    go_ret
    exact ⟨rfl, by go_grown⟩
  by_cases h2 : R > 1048576
  · rw [if_pos (.inr (.inl h2))]
    have h1' : F ≤ 1048576 := by omega
    go_enter Try.func11, Try.ntmps11
    go_wp2_with fail
    go_ret
    exact ⟨rfl, by go_grown⟩
  by_cases h3 : L > 1099511627776
  · rw [if_pos (.inr (.inr h3))]
    have h1' : F ≤ 1048576 := by omega
    have h2' : R ≤ 1048576 := by omega
    go_enter Try.func11, Try.ntmps11
    go_wp2_with fail
    go_ret
    exact ⟨rfl, by go_grown⟩
  rw [if_neg (by omega)]
  have h1' : F ≤ 1048576 := by omega
  have h2' : R ≤ 1048576 := by omega
  have h3' : L ≤ 1099511627776 := by omega
  by_cases h4 : L = 0
  · rw [if_pos h4]
    subst h4
    go_enter Try.func11, Try.ntmps11
    go_wp2_with fail
    go_ret
    exact ⟨rfl, by go_grown⟩
  · rw [if_neg h4]
    have h4' : (L == 0) = false := beq_eq_false_iff_ne.2 h4
    clear h4
    go_enter Try.func11, Try.ntmps11
    go_wp2_with fail
    go_ret
    exact ⟨rfl, by go_grown⟩
theorem may_val (F L R : Int) (b : Bool) (w : World) (wF : Word F) (wL : Word L) (wR : Word R) (h : mayB F L R = b) : Calls Try.prog 11 #[.agg #[.int .u64 F, .int .u64 L, .int .u64 R]] w fun e w' => e = .returned (.bool b) ∧ Below w.heap.size w w' := by
  rw [← h]; exact may_any F L R w

theorem bent_any (F L R : Int) (w : World) : Calls Try.prog 28 #[.agg #[.int .u64 F, .int .u64 L, .int .u64 R]] w fun e w' => e = .returned (.bool (decide (R < F))) ∧ Below w.heap.size w w' := by
  go_enter Try.func28, Try.ntmps28
  go_wp2_with fail
  go_ret
  exact ⟨rfl, by go_grown⟩
theorem bent_val (F L R : Int) (b : Bool) (w : World) (h : decide (R < F) = b) : Calls Try.prog 28 #[.agg #[.int .u64 F, .int .u64 L, .int .u64 R]] w fun e w' => e = .returned (.bool b) ∧ Below w.heap.size w w' := by
  rw [← h]; exact bent_any F L R w
theorem straight_any (F L R : Int) (w : World) : Calls Try.prog 31 #[.agg #[.int .u64 F, .int .u64 L, .int .u64 R]] w fun e w' => e = .returned (.bool (L == 0)) ∧ Below w.heap.size w w' := by
  go_enter Try.func31, Try.ntmps31
  go_wp2_with fail
  go_ret
  exact ⟨rfl, by go_grown⟩
def noneB (F L R : Int) : Bool := F == 0 && (L == 0 && R == 0)
theorem none_any (F L R : Int) (w : World) : Calls Try.prog 30 #[.agg #[.int .u64 F, .int .u64 L, .int .u64 R]] w fun e w' => e = .returned (.bool (noneB F L R)) ∧ Below w.heap.size w w' := by
  unfold noneB
  go_enter Try.func30, Try.ntmps30
  go_wp2_with fail
  all_goals go_ret
  all_goals exact ⟨by simp [*], by go_grown⟩

/-- What a bent one begins above its second piece. -/
def burstN (F L R : Int) : Int := if R < F then stopN ((F - R) * L) else 0
theorem burst_any (F L R : Int) (w : World) (wF : Word F) (wL : Word L) (wR : Word R) : Calls Try.prog 33 #[.agg #[.int .u64 F, .int .u64 L, .int .u64 R]] w fun e w' => e = .returned (.tuple #[.int .u64 (burstN F L R), .bool (decide (R < F))]) ∧ Below w.heap.size w w' := by
  unfold burstN
  by_cases h : R < F
  · rw [if_pos h, decide_eq_true h]
    have BE := Lib.hid (fun w => bent_val F L R true w (decide_eq_true h))
    have w0 := wF.2
    have w1 := wR.1
    have hw : IntKind.u64.wrap (F - R) = F - R := by rw [IntKind.wrap_u64]; omega
    have TI := Lib.hid (fun w => times_any (F - R) L w ⟨by omega, by omega⟩ wL)
    obtain ⟨v, hv⟩ : ∃ v, stopN ((F - R) * L) = v := ⟨_, rfl⟩
    rw [hv] at TI ⊢
    clear hv
    obtain ⟨d, hd⟩ : ∃ d, F - R = d := ⟨_, rfl⟩
    rw [hd] at TI hw
    clear h
    go_enter Try.func33, Try.ntmps33
    go_wp2_with fail
    with_reducible refine (BE.out _).mono ?_
    rintro e w1 ⟨rfl, hb1⟩
    have Pm : Blk w1 (w.heap.size) 24 #[.int .u64 F, .int .u64 L, .int .u64 R] := Blk.next (by repeat (first | (refine Blk.new_at ?_; simp only [World.size_alloc]; done) | (with_reducible refine Blk.alloc ?_ _) | (with_reducible refine Blk.drewN ?_ _))) hb1
    have Pb := Pm
    clear Pm
    have Pc0 : World.cell? w1 ⟨w.heap.size, 0, none⟩ = some (.int .u64 F) := Pb.get 0 rfl
    have Pf0 := Blk.frozen Pb 0
    have Pc1 : World.cell? w1 ⟨w.heap.size, 1, none⟩ = some (.int .u64 L) := Pb.get 1 rfl
    have Pf1 := Blk.frozen Pb 1
    have Pc2 : World.cell? w1 ⟨w.heap.size, 2, none⟩ = some (.int .u64 R) := Pb.get 2 rfl
    have Pf2 := Blk.frozen Pb 2
    have Pn := Blk.lt Pb
    have B1 : Below w.heap.size w w1 := by first | with_reducible exact hb1 | exact Below.trans (by go_grown) (hb1.mono (by simp only [World.size_alloc]; omega))
    clear hb1
    go_wp2_with fail
    with_reducible refine (TI.out _).mono ?_
    rintro e w2 ⟨rfl, hb2⟩
    have Pm : Blk w2 (w.heap.size) 24 #[.int .u64 F, .int .u64 L, .int .u64 R] := Blk.next (by repeat (first | (with_reducible exact Pb) | (refine Blk.new_at ?_; simp only [World.size_alloc]; done) | (with_reducible refine Blk.alloc ?_ _) | (with_reducible refine Blk.drewN ?_ _))) hb2
    clear Pn Pb Pc0 Pf0 Pc1 Pf1 Pc2 Pf2
    have Pb := Pm
    clear Pm
    have Pc0 : World.cell? w2 ⟨w.heap.size, 0, none⟩ = some (.int .u64 F) := Pb.get 0 rfl
    have Pf0 := Blk.frozen Pb 0
    have Pc1 : World.cell? w2 ⟨w.heap.size, 1, none⟩ = some (.int .u64 L) := Pb.get 1 rfl
    have Pf1 := Blk.frozen Pb 1
    have Pc2 : World.cell? w2 ⟨w.heap.size, 2, none⟩ = some (.int .u64 R) := Pb.get 2 rfl
    have Pf2 := Blk.frozen Pb 2
    have Pn := Blk.lt Pb
    have B2 : Below w.heap.size w w2 := by first | with_reducible exact below_next B1 hb2 | exact below_step B1 (by go_grown) hb2
    clear hb2 B1
    go_wp2_with fail
    go_ret2
    exact ⟨by simp, B2⟩
  · rw [if_neg h, decide_eq_false h]
    have BE := Lib.hid (fun w => bent_val F L R false w (decide_eq_false h))
    go_enter Try.func33, Try.ntmps33
    go_wp2_with fail
    with_reducible refine (BE.out _).mono ?_
    rintro e w1 ⟨rfl, hb1⟩
    have B1 : Below w.heap.size w w1 := by first | with_reducible exact hb1 | exact Below.trans (by go_grown) (hb1.mono (by simp only [World.size_alloc]; omega))
    clear hb1
    go_wp2_with fail
    go_ret2
    exact ⟨by simp, B1⟩
theorem burst_val (F L R v : Int) (b : Bool) (w : World) (wF : Word F) (wL : Word L) (wR : Word R) (hb : decide (R < F) = b) (hv : burstN F L R = v) : Calls Try.prog 33 #[.agg #[.int .u64 F, .int .u64 L, .int .u64 R]] w fun e w' => e = .returned (.tuple #[.int .u64 v, .bool b]) ∧ Below w.heap.size w w' := by
  rw [← hb, ← hv]; exact burst_any F L R w wF wL wR

theorem at_val (F L R t v : Int) (w : World) (hF : Word F) (hL : Word L) (hR : Word R) (ht : Word t) (hv : atN F L R t = v) :
    Calls Try.prog 12 #[.agg #[.int .u64 F, .int .u64 L, .int .u64 R], .int .u64 t] w fun e w' => e = .returned (.int .u64 v) ∧ Below w.heap.size w w' := by
  rw [← hv]; exact at_any F L R t w hF hL hR ht
theorem reach_val (F L R y v : Int) (w : World) (hm : May F L R) (hy : Word y) (hv : reachN F L R y = v) :
    Calls Try.prog 29 #[.agg #[.int .u64 F, .int .u64 L, .int .u64 R], .int .u64 y] w fun e w' => e = .returned (.int .u64 v) ∧ Below w.heap.size w w' := by
  rw [← hv]; exact reach_any F L R y w hm hy
theorem times_val (a b v : Int) (w : World) (ha : Word a) (hb : Word b) (hv : stopN (a * b) = v) : Calls Try.prog 27 #[.int .u64 a, .int .u64 b] w fun e w' => e = .returned (.int .u64 v) ∧ Below w.heap.size w w' := by
  rw [← hv]; exact times_any a b w ha hb
set_option maxHeartbeats 4000000 in
theorem awake03 (w : World) : Calls Try.prog 10 #[] w fun e w' => e = .returned (.bool true) ∧ Below w.heap.size w w' := by
  have m1 : May 3 10 1 := ⟨by decide, by decide, by decide, by decide, by decide, by decide, by decide, by decide⟩
  have m2 : May 2 5 0 := ⟨by decide, by decide, by decide, by decide, by decide, by decide, by decide, by decide⟩
  have a1 := Lib.hid (fun w => may_val 3 10 1 true w (by decide) (by decide) (by decide) (by decide))
  have a2 := Lib.hid (fun w => bent_val 3 10 1 true w (by decide))
  have a3 := Lib.hid (fun w => at_val 3 10 1 4 12 w (by decide) (by decide) (by decide) (by decide) (by decide))
  have a4 := Lib.hid (fun w => at_val 3 10 1 12 32 w (by decide) (by decide) (by decide) (by decide) (by decide))
  have a5 := Lib.hid (fun w => reach_val 3 10 1 12 4 w m1 (by decide) (by decide))
  have a6 := Lib.hid (fun w => reach_val 3 10 1 13 5 w m1 (by decide) (by decide))
  have a7 := Lib.hid (fun w => reach_val 3 10 1 32 12 w m1 (by decide) (by decide))
  have a8 := Lib.hid (fun w => reach_val 2 5 0 10 5 w m2 (by decide) (by decide))
  have a9 := Lib.hid (fun w => reach_val 2 5 0 11 9223372036854775808 w m2 (by decide) (by decide))
  have b1 := Lib.hid (fun w => may_val 1 0 0 false w (by decide) (by decide) (by decide) (by decide))
  have b2 := Lib.hid (fun w => may_val 2 4 2 false w (by decide) (by decide) (by decide) (by decide))
  have b3 := Lib.hid (fun w => may_val 0 0 0 true w (by decide) (by decide) (by decide) (by decide))
  have b4 := Lib.hid (fun w => none_any 0 0 0 w)
  have b5 := Lib.hid (fun w => straight_any 0 0 2 w)
  have e4 : noneB 0 0 0 = true := by decide
  have e5 : ((0 : Int) == 0) = true := by decide
  rw [e4] at b4
  rw [e5] at b5
  clear e4 e5 m1 m2
  go_enter Try.func10, Try.ntmps10
  go_wp2_with fail
  with_reducible refine (a1.out _).mono ?_
  rintro e w1 ⟨rfl, hb1⟩
  have Cm : Blk w1 (w.heap.size) 24 #[.int .u64 3, .int .u64 10, .int .u64 1] := Blk.next (by repeat (first | (refine Blk.new_at ?_; simp only [World.size_alloc]; done) | (with_reducible refine Blk.alloc ?_ _) | (with_reducible refine Blk.drewN ?_ _))) hb1
  have Cb := Cm
  clear Cm
  have Cc0 : World.cell? w1 ⟨w.heap.size, 0, none⟩ = some (.int .u64 3) := Cb.get 0 rfl
  have Cf0 := Blk.frozen Cb 0
  have Cc1 : World.cell? w1 ⟨w.heap.size, 1, none⟩ = some (.int .u64 10) := Cb.get 1 rfl
  have Cf1 := Blk.frozen Cb 1
  have Cc2 : World.cell? w1 ⟨w.heap.size, 2, none⟩ = some (.int .u64 1) := Cb.get 2 rfl
  have Cf2 := Blk.frozen Cb 2
  have Cn := Blk.lt Cb
  have Dm : Blk w1 (w.heap.size + 1) 24 #[.int .u64 2, .int .u64 5, .int .u64 0] := Blk.next (by repeat (first | (refine Blk.new_at ?_; simp only [World.size_alloc]; done) | (with_reducible refine Blk.alloc ?_ _) | (with_reducible refine Blk.drewN ?_ _))) hb1
  have Db := Dm
  clear Dm
  have Dc0 : World.cell? w1 ⟨w.heap.size + 1, 0, none⟩ = some (.int .u64 2) := Db.get 0 rfl
  have Df0 := Blk.frozen Db 0
  have Dc1 : World.cell? w1 ⟨w.heap.size + 1, 1, none⟩ = some (.int .u64 5) := Db.get 1 rfl
  have Df1 := Blk.frozen Db 1
  have Dc2 : World.cell? w1 ⟨w.heap.size + 1, 2, none⟩ = some (.int .u64 0) := Db.get 2 rfl
  have Df2 := Blk.frozen Db 2
  have Dn := Blk.lt Db
  have B1 : Below w.heap.size w w1 := by first | with_reducible exact hb1 | exact Below.trans (by go_grown) (hb1.mono (by simp only [World.size_alloc]; omega))
  clear hb1
  go_wp2_with fail
  with_reducible refine (a2.out _).mono ?_
  rintro e w2 ⟨rfl, hb2⟩
  have Cm : Blk w2 (w.heap.size) 24 #[.int .u64 3, .int .u64 10, .int .u64 1] := Blk.next (by repeat (first | (with_reducible exact Cb) | (refine Blk.new_at ?_; simp only [World.size_alloc]; done) | (with_reducible refine Blk.alloc ?_ _) | (with_reducible refine Blk.drewN ?_ _))) hb2
  clear Cn Cb Cc0 Cf0 Cc1 Cf1 Cc2 Cf2
  have Cb := Cm
  clear Cm
  have Cc0 : World.cell? w2 ⟨w.heap.size, 0, none⟩ = some (.int .u64 3) := Cb.get 0 rfl
  have Cf0 := Blk.frozen Cb 0
  have Cc1 : World.cell? w2 ⟨w.heap.size, 1, none⟩ = some (.int .u64 10) := Cb.get 1 rfl
  have Cf1 := Blk.frozen Cb 1
  have Cc2 : World.cell? w2 ⟨w.heap.size, 2, none⟩ = some (.int .u64 1) := Cb.get 2 rfl
  have Cf2 := Blk.frozen Cb 2
  have Cn := Blk.lt Cb
  have Dm : Blk w2 (w.heap.size + 1) 24 #[.int .u64 2, .int .u64 5, .int .u64 0] := Blk.next (by repeat (first | (with_reducible exact Db) | (refine Blk.new_at ?_; simp only [World.size_alloc]; done) | (with_reducible refine Blk.alloc ?_ _) | (with_reducible refine Blk.drewN ?_ _))) hb2
  clear Dn Db Dc0 Df0 Dc1 Df1 Dc2 Df2
  have Db := Dm
  clear Dm
  have Dc0 : World.cell? w2 ⟨w.heap.size + 1, 0, none⟩ = some (.int .u64 2) := Db.get 0 rfl
  have Df0 := Blk.frozen Db 0
  have Dc1 : World.cell? w2 ⟨w.heap.size + 1, 1, none⟩ = some (.int .u64 5) := Db.get 1 rfl
  have Df1 := Blk.frozen Db 1
  have Dc2 : World.cell? w2 ⟨w.heap.size + 1, 2, none⟩ = some (.int .u64 0) := Db.get 2 rfl
  have Df2 := Blk.frozen Db 2
  have Dn := Blk.lt Db
  have B2 : Below w.heap.size w w2 := by first | with_reducible exact below_next B1 hb2 | exact below_step B1 (by go_grown) hb2
  clear hb2 B1
  go_wp2_with fail
  with_reducible refine (a3.out _).mono ?_
  rintro e w3 ⟨rfl, hb3⟩
  have Cm : Blk w3 (w.heap.size) 24 #[.int .u64 3, .int .u64 10, .int .u64 1] := Blk.next (by repeat (first | (with_reducible exact Cb) | (refine Blk.new_at ?_; simp only [World.size_alloc]; done) | (with_reducible refine Blk.alloc ?_ _) | (with_reducible refine Blk.drewN ?_ _))) hb3
  clear Cn Cb Cc0 Cf0 Cc1 Cf1 Cc2 Cf2
  have Cb := Cm
  clear Cm
  have Cc0 : World.cell? w3 ⟨w.heap.size, 0, none⟩ = some (.int .u64 3) := Cb.get 0 rfl
  have Cf0 := Blk.frozen Cb 0
  have Cc1 : World.cell? w3 ⟨w.heap.size, 1, none⟩ = some (.int .u64 10) := Cb.get 1 rfl
  have Cf1 := Blk.frozen Cb 1
  have Cc2 : World.cell? w3 ⟨w.heap.size, 2, none⟩ = some (.int .u64 1) := Cb.get 2 rfl
  have Cf2 := Blk.frozen Cb 2
  have Cn := Blk.lt Cb
  have Dm : Blk w3 (w.heap.size + 1) 24 #[.int .u64 2, .int .u64 5, .int .u64 0] := Blk.next (by repeat (first | (with_reducible exact Db) | (refine Blk.new_at ?_; simp only [World.size_alloc]; done) | (with_reducible refine Blk.alloc ?_ _) | (with_reducible refine Blk.drewN ?_ _))) hb3
  clear Dn Db Dc0 Df0 Dc1 Df1 Dc2 Df2
  have Db := Dm
  clear Dm
  have Dc0 : World.cell? w3 ⟨w.heap.size + 1, 0, none⟩ = some (.int .u64 2) := Db.get 0 rfl
  have Df0 := Blk.frozen Db 0
  have Dc1 : World.cell? w3 ⟨w.heap.size + 1, 1, none⟩ = some (.int .u64 5) := Db.get 1 rfl
  have Df1 := Blk.frozen Db 1
  have Dc2 : World.cell? w3 ⟨w.heap.size + 1, 2, none⟩ = some (.int .u64 0) := Db.get 2 rfl
  have Df2 := Blk.frozen Db 2
  have Dn := Blk.lt Db
  have B3 : Below w.heap.size w w3 := by first | with_reducible exact below_next B2 hb3 | exact below_step B2 (by go_grown) hb3
  clear hb3 B2
  go_wp2_with fail
  with_reducible refine (a4.out _).mono ?_
  rintro e w4 ⟨rfl, hb4⟩
  have Cm : Blk w4 (w.heap.size) 24 #[.int .u64 3, .int .u64 10, .int .u64 1] := Blk.next (by repeat (first | (with_reducible exact Cb) | (refine Blk.new_at ?_; simp only [World.size_alloc]; done) | (with_reducible refine Blk.alloc ?_ _) | (with_reducible refine Blk.drewN ?_ _))) hb4
  clear Cn Cb Cc0 Cf0 Cc1 Cf1 Cc2 Cf2
  have Cb := Cm
  clear Cm
  have Cc0 : World.cell? w4 ⟨w.heap.size, 0, none⟩ = some (.int .u64 3) := Cb.get 0 rfl
  have Cf0 := Blk.frozen Cb 0
  have Cc1 : World.cell? w4 ⟨w.heap.size, 1, none⟩ = some (.int .u64 10) := Cb.get 1 rfl
  have Cf1 := Blk.frozen Cb 1
  have Cc2 : World.cell? w4 ⟨w.heap.size, 2, none⟩ = some (.int .u64 1) := Cb.get 2 rfl
  have Cf2 := Blk.frozen Cb 2
  have Cn := Blk.lt Cb
  have Dm : Blk w4 (w.heap.size + 1) 24 #[.int .u64 2, .int .u64 5, .int .u64 0] := Blk.next (by repeat (first | (with_reducible exact Db) | (refine Blk.new_at ?_; simp only [World.size_alloc]; done) | (with_reducible refine Blk.alloc ?_ _) | (with_reducible refine Blk.drewN ?_ _))) hb4
  clear Dn Db Dc0 Df0 Dc1 Df1 Dc2 Df2
  have Db := Dm
  clear Dm
  have Dc0 : World.cell? w4 ⟨w.heap.size + 1, 0, none⟩ = some (.int .u64 2) := Db.get 0 rfl
  have Df0 := Blk.frozen Db 0
  have Dc1 : World.cell? w4 ⟨w.heap.size + 1, 1, none⟩ = some (.int .u64 5) := Db.get 1 rfl
  have Df1 := Blk.frozen Db 1
  have Dc2 : World.cell? w4 ⟨w.heap.size + 1, 2, none⟩ = some (.int .u64 0) := Db.get 2 rfl
  have Df2 := Blk.frozen Db 2
  have Dn := Blk.lt Db
  have B4 : Below w.heap.size w w4 := by first | with_reducible exact below_next B3 hb4 | exact below_step B3 (by go_grown) hb4
  clear hb4 B3
  go_wp2_with fail
  with_reducible refine (a5.out _).mono ?_
  rintro e w5 ⟨rfl, hb5⟩
  have Cm : Blk w5 (w.heap.size) 24 #[.int .u64 3, .int .u64 10, .int .u64 1] := Blk.next (by repeat (first | (with_reducible exact Cb) | (refine Blk.new_at ?_; simp only [World.size_alloc]; done) | (with_reducible refine Blk.alloc ?_ _) | (with_reducible refine Blk.drewN ?_ _))) hb5
  clear Cn Cb Cc0 Cf0 Cc1 Cf1 Cc2 Cf2
  have Cb := Cm
  clear Cm
  have Cc0 : World.cell? w5 ⟨w.heap.size, 0, none⟩ = some (.int .u64 3) := Cb.get 0 rfl
  have Cf0 := Blk.frozen Cb 0
  have Cc1 : World.cell? w5 ⟨w.heap.size, 1, none⟩ = some (.int .u64 10) := Cb.get 1 rfl
  have Cf1 := Blk.frozen Cb 1
  have Cc2 : World.cell? w5 ⟨w.heap.size, 2, none⟩ = some (.int .u64 1) := Cb.get 2 rfl
  have Cf2 := Blk.frozen Cb 2
  have Cn := Blk.lt Cb
  have Dm : Blk w5 (w.heap.size + 1) 24 #[.int .u64 2, .int .u64 5, .int .u64 0] := Blk.next (by repeat (first | (with_reducible exact Db) | (refine Blk.new_at ?_; simp only [World.size_alloc]; done) | (with_reducible refine Blk.alloc ?_ _) | (with_reducible refine Blk.drewN ?_ _))) hb5
  clear Dn Db Dc0 Df0 Dc1 Df1 Dc2 Df2
  have Db := Dm
  clear Dm
  have Dc0 : World.cell? w5 ⟨w.heap.size + 1, 0, none⟩ = some (.int .u64 2) := Db.get 0 rfl
  have Df0 := Blk.frozen Db 0
  have Dc1 : World.cell? w5 ⟨w.heap.size + 1, 1, none⟩ = some (.int .u64 5) := Db.get 1 rfl
  have Df1 := Blk.frozen Db 1
  have Dc2 : World.cell? w5 ⟨w.heap.size + 1, 2, none⟩ = some (.int .u64 0) := Db.get 2 rfl
  have Df2 := Blk.frozen Db 2
  have Dn := Blk.lt Db
  have B5 : Below w.heap.size w w5 := by first | with_reducible exact below_next B4 hb5 | exact below_step B4 (by go_grown) hb5
  clear hb5 B4
  go_wp2_with fail
  with_reducible refine (a6.out _).mono ?_
  rintro e w6 ⟨rfl, hb6⟩
  have Cm : Blk w6 (w.heap.size) 24 #[.int .u64 3, .int .u64 10, .int .u64 1] := Blk.next (by repeat (first | (with_reducible exact Cb) | (refine Blk.new_at ?_; simp only [World.size_alloc]; done) | (with_reducible refine Blk.alloc ?_ _) | (with_reducible refine Blk.drewN ?_ _))) hb6
  clear Cn Cb Cc0 Cf0 Cc1 Cf1 Cc2 Cf2
  have Cb := Cm
  clear Cm
  have Cc0 : World.cell? w6 ⟨w.heap.size, 0, none⟩ = some (.int .u64 3) := Cb.get 0 rfl
  have Cf0 := Blk.frozen Cb 0
  have Cc1 : World.cell? w6 ⟨w.heap.size, 1, none⟩ = some (.int .u64 10) := Cb.get 1 rfl
  have Cf1 := Blk.frozen Cb 1
  have Cc2 : World.cell? w6 ⟨w.heap.size, 2, none⟩ = some (.int .u64 1) := Cb.get 2 rfl
  have Cf2 := Blk.frozen Cb 2
  have Cn := Blk.lt Cb
  have Dm : Blk w6 (w.heap.size + 1) 24 #[.int .u64 2, .int .u64 5, .int .u64 0] := Blk.next (by repeat (first | (with_reducible exact Db) | (refine Blk.new_at ?_; simp only [World.size_alloc]; done) | (with_reducible refine Blk.alloc ?_ _) | (with_reducible refine Blk.drewN ?_ _))) hb6
  clear Dn Db Dc0 Df0 Dc1 Df1 Dc2 Df2
  have Db := Dm
  clear Dm
  have Dc0 : World.cell? w6 ⟨w.heap.size + 1, 0, none⟩ = some (.int .u64 2) := Db.get 0 rfl
  have Df0 := Blk.frozen Db 0
  have Dc1 : World.cell? w6 ⟨w.heap.size + 1, 1, none⟩ = some (.int .u64 5) := Db.get 1 rfl
  have Df1 := Blk.frozen Db 1
  have Dc2 : World.cell? w6 ⟨w.heap.size + 1, 2, none⟩ = some (.int .u64 0) := Db.get 2 rfl
  have Df2 := Blk.frozen Db 2
  have Dn := Blk.lt Db
  have B6 : Below w.heap.size w w6 := by first | with_reducible exact below_next B5 hb6 | exact below_step B5 (by go_grown) hb6
  clear hb6 B5
  go_wp2_with fail
  with_reducible refine (a7.out _).mono ?_
  rintro e w7 ⟨rfl, hb7⟩
  have Cm : Blk w7 (w.heap.size) 24 #[.int .u64 3, .int .u64 10, .int .u64 1] := Blk.next (by repeat (first | (with_reducible exact Cb) | (refine Blk.new_at ?_; simp only [World.size_alloc]; done) | (with_reducible refine Blk.alloc ?_ _) | (with_reducible refine Blk.drewN ?_ _))) hb7
  clear Cn Cb Cc0 Cf0 Cc1 Cf1 Cc2 Cf2
  have Cb := Cm
  clear Cm
  have Cc0 : World.cell? w7 ⟨w.heap.size, 0, none⟩ = some (.int .u64 3) := Cb.get 0 rfl
  have Cf0 := Blk.frozen Cb 0
  have Cc1 : World.cell? w7 ⟨w.heap.size, 1, none⟩ = some (.int .u64 10) := Cb.get 1 rfl
  have Cf1 := Blk.frozen Cb 1
  have Cc2 : World.cell? w7 ⟨w.heap.size, 2, none⟩ = some (.int .u64 1) := Cb.get 2 rfl
  have Cf2 := Blk.frozen Cb 2
  have Cn := Blk.lt Cb
  have Dm : Blk w7 (w.heap.size + 1) 24 #[.int .u64 2, .int .u64 5, .int .u64 0] := Blk.next (by repeat (first | (with_reducible exact Db) | (refine Blk.new_at ?_; simp only [World.size_alloc]; done) | (with_reducible refine Blk.alloc ?_ _) | (with_reducible refine Blk.drewN ?_ _))) hb7
  clear Dn Db Dc0 Df0 Dc1 Df1 Dc2 Df2
  have Db := Dm
  clear Dm
  have Dc0 : World.cell? w7 ⟨w.heap.size + 1, 0, none⟩ = some (.int .u64 2) := Db.get 0 rfl
  have Df0 := Blk.frozen Db 0
  have Dc1 : World.cell? w7 ⟨w.heap.size + 1, 1, none⟩ = some (.int .u64 5) := Db.get 1 rfl
  have Df1 := Blk.frozen Db 1
  have Dc2 : World.cell? w7 ⟨w.heap.size + 1, 2, none⟩ = some (.int .u64 0) := Db.get 2 rfl
  have Df2 := Blk.frozen Db 2
  have Dn := Blk.lt Db
  have B7 : Below w.heap.size w w7 := by first | with_reducible exact below_next B6 hb7 | exact below_step B6 (by go_grown) hb7
  clear hb7 B6
  go_wp2_with fail
  with_reducible refine (a8.out _).mono ?_
  rintro e w8 ⟨rfl, hb8⟩
  have Cm : Blk w8 (w.heap.size) 24 #[.int .u64 3, .int .u64 10, .int .u64 1] := Blk.next (by repeat (first | (with_reducible exact Cb) | (refine Blk.new_at ?_; simp only [World.size_alloc]; done) | (with_reducible refine Blk.alloc ?_ _) | (with_reducible refine Blk.drewN ?_ _))) hb8
  clear Cn Cb Cc0 Cf0 Cc1 Cf1 Cc2 Cf2
  have Cb := Cm
  clear Cm
  have Cc0 : World.cell? w8 ⟨w.heap.size, 0, none⟩ = some (.int .u64 3) := Cb.get 0 rfl
  have Cf0 := Blk.frozen Cb 0
  have Cc1 : World.cell? w8 ⟨w.heap.size, 1, none⟩ = some (.int .u64 10) := Cb.get 1 rfl
  have Cf1 := Blk.frozen Cb 1
  have Cc2 : World.cell? w8 ⟨w.heap.size, 2, none⟩ = some (.int .u64 1) := Cb.get 2 rfl
  have Cf2 := Blk.frozen Cb 2
  have Cn := Blk.lt Cb
  have Dm : Blk w8 (w.heap.size + 1) 24 #[.int .u64 2, .int .u64 5, .int .u64 0] := Blk.next (by repeat (first | (with_reducible exact Db) | (refine Blk.new_at ?_; simp only [World.size_alloc]; done) | (with_reducible refine Blk.alloc ?_ _) | (with_reducible refine Blk.drewN ?_ _))) hb8
  clear Dn Db Dc0 Df0 Dc1 Df1 Dc2 Df2
  have Db := Dm
  clear Dm
  have Dc0 : World.cell? w8 ⟨w.heap.size + 1, 0, none⟩ = some (.int .u64 2) := Db.get 0 rfl
  have Df0 := Blk.frozen Db 0
  have Dc1 : World.cell? w8 ⟨w.heap.size + 1, 1, none⟩ = some (.int .u64 5) := Db.get 1 rfl
  have Df1 := Blk.frozen Db 1
  have Dc2 : World.cell? w8 ⟨w.heap.size + 1, 2, none⟩ = some (.int .u64 0) := Db.get 2 rfl
  have Df2 := Blk.frozen Db 2
  have Dn := Blk.lt Db
  have B8 : Below w.heap.size w w8 := by first | with_reducible exact below_next B7 hb8 | exact below_step B7 (by go_grown) hb8
  clear hb8 B7
  go_wp2_with fail
  with_reducible refine (a9.out _).mono ?_
  rintro e w9 ⟨rfl, hb9⟩
  have Cm : Blk w9 (w.heap.size) 24 #[.int .u64 3, .int .u64 10, .int .u64 1] := Blk.next (by repeat (first | (with_reducible exact Cb) | (refine Blk.new_at ?_; simp only [World.size_alloc]; done) | (with_reducible refine Blk.alloc ?_ _) | (with_reducible refine Blk.drewN ?_ _))) hb9
  clear Cn Cb Cc0 Cf0 Cc1 Cf1 Cc2 Cf2
  have Cb := Cm
  clear Cm
  have Cc0 : World.cell? w9 ⟨w.heap.size, 0, none⟩ = some (.int .u64 3) := Cb.get 0 rfl
  have Cf0 := Blk.frozen Cb 0
  have Cc1 : World.cell? w9 ⟨w.heap.size, 1, none⟩ = some (.int .u64 10) := Cb.get 1 rfl
  have Cf1 := Blk.frozen Cb 1
  have Cc2 : World.cell? w9 ⟨w.heap.size, 2, none⟩ = some (.int .u64 1) := Cb.get 2 rfl
  have Cf2 := Blk.frozen Cb 2
  have Cn := Blk.lt Cb
  have Dm : Blk w9 (w.heap.size + 1) 24 #[.int .u64 2, .int .u64 5, .int .u64 0] := Blk.next (by repeat (first | (with_reducible exact Db) | (refine Blk.new_at ?_; simp only [World.size_alloc]; done) | (with_reducible refine Blk.alloc ?_ _) | (with_reducible refine Blk.drewN ?_ _))) hb9
  clear Dn Db Dc0 Df0 Dc1 Df1 Dc2 Df2
  have Db := Dm
  clear Dm
  have Dc0 : World.cell? w9 ⟨w.heap.size + 1, 0, none⟩ = some (.int .u64 2) := Db.get 0 rfl
  have Df0 := Blk.frozen Db 0
  have Dc1 : World.cell? w9 ⟨w.heap.size + 1, 1, none⟩ = some (.int .u64 5) := Db.get 1 rfl
  have Df1 := Blk.frozen Db 1
  have Dc2 : World.cell? w9 ⟨w.heap.size + 1, 2, none⟩ = some (.int .u64 0) := Db.get 2 rfl
  have Df2 := Blk.frozen Db 2
  have Dn := Blk.lt Db
  have B9 : Below w.heap.size w w9 := by first | with_reducible exact below_next B8 hb9 | exact below_step B8 (by go_grown) hb9
  clear hb9 B8
  go_wp2_with fail
  with_reducible refine (b1.out _).mono ?_
  rintro e w10 ⟨rfl, hb10⟩
  have Cm : Blk w10 (w.heap.size) 24 #[.int .u64 3, .int .u64 10, .int .u64 1] := Blk.next (by repeat (first | (with_reducible exact Cb) | (refine Blk.new_at ?_; simp only [World.size_alloc]; done) | (with_reducible refine Blk.alloc ?_ _) | (with_reducible refine Blk.drewN ?_ _))) hb10
  clear Cn Cb Cc0 Cf0 Cc1 Cf1 Cc2 Cf2
  have Cb := Cm
  clear Cm
  have Cc0 : World.cell? w10 ⟨w.heap.size, 0, none⟩ = some (.int .u64 3) := Cb.get 0 rfl
  have Cf0 := Blk.frozen Cb 0
  have Cc1 : World.cell? w10 ⟨w.heap.size, 1, none⟩ = some (.int .u64 10) := Cb.get 1 rfl
  have Cf1 := Blk.frozen Cb 1
  have Cc2 : World.cell? w10 ⟨w.heap.size, 2, none⟩ = some (.int .u64 1) := Cb.get 2 rfl
  have Cf2 := Blk.frozen Cb 2
  have Cn := Blk.lt Cb
  have Dm : Blk w10 (w.heap.size + 1) 24 #[.int .u64 2, .int .u64 5, .int .u64 0] := Blk.next (by repeat (first | (with_reducible exact Db) | (refine Blk.new_at ?_; simp only [World.size_alloc]; done) | (with_reducible refine Blk.alloc ?_ _) | (with_reducible refine Blk.drewN ?_ _))) hb10
  clear Dn Db Dc0 Df0 Dc1 Df1 Dc2 Df2
  have Db := Dm
  clear Dm
  have Dc0 : World.cell? w10 ⟨w.heap.size + 1, 0, none⟩ = some (.int .u64 2) := Db.get 0 rfl
  have Df0 := Blk.frozen Db 0
  have Dc1 : World.cell? w10 ⟨w.heap.size + 1, 1, none⟩ = some (.int .u64 5) := Db.get 1 rfl
  have Df1 := Blk.frozen Db 1
  have Dc2 : World.cell? w10 ⟨w.heap.size + 1, 2, none⟩ = some (.int .u64 0) := Db.get 2 rfl
  have Df2 := Blk.frozen Db 2
  have Dn := Blk.lt Db
  have B10 : Below w.heap.size w w10 := by first | with_reducible exact below_next B9 hb10 | exact below_step B9 (by go_grown) hb10
  clear hb10 B9
  go_wp2_with fail
  with_reducible refine (b2.out _).mono ?_
  rintro e w11 ⟨rfl, hb11⟩
  have Cm : Blk w11 (w.heap.size) 24 #[.int .u64 3, .int .u64 10, .int .u64 1] := Blk.next (by repeat (first | (with_reducible exact Cb) | (refine Blk.new_at ?_; simp only [World.size_alloc]; done) | (with_reducible refine Blk.alloc ?_ _) | (with_reducible refine Blk.drewN ?_ _))) hb11
  clear Cn Cb Cc0 Cf0 Cc1 Cf1 Cc2 Cf2
  have Cb := Cm
  clear Cm
  have Cc0 : World.cell? w11 ⟨w.heap.size, 0, none⟩ = some (.int .u64 3) := Cb.get 0 rfl
  have Cf0 := Blk.frozen Cb 0
  have Cc1 : World.cell? w11 ⟨w.heap.size, 1, none⟩ = some (.int .u64 10) := Cb.get 1 rfl
  have Cf1 := Blk.frozen Cb 1
  have Cc2 : World.cell? w11 ⟨w.heap.size, 2, none⟩ = some (.int .u64 1) := Cb.get 2 rfl
  have Cf2 := Blk.frozen Cb 2
  have Cn := Blk.lt Cb
  have Dm : Blk w11 (w.heap.size + 1) 24 #[.int .u64 2, .int .u64 5, .int .u64 0] := Blk.next (by repeat (first | (with_reducible exact Db) | (refine Blk.new_at ?_; simp only [World.size_alloc]; done) | (with_reducible refine Blk.alloc ?_ _) | (with_reducible refine Blk.drewN ?_ _))) hb11
  clear Dn Db Dc0 Df0 Dc1 Df1 Dc2 Df2
  have Db := Dm
  clear Dm
  have Dc0 : World.cell? w11 ⟨w.heap.size + 1, 0, none⟩ = some (.int .u64 2) := Db.get 0 rfl
  have Df0 := Blk.frozen Db 0
  have Dc1 : World.cell? w11 ⟨w.heap.size + 1, 1, none⟩ = some (.int .u64 5) := Db.get 1 rfl
  have Df1 := Blk.frozen Db 1
  have Dc2 : World.cell? w11 ⟨w.heap.size + 1, 2, none⟩ = some (.int .u64 0) := Db.get 2 rfl
  have Df2 := Blk.frozen Db 2
  have Dn := Blk.lt Db
  have B11 : Below w.heap.size w w11 := by first | with_reducible exact below_next B10 hb11 | exact below_step B10 (by go_grown) hb11
  clear hb11 B10
  go_wp2_with fail
  with_reducible refine (b3.out _).mono ?_
  rintro e w12 ⟨rfl, hb12⟩
  have Cm : Blk w12 (w.heap.size) 24 #[.int .u64 3, .int .u64 10, .int .u64 1] := Blk.next (by repeat (first | (with_reducible exact Cb) | (refine Blk.new_at ?_; simp only [World.size_alloc]; done) | (with_reducible refine Blk.alloc ?_ _) | (with_reducible refine Blk.drewN ?_ _))) hb12
  clear Cn Cb Cc0 Cf0 Cc1 Cf1 Cc2 Cf2
  have Cb := Cm
  clear Cm
  have Cc0 : World.cell? w12 ⟨w.heap.size, 0, none⟩ = some (.int .u64 3) := Cb.get 0 rfl
  have Cf0 := Blk.frozen Cb 0
  have Cc1 : World.cell? w12 ⟨w.heap.size, 1, none⟩ = some (.int .u64 10) := Cb.get 1 rfl
  have Cf1 := Blk.frozen Cb 1
  have Cc2 : World.cell? w12 ⟨w.heap.size, 2, none⟩ = some (.int .u64 1) := Cb.get 2 rfl
  have Cf2 := Blk.frozen Cb 2
  have Cn := Blk.lt Cb
  have Dm : Blk w12 (w.heap.size + 1) 24 #[.int .u64 2, .int .u64 5, .int .u64 0] := Blk.next (by repeat (first | (with_reducible exact Db) | (refine Blk.new_at ?_; simp only [World.size_alloc]; done) | (with_reducible refine Blk.alloc ?_ _) | (with_reducible refine Blk.drewN ?_ _))) hb12
  clear Dn Db Dc0 Df0 Dc1 Df1 Dc2 Df2
  have Db := Dm
  clear Dm
  have Dc0 : World.cell? w12 ⟨w.heap.size + 1, 0, none⟩ = some (.int .u64 2) := Db.get 0 rfl
  have Df0 := Blk.frozen Db 0
  have Dc1 : World.cell? w12 ⟨w.heap.size + 1, 1, none⟩ = some (.int .u64 5) := Db.get 1 rfl
  have Df1 := Blk.frozen Db 1
  have Dc2 : World.cell? w12 ⟨w.heap.size + 1, 2, none⟩ = some (.int .u64 0) := Db.get 2 rfl
  have Df2 := Blk.frozen Db 2
  have Dn := Blk.lt Db
  have B12 : Below w.heap.size w w12 := by first | with_reducible exact below_next B11 hb12 | exact below_step B11 (by go_grown) hb12
  clear hb12 B11
  go_wp2_with fail
  with_reducible refine (b4.out _).mono ?_
  rintro e w13 ⟨rfl, hb13⟩
  have Cm : Blk w13 (w.heap.size) 24 #[.int .u64 3, .int .u64 10, .int .u64 1] := Blk.next (by repeat (first | (with_reducible exact Cb) | (refine Blk.new_at ?_; simp only [World.size_alloc]; done) | (with_reducible refine Blk.alloc ?_ _) | (with_reducible refine Blk.drewN ?_ _))) hb13
  clear Cn Cb Cc0 Cf0 Cc1 Cf1 Cc2 Cf2
  have Cb := Cm
  clear Cm
  have Cc0 : World.cell? w13 ⟨w.heap.size, 0, none⟩ = some (.int .u64 3) := Cb.get 0 rfl
  have Cf0 := Blk.frozen Cb 0
  have Cc1 : World.cell? w13 ⟨w.heap.size, 1, none⟩ = some (.int .u64 10) := Cb.get 1 rfl
  have Cf1 := Blk.frozen Cb 1
  have Cc2 : World.cell? w13 ⟨w.heap.size, 2, none⟩ = some (.int .u64 1) := Cb.get 2 rfl
  have Cf2 := Blk.frozen Cb 2
  have Cn := Blk.lt Cb
  have Dm : Blk w13 (w.heap.size + 1) 24 #[.int .u64 2, .int .u64 5, .int .u64 0] := Blk.next (by repeat (first | (with_reducible exact Db) | (refine Blk.new_at ?_; simp only [World.size_alloc]; done) | (with_reducible refine Blk.alloc ?_ _) | (with_reducible refine Blk.drewN ?_ _))) hb13
  clear Dn Db Dc0 Df0 Dc1 Df1 Dc2 Df2
  have Db := Dm
  clear Dm
  have Dc0 : World.cell? w13 ⟨w.heap.size + 1, 0, none⟩ = some (.int .u64 2) := Db.get 0 rfl
  have Df0 := Blk.frozen Db 0
  have Dc1 : World.cell? w13 ⟨w.heap.size + 1, 1, none⟩ = some (.int .u64 5) := Db.get 1 rfl
  have Df1 := Blk.frozen Db 1
  have Dc2 : World.cell? w13 ⟨w.heap.size + 1, 2, none⟩ = some (.int .u64 0) := Db.get 2 rfl
  have Df2 := Blk.frozen Db 2
  have Dn := Blk.lt Db
  have B13 : Below w.heap.size w w13 := by first | with_reducible exact below_next B12 hb13 | exact below_step B12 (by go_grown) hb13
  clear hb13 B12
  go_wp2_with fail
  with_reducible refine (b5.out _).mono ?_
  rintro e w14 ⟨rfl, hb14⟩
  have Cm : Blk w14 (w.heap.size) 24 #[.int .u64 3, .int .u64 10, .int .u64 1] := Blk.next (by repeat (first | (with_reducible exact Cb) | (refine Blk.new_at ?_; simp only [World.size_alloc]; done) | (with_reducible refine Blk.alloc ?_ _) | (with_reducible refine Blk.drewN ?_ _))) hb14
  clear Cn Cb Cc0 Cf0 Cc1 Cf1 Cc2 Cf2
  have Cb := Cm
  clear Cm
  have Cc0 : World.cell? w14 ⟨w.heap.size, 0, none⟩ = some (.int .u64 3) := Cb.get 0 rfl
  have Cf0 := Blk.frozen Cb 0
  have Cc1 : World.cell? w14 ⟨w.heap.size, 1, none⟩ = some (.int .u64 10) := Cb.get 1 rfl
  have Cf1 := Blk.frozen Cb 1
  have Cc2 : World.cell? w14 ⟨w.heap.size, 2, none⟩ = some (.int .u64 1) := Cb.get 2 rfl
  have Cf2 := Blk.frozen Cb 2
  have Cn := Blk.lt Cb
  have Dm : Blk w14 (w.heap.size + 1) 24 #[.int .u64 2, .int .u64 5, .int .u64 0] := Blk.next (by repeat (first | (with_reducible exact Db) | (refine Blk.new_at ?_; simp only [World.size_alloc]; done) | (with_reducible refine Blk.alloc ?_ _) | (with_reducible refine Blk.drewN ?_ _))) hb14
  clear Dn Db Dc0 Df0 Dc1 Df1 Dc2 Df2
  have Db := Dm
  clear Dm
  have Dc0 : World.cell? w14 ⟨w.heap.size + 1, 0, none⟩ = some (.int .u64 2) := Db.get 0 rfl
  have Df0 := Blk.frozen Db 0
  have Dc1 : World.cell? w14 ⟨w.heap.size + 1, 1, none⟩ = some (.int .u64 5) := Db.get 1 rfl
  have Df1 := Blk.frozen Db 1
  have Dc2 : World.cell? w14 ⟨w.heap.size + 1, 2, none⟩ = some (.int .u64 0) := Db.get 2 rfl
  have Df2 := Blk.frozen Db 2
  have Dn := Blk.lt Db
  have B14 : Below w.heap.size w w14 := by first | with_reducible exact below_next B13 hb14 | exact below_step B13 (by go_grown) hb14
  clear hb14 B13
  go_wp2_with fail
  go_ret
  exact ⟨by simp, B14⟩

end Go.Proofs.Ytdkeoanlcninkaa
