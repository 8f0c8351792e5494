/-
  What the document's curves compute: May, At, Reach, Steepest, Burst, None, Bent.
-/
import Derived.Test.YtjhffbhjiflfeaaGreatCurveB
import Derived.Test.YtjhffbhjiflfeaaGreatRatioD
namespace Go.Proofs.YtjhffbhjiflfeaaGreat
set_option linter.unusedVariables false
set_option linter.unusedSimpArgs false
open Go.RowKit Go.Shelf

theorem refmay_any (F L R : Int) (w : World) (hL : Word L) : Calls Tryz.prog 36 #[.agg #[.int .u64 F, .int .u64 L, .int .u64 R]] w fun e w' => e = .returned (.bool (mayB F L R)) ∧ Below w.heap.size w w' := by
  unfold mayB
  have l0 := hL.1
  by_cases h1 : F > 1048576
  · rw [if_pos (.inl h1)]
    go_enter Tryz.func36, Tryz.ntmps36
    go_wp2_with fail
    go_ret
    exact ⟨rfl, by go_grown⟩
  by_cases h2 : R > 1048576
  · rw [if_pos (.inr (.inl h2))]
    have h1' : F ≤ 1048576 := by omega
    go_enter Tryz.func36, Tryz.ntmps36
    go_wp2_with fail
    go_ret
    exact ⟨rfl, by go_grown⟩
  by_cases h3 : L > 1099511627776
  · rw [if_pos (.inr (.inr h3))]
    have h1' : F ≤ 1048576 := by omega
    have h2' : R ≤ 1048576 := by omega
    go_enter Tryz.func36, Tryz.ntmps36
    go_wp2_with fail
    go_ret
    exact ⟨rfl, by go_grown⟩
  rw [if_neg (by omega)]
  have h1' : F ≤ 1048576 := by omega
  have h2' : R ≤ 1048576 := by omega
  have h3' : L ≤ 1099511627776 := by omega
  by_cases h4 : L = 0
  · rw [if_pos h4]
    subst h4
    by_cases h5 : F = 0
    · subst h5
      go_enter Tryz.func36, Tryz.ntmps36
      go_wp2_with fail
      go_ret
      exact ⟨rfl, by go_grown⟩
    · have h5' : (F == 0) = false := beq_eq_false_iff_ne.2 h5
      rw [h5']
      clear h5
      go_enter Tryz.func36, Tryz.ntmps36
      go_wp2_with fail
      go_ret
      exact ⟨rfl, by go_grown⟩
  · rw [if_neg h4]
    have h4' : (L == 0) = false := beq_eq_false_iff_ne.2 h4
    have h6 : 0 < L := by omega
    clear h4
    go_enter Tryz.func36, Tryz.ntmps36
    go_wp2_with fail
    go_ret
    exact ⟨rfl, by go_grown⟩
theorem refmay_val (F L R : Int) (b : Bool) (w : World) (wL : Word L) (h : mayB F L R = b) : Calls Tryz.prog 36 #[.agg #[.int .u64 F, .int .u64 L, .int .u64 R]] w fun e w' => e = .returned (.bool b) ∧ Below w.heap.size w w' := by
  rw [← h]; exact refmay_any F L R w wL

/-! ### At -/
/-- What a curve has, in two words; where 128 bits end, so much as no number stops at. -/
def wideN (F L R t : Int) : Int := F * min t L + (if L < t then R * (t - L) else 0)
def wideH (n : Int) : Int := if n ≥ 340282366920938463463374607431768211456 then 9223372036854775808 else n / 18446744073709551616
def wideL (n : Int) : Int := if n ≥ 340282366920938463463374607431768211456 then 0 else n % 18446744073709551616
theorem wide_raw (F L R t : Int) : wideN F L R t = rawN F L R t := by
  unfold wideN
  rcases Int.lt_or_le L t with h | h
  · rw [if_pos h, raw_high (by omega), Int.min_eq_right (by omega)]
  · rw [if_neg (by omega), raw_low h, Int.min_eq_left h, Int.add_zero]
theorem wide_stop {n : Int} (h : 0 ≤ n) : stopW (wideH n) (wideL n) = stopN n := by
  unfold stopW wideH wideL stopN
  (repeat' split) <;> omega
theorem wide_words {n : Int} (h : 0 ≤ n) : Word (wideH n) ∧ Word (wideL n) := by
  unfold wideH wideL
  by_cases k : n ≥ 340282366920938463463374607431768211456
  · rw [if_pos k, if_pos k]; exact ⟨by decide, by decide⟩
  · rw [if_neg k, if_neg k]; exact ⟨⟨by omega, by omega⟩, ⟨by omega, by omega⟩⟩

end Go.Proofs.YtjhffbhjiflfeaaGreat

/-!
  What the document's At and Reach of a curve compute.
-/
namespace Go.Proofs.YtjhffbhjiflfeaaGreat
set_option linter.unusedVariables false
set_option linter.unusedSimpArgs false
open Go.RowKit Go.Shelf

theorem wide_plus {F R m d h1 l1 h2 l2 : Int} (e1 : F * m / 18446744073709551616 = h1) (e2 : F * m % 18446744073709551616 = l1) (e3 : R * d / 18446744073709551616 = h2) (e4 : R * d % 18446744073709551616 = l2) :
    plusH h1 l1 h2 l2 = (if plusE h1 l1 h2 l2 = 0 then wideH (F * m + R * d) else 0) ∧ plusL h1 l1 h2 l2 = (if plusE h1 l1 h2 l2 = 0 then wideL (F * m + R * d) else 0) ∧
    (plusE h1 l1 h2 l2 = 0 ∨ (plusE h1 l1 h2 l2 = 10 ∧ wideH (F * m + R * d) = 9223372036854775808 ∧ wideL (F * m + R * d) = 0)) := by
  generalize F * m = p at *
  generalize R * d = q at *
  have e : (h1 + h2) * 18446744073709551616 + l1 + l2 = p + q := by omega
  unfold plusH plusL plusE wideH wideL
  rw [e]
  by_cases k : p + q ≥ 340282366920938463463374607431768211456
  · simp only [if_pos k]; simp
  · simp only [if_neg k]
    exact ⟨by simp, by simp; omega, .inl (by simp)⟩

set_option maxHeartbeats 1000000 in
theorem refwide_any (F L R t : Int) (w : World) (hF : Word F) (hL : Word L) (hR : Word R) (ht : Word t) :
    Calls Tryz.prog 93 #[.agg #[.int .u64 F, .int .u64 L, .int .u64 R], .int .u64 t] w fun e w' => e = .returned (.agg #[.int .u64 (wideH (rawN F L R t)), .int .u64 (wideL (rawN F L R t))]) ∧ Below w.heap.size w w' := by
  have l0 := hL.1
  have l1 := hL.2
  have t0 := ht.1
  have t1 := ht.2
  rcases Int.lt_or_le L t with k | k
  · have er : rawN F L R t = F * L + R * (t - L) := raw_high (by omega)
    rw [er]
    clear er
    have hw : IntKind.u64.wrap (t - L) = t - L := by rw [IntKind.wrap_u64]; omega
    have hmn : min t L = L := Int.min_eq_right (by omega)
    obtain ⟨h1, e1⟩ : ∃ x, F * L / 18446744073709551616 = x := ⟨_, rfl⟩
    obtain ⟨l1', e2⟩ : ∃ x, F * L % 18446744073709551616 = x := ⟨_, rfl⟩
    obtain ⟨h2, e3⟩ : ∃ x, R * (t - L) / 18446744073709551616 = x := ⟨_, rfl⟩
    obtain ⟨l2, e4⟩ : ∃ x, R * (t - L) % 18446744073709551616 = x := ⟨_, rfl⟩
    have wd : Word (t - L) := ⟨by omega, by omega⟩
    obtain ⟨q1, q2, q3, q4⟩ := prod_words hR wd
    rw [e3] at q1
    rw [e4] at q2
    have M2 := Lib.hid (fun w => refmul_hl R (t - L) h2 l2 w hR wd e3 e4)
    obtain ⟨p1, p2, p3, p4⟩ := prod_words hF hL
    rw [e1] at p1
    rw [e2] at p2
    have M1 := Lib.hid (fun w => refmul_hl F L h1 l1' w hF hL e1 e2)
    obtain ⟨wp1, wp2, wp3⟩ := wide_plus e1 e2 e3 e4
    obtain ⟨H, eH⟩ : ∃ x, plusH h1 l1' h2 l2 = x := ⟨_, rfl⟩
    obtain ⟨Lo, eL⟩ : ∃ x, plusL h1 l1' h2 l2 = x := ⟨_, rfl⟩
    obtain ⟨E, eE⟩ : ∃ x, plusE h1 l1' h2 l2 = x := ⟨_, rfl⟩
    have PL := Lib.hid (fun w => refplus_hl h1 l1' h2 l2 H Lo E w p1 p2 q1 q2 eH eL eE)
    rw [eH, eE] at wp1
    rw [eL, eE] at wp2
    rw [eE] at wp3
    clear e1 e2 e3 e4 eH eL eE p1 p2 p3 p4 q1 q2 q3 q4 wd
    rcases wp3 with e0 | ⟨e0, e5, e6⟩
    · subst e0
      rw [if_pos rfl] at wp1 wp2
      rw [← wp1, ← wp2]
      clear wp1 wp2
      go_enter Tryz.func93, Tryz.ntmps93
      go_wp2_with fail
      with_reducible refine (M1.out _).mono ?_
      rintro e w1 ⟨rfl, hb1⟩
      have Cm : Blk w1 (w.heap.size) 32 #[.int .u64 F, .int .u64 L, .int .u64 R] := Blk.next (by repeat (first | (refine Blk.new_at ?_; simp only [World.size_alloc]; done) | (with_reducible refine Blk.alloc ?_ _) | (with_reducible refine Blk.drewN ?_ _))) hb1
      have Cb := Cm
      clear Cm
      have Cc0 : World.cell? w1 ⟨w.heap.size, 0, none⟩ = some (.int .u64 F) := Cb.get 0 rfl
      have Cf0 := Blk.frozen Cb 0
      have Cc1 : World.cell? w1 ⟨w.heap.size, 1, none⟩ = some (.int .u64 L) := Cb.get 1 rfl
      have Cf1 := Blk.frozen Cb 1
      have Cc2 : World.cell? w1 ⟨w.heap.size, 2, none⟩ = some (.int .u64 R) := Cb.get 2 rfl
      have Cf2 := Blk.frozen Cb 2
      have Cn := Blk.lt Cb
      have Rrm : Blk w1 (w.heap.size + 1) 137 #[.int .u64 0, .int .u64 0] := Blk.next (by repeat (first | (refine Blk.new_at ?_; simp only [World.size_alloc]; done) | (with_reducible refine Blk.alloc ?_ _) | (with_reducible refine Blk.drewN ?_ _))) hb1
      have Rrb := Rrm
      clear Rrm
      have Rrc0 : World.cell? w1 ⟨w.heap.size + 1, 0, none⟩ = some (.int .u64 0) := Rrb.get 0 rfl
      have Rrf0 := Blk.frozen Rrb 0
      have Rrc1 : World.cell? w1 ⟨w.heap.size + 1, 1, none⟩ = some (.int .u64 0) := Rrb.get 1 rfl
      have Rrf1 := Blk.frozen Rrb 1
      have Rrn := Blk.lt Rrb
      have B1 : Below w.heap.size w w1 := by first | with_reducible exact hb1 | exact Below.trans (by go_grown) (hb1.mono (by simp only [World.size_alloc]; omega))
      clear hb1
      have hs1 := Rrn
      go_wp2_with fail
      with_reducible refine (M2.out _).mono ?_
      rintro e w2 ⟨rfl, hb2⟩
      have Cm : Blk w2 (w.heap.size) 32 #[.int .u64 F, .int .u64 L, .int .u64 R] := Blk.next (by repeat (first | (with_reducible exact Cb) | (refine Blk.new_at ?_; simp only [World.size_alloc]; done) | (with_reducible refine Blk.alloc ?_ _) | (with_reducible refine Blk.drewN ?_ _))) hb2
      clear Cn Cb Cc0 Cf0 Cc1 Cf1 Cc2 Cf2
      have Cb := Cm
      clear Cm
      have Cc0 : World.cell? w2 ⟨w.heap.size, 0, none⟩ = some (.int .u64 F) := Cb.get 0 rfl
      have Cf0 := Blk.frozen Cb 0
      have Cc1 : World.cell? w2 ⟨w.heap.size, 1, none⟩ = some (.int .u64 L) := Cb.get 1 rfl
      have Cf1 := Blk.frozen Cb 1
      have Cc2 : World.cell? w2 ⟨w.heap.size, 2, none⟩ = some (.int .u64 R) := Cb.get 2 rfl
      have Cf2 := Blk.frozen Cb 2
      have Cn := Blk.lt Cb
      have Rrm : Blk w2 (w.heap.size + 1) 137 #[.int .u64 0, .int .u64 0] := Blk.next (by repeat (first | (with_reducible exact Rrb) | (refine Blk.new_at ?_; simp only [World.size_alloc]; done) | (with_reducible refine Blk.alloc ?_ _) | (with_reducible refine Blk.drewN ?_ _))) hb2
      clear Rrn Rrb Rrc0 Rrf0 Rrc1 Rrf1
      have Rrb := Rrm
      clear Rrm
      have Rrc0 : World.cell? w2 ⟨w.heap.size + 1, 0, none⟩ = some (.int .u64 0) := Rrb.get 0 rfl
      have Rrf0 := Blk.frozen Rrb 0
      have Rrc1 : World.cell? w2 ⟨w.heap.size + 1, 1, none⟩ = some (.int .u64 0) := Rrb.get 1 rfl
      have Rrf1 := Blk.frozen Rrb 1
      have Rrn := Blk.lt Rrb
      have Pm : Blk w2 (w1.heap.size) 137 #[.int .u64 h1, .int .u64 l1'] := Blk.next (by repeat (first | (refine Blk.new_at ?_; simp only [World.size_alloc]; done) | (with_reducible refine Blk.alloc ?_ _) | (with_reducible refine Blk.drewN ?_ _))) hb2
      have Pb := Pm
      clear Pm
      have Pc0 : World.cell? w2 ⟨w1.heap.size, 0, none⟩ = some (.int .u64 h1) := Pb.get 0 rfl
      have Pf0 := Blk.frozen Pb 0
      have Pc1 : World.cell? w2 ⟨w1.heap.size, 1, none⟩ = some (.int .u64 l1') := Pb.get 1 rfl
      have Pf1 := Blk.frozen Pb 1
      have Pn := Blk.lt Pb
      have Qm : Blk w2 (w1.heap.size + 1) 137 #[.int .u64 0, .int .u64 0] := Blk.next (by repeat (first | (refine Blk.new_at ?_; simp only [World.size_alloc]; done) | (with_reducible refine Blk.alloc ?_ _) | (with_reducible refine Blk.drewN ?_ _))) hb2
      have Qb := Qm
      clear Qm
      have Qc0 : World.cell? w2 ⟨w1.heap.size + 1, 0, none⟩ = some (.int .u64 0) := Qb.get 0 rfl
      have Qf0 := Blk.frozen Qb 0
      have Qc1 : World.cell? w2 ⟨w1.heap.size + 1, 1, none⟩ = some (.int .u64 0) := Qb.get 1 rfl
      have Qf1 := Blk.frozen Qb 1
      have Qn := Blk.lt Qb
      have B2 : Below w.heap.size w w2 := by first | with_reducible exact below_next B1 hb2 | exact below_step B1 (by go_grown) hb2
      clear hb2 B1
      obtain ⟨-, -, Q2⟩ := Blk.puts Qb (.int .u64 h2) (.int .u64 l2)
      have BS := (B2.setCell (p := ⟨w1.heap.size + 1, 0, none⟩) (show w.heap.size ≤ w1.heap.size + 1 by omega) (.int .u64 h2)).setCell (p := ⟨w1.heap.size + 1, 1, none⟩) (show w.heap.size ≤ w1.heap.size + 1 by omega) (.int .u64 l2)
      have RS := Blk.far (Blk.far Rrb (p := ⟨w1.heap.size + 1, 0, none⟩) (show w.heap.size + 1 ≠ w1.heap.size + 1 by omega) (.int .u64 h2)) (p := ⟨w1.heap.size + 1, 1, none⟩) (show w.heap.size + 1 ≠ w1.heap.size + 1 by omega) (.int .u64 l2)
      go_wp2_with fail
      with_reducible refine (PL.out _).mono ?_
      rintro e w3 ⟨rfl, hb3⟩
      have B3 := below_next BS hb3
      have R3 := RS.next hb3
      have R3n := R3.lt
      have R3a := R3.alloc (.cells #[.int .u64 H, .int .u64 Lo] 137)
      have Rc0 : World.cell? w3 ⟨w.heap.size + 1, 0, none⟩ = some (.int .u64 0) := R3.get 0 rfl
      have Rc1 : World.cell? w3 ⟨w.heap.size + 1, 1, none⟩ = some (.int .u64 0) := R3.get 1 rfl
      have Rf0 := Blk.frozen R3 0
      have Rf1 := Blk.frozen R3 1
      have B4 := B3.alloc B3.size (.cells #[.int .u64 H, .int .u64 Lo] 137)
      obtain ⟨P0, P1, P2⟩ := Blk.puts R3 (.int .u64 H) (.int .u64 Lo)
      have P3 := Blk.alloc P2 (.cells #[.int .u64 H, .int .u64 Lo] 137)
      have P4 := Blk.get P3 0 (v := .int .u64 H) rfl
      have P5 := Blk.get P3 1 (v := .int .u64 Lo) rfl
      clear hb3 BS RS P0 P1
      go_wp2_with fail
      refine bodyPost_ret (by simp [results, Tryz.results93, go_sem, P4, P5]; try rfl) rfl ?_
      first | exact ⟨rfl, (B4.setCell (p := ⟨w.heap.size + 1, 0, none⟩) (show w.heap.size ≤ w.heap.size + 1 by omega) _).setCell (p := ⟨w.heap.size + 1, 1, none⟩) (show w.heap.size ≤ w.heap.size + 1 by omega) _⟩ | exact ⟨rfl, ((B3.setCell (p := ⟨w.heap.size + 1, 0, none⟩) (show w.heap.size ≤ w.heap.size + 1 by omega) _).setCell (p := ⟨w.heap.size + 1, 1, none⟩) (show w.heap.size ≤ w.heap.size + 1 by omega) _).alloc (by simp only [World.size_setCell]; exact B3.size) _⟩
    · subst e0
      rw [e5, e6]
      clear wp1 wp2 e5 e6
      go_enter Tryz.func93, Tryz.ntmps93
      go_wp2_with fail
      with_reducible refine (M1.out _).mono ?_
      rintro e w1 ⟨rfl, hb1⟩
      have Cm : Blk w1 (w.heap.size) 32 #[.int .u64 F, .int .u64 L, .int .u64 R] := Blk.next (by repeat (first | (refine Blk.new_at ?_; simp only [World.size_alloc]; done) | (with_reducible refine Blk.alloc ?_ _) | (with_reducible refine Blk.drewN ?_ _))) hb1
      have Cb := Cm
      clear Cm
      have Cc0 : World.cell? w1 ⟨w.heap.size, 0, none⟩ = some (.int .u64 F) := Cb.get 0 rfl
      have Cf0 := Blk.frozen Cb 0
      have Cc1 : World.cell? w1 ⟨w.heap.size, 1, none⟩ = some (.int .u64 L) := Cb.get 1 rfl
      have Cf1 := Blk.frozen Cb 1
      have Cc2 : World.cell? w1 ⟨w.heap.size, 2, none⟩ = some (.int .u64 R) := Cb.get 2 rfl
      have Cf2 := Blk.frozen Cb 2
      have Cn := Blk.lt Cb
      have Rrm : Blk w1 (w.heap.size + 1) 137 #[.int .u64 0, .int .u64 0] := Blk.next (by repeat (first | (refine Blk.new_at ?_; simp only [World.size_alloc]; done) | (with_reducible refine Blk.alloc ?_ _) | (with_reducible refine Blk.drewN ?_ _))) hb1
      have Rrb := Rrm
      clear Rrm
      have Rrc0 : World.cell? w1 ⟨w.heap.size + 1, 0, none⟩ = some (.int .u64 0) := Rrb.get 0 rfl
      have Rrf0 := Blk.frozen Rrb 0
      have Rrc1 : World.cell? w1 ⟨w.heap.size + 1, 1, none⟩ = some (.int .u64 0) := Rrb.get 1 rfl
      have Rrf1 := Blk.frozen Rrb 1
      have Rrn := Blk.lt Rrb
      have B1 : Below w.heap.size w w1 := by first | with_reducible exact hb1 | exact Below.trans (by go_grown) (hb1.mono (by simp only [World.size_alloc]; omega))
      clear hb1
      have hs1 := Rrn
      go_wp2_with fail
      with_reducible refine (M2.out _).mono ?_
      rintro e w2 ⟨rfl, hb2⟩
      have Cm : Blk w2 (w.heap.size) 32 #[.int .u64 F, .int .u64 L, .int .u64 R] := Blk.next (by repeat (first | (with_reducible exact Cb) | (refine Blk.new_at ?_; simp only [World.size_alloc]; done) | (with_reducible refine Blk.alloc ?_ _) | (with_reducible refine Blk.drewN ?_ _))) hb2
      clear Cn Cb Cc0 Cf0 Cc1 Cf1 Cc2 Cf2
      have Cb := Cm
      clear Cm
      have Cc0 : World.cell? w2 ⟨w.heap.size, 0, none⟩ = some (.int .u64 F) := Cb.get 0 rfl
      have Cf0 := Blk.frozen Cb 0
      have Cc1 : World.cell? w2 ⟨w.heap.size, 1, none⟩ = some (.int .u64 L) := Cb.get 1 rfl
      have Cf1 := Blk.frozen Cb 1
      have Cc2 : World.cell? w2 ⟨w.heap.size, 2, none⟩ = some (.int .u64 R) := Cb.get 2 rfl
      have Cf2 := Blk.frozen Cb 2
      have Cn := Blk.lt Cb
      have Rrm : Blk w2 (w.heap.size + 1) 137 #[.int .u64 0, .int .u64 0] := Blk.next (by repeat (first | (with_reducible exact Rrb) | (refine Blk.new_at ?_; simp only [World.size_alloc]; done) | (with_reducible refine Blk.alloc ?_ _) | (with_reducible refine Blk.drewN ?_ _))) hb2
      clear Rrn Rrb Rrc0 Rrf0 Rrc1 Rrf1
      have Rrb := Rrm
      clear Rrm
      have Rrc0 : World.cell? w2 ⟨w.heap.size + 1, 0, none⟩ = some (.int .u64 0) := Rrb.get 0 rfl
      have Rrf0 := Blk.frozen Rrb 0
      have Rrc1 : World.cell? w2 ⟨w.heap.size + 1, 1, none⟩ = some (.int .u64 0) := Rrb.get 1 rfl
      have Rrf1 := Blk.frozen Rrb 1
      have Rrn := Blk.lt Rrb
      have Pm : Blk w2 (w1.heap.size) 137 #[.int .u64 h1, .int .u64 l1'] := Blk.next (by repeat (first | (refine Blk.new_at ?_; simp only [World.size_alloc]; done) | (with_reducible refine Blk.alloc ?_ _) | (with_reducible refine Blk.drewN ?_ _))) hb2
      have Pb := Pm
      clear Pm
      have Pc0 : World.cell? w2 ⟨w1.heap.size, 0, none⟩ = some (.int .u64 h1) := Pb.get 0 rfl
      have Pf0 := Blk.frozen Pb 0
      have Pc1 : World.cell? w2 ⟨w1.heap.size, 1, none⟩ = some (.int .u64 l1') := Pb.get 1 rfl
      have Pf1 := Blk.frozen Pb 1
      have Pn := Blk.lt Pb
      have Qm : Blk w2 (w1.heap.size + 1) 137 #[.int .u64 0, .int .u64 0] := Blk.next (by repeat (first | (refine Blk.new_at ?_; simp only [World.size_alloc]; done) | (with_reducible refine Blk.alloc ?_ _) | (with_reducible refine Blk.drewN ?_ _))) hb2
      have Qb := Qm
      clear Qm
      have Qc0 : World.cell? w2 ⟨w1.heap.size + 1, 0, none⟩ = some (.int .u64 0) := Qb.get 0 rfl
      have Qf0 := Blk.frozen Qb 0
      have Qc1 : World.cell? w2 ⟨w1.heap.size + 1, 1, none⟩ = some (.int .u64 0) := Qb.get 1 rfl
      have Qf1 := Blk.frozen Qb 1
      have Qn := Blk.lt Qb
      have B2 : Below w.heap.size w w2 := by first | with_reducible exact below_next B1 hb2 | exact below_step B1 (by go_grown) hb2
      clear hb2 B1
      obtain ⟨-, -, Q2⟩ := Blk.puts Qb (.int .u64 h2) (.int .u64 l2)
      have BS := (B2.setCell (p := ⟨w1.heap.size + 1, 0, none⟩) (show w.heap.size ≤ w1.heap.size + 1 by omega) (.int .u64 h2)).setCell (p := ⟨w1.heap.size + 1, 1, none⟩) (show w.heap.size ≤ w1.heap.size + 1 by omega) (.int .u64 l2)
      have RS := Blk.far (Blk.far Rrb (p := ⟨w1.heap.size + 1, 0, none⟩) (show w.heap.size + 1 ≠ w1.heap.size + 1 by omega) (.int .u64 h2)) (p := ⟨w1.heap.size + 1, 1, none⟩) (show w.heap.size + 1 ≠ w1.heap.size + 1 by omega) (.int .u64 l2)
      go_wp2_with fail
      with_reducible refine (PL.out _).mono ?_
      rintro e w3 ⟨rfl, hb3⟩
      have B3 := below_next BS hb3
      have R3 := RS.next hb3
      have R3n := R3.lt
      have R3a := R3.alloc (.cells #[.int .u64 H, .int .u64 Lo] 137)
      have Rc0 : World.cell? w3 ⟨w.heap.size + 1, 0, none⟩ = some (.int .u64 0) := R3.get 0 rfl
      have Rc1 : World.cell? w3 ⟨w.heap.size + 1, 1, none⟩ = some (.int .u64 0) := R3.get 1 rfl
      have Rf0 := Blk.frozen R3 0
      have Rf1 := Blk.frozen R3 1
      have B4 := B3.alloc B3.size (.cells #[.int .u64 H, .int .u64 Lo] 137)
      obtain ⟨P0, P1, P2⟩ := Blk.puts R3 (.int .u64 9223372036854775808) (.int .u64 0)
      have P3 := Blk.alloc P2 (.cells #[.int .u64 H, .int .u64 Lo] 137)
      have P4 := Blk.get P3 0 (v := .int .u64 9223372036854775808) rfl
      have P5 := Blk.get P3 1 (v := .int .u64 0) rfl
      clear hb3 BS RS P0 P1
      go_wp2_with fail
      refine bodyPost_ret (by simp [results, Tryz.results93, go_sem, P4, P5]; try rfl) rfl ?_
      first | exact ⟨rfl, (B4.setCell (p := ⟨w.heap.size + 1, 0, none⟩) (show w.heap.size ≤ w.heap.size + 1 by omega) _).setCell (p := ⟨w.heap.size + 1, 1, none⟩) (show w.heap.size ≤ w.heap.size + 1 by omega) _⟩ | exact ⟨rfl, ((B3.setCell (p := ⟨w.heap.size + 1, 0, none⟩) (show w.heap.size ≤ w.heap.size + 1 by omega) _).setCell (p := ⟨w.heap.size + 1, 1, none⟩) (show w.heap.size ≤ w.heap.size + 1 by omega) _).alloc (by simp only [World.size_setCell]; exact B3.size) _⟩
  · have er : rawN F L R t = F * t + R * 0 := by rw [raw_low k, Int.mul_zero, Int.add_zero]
    rw [er]
    clear er
    have hmn : min t L = t := Int.min_eq_left (by omega)
    obtain ⟨h1, e1⟩ : ∃ x, F * t / 18446744073709551616 = x := ⟨_, rfl⟩
    obtain ⟨l1', e2⟩ : ∃ x, F * t % 18446744073709551616 = x := ⟨_, rfl⟩
    have e3 : R * 0 / 18446744073709551616 = 0 := by rw [Int.mul_zero]; rfl
    have e4 : R * 0 % 18446744073709551616 = 0 := by rw [Int.mul_zero]; rfl
    obtain ⟨p1, p2, p3, p4⟩ := prod_words hF ht
    rw [e1] at p1
    rw [e2] at p2
    have M1 := Lib.hid (fun w => refmul_hl F t h1 l1' w hF ht e1 e2)
    obtain ⟨wp1, wp2, wp3⟩ := wide_plus e1 e2 e3 e4
    obtain ⟨H, eH⟩ : ∃ x, plusH h1 l1' 0 0 = x := ⟨_, rfl⟩
    obtain ⟨Lo, eL⟩ : ∃ x, plusL h1 l1' 0 0 = x := ⟨_, rfl⟩
    obtain ⟨E, eE⟩ : ∃ x, plusE h1 l1' 0 0 = x := ⟨_, rfl⟩
    have PL := Lib.hid (fun w => refplus_hl h1 l1' 0 0 H Lo E w p1 p2 (by decide) (by decide) eH eL eE)
    rw [eH, eE] at wp1
    rw [eL, eE] at wp2
    rw [eE] at wp3
    clear e1 e2 e3 e4 eH eL eE p1 p2 p3 p4
    rcases wp3 with e0 | ⟨e0, e5, e6⟩
    · subst e0
      rw [if_pos rfl] at wp1 wp2
      rw [← wp1, ← wp2]
      clear wp1 wp2
      go_enter Tryz.func93, Tryz.ntmps93
      go_wp2_with fail
      with_reducible refine (M1.out _).mono ?_
      rintro e w1 ⟨rfl, hb1⟩
      have Cm : Blk w1 (w.heap.size) 32 #[.int .u64 F, .int .u64 L, .int .u64 R] := Blk.next (by repeat (first | (refine Blk.new_at ?_; simp only [World.size_alloc]; done) | (with_reducible refine Blk.alloc ?_ _) | (with_reducible refine Blk.drewN ?_ _))) hb1
      have Cb := Cm
      clear Cm
      have Cc0 : World.cell? w1 ⟨w.heap.size, 0, none⟩ = some (.int .u64 F) := Cb.get 0 rfl
      have Cf0 := Blk.frozen Cb 0
      have Cc1 : World.cell? w1 ⟨w.heap.size, 1, none⟩ = some (.int .u64 L) := Cb.get 1 rfl
      have Cf1 := Blk.frozen Cb 1
      have Cc2 : World.cell? w1 ⟨w.heap.size, 2, none⟩ = some (.int .u64 R) := Cb.get 2 rfl
      have Cf2 := Blk.frozen Cb 2
      have Cn := Blk.lt Cb
      have Rrm : Blk w1 (w.heap.size + 1) 137 #[.int .u64 0, .int .u64 0] := Blk.next (by repeat (first | (refine Blk.new_at ?_; simp only [World.size_alloc]; done) | (with_reducible refine Blk.alloc ?_ _) | (with_reducible refine Blk.drewN ?_ _))) hb1
      have Rrb := Rrm
      clear Rrm
      have Rrc0 : World.cell? w1 ⟨w.heap.size + 1, 0, none⟩ = some (.int .u64 0) := Rrb.get 0 rfl
      have Rrf0 := Blk.frozen Rrb 0
      have Rrc1 : World.cell? w1 ⟨w.heap.size + 1, 1, none⟩ = some (.int .u64 0) := Rrb.get 1 rfl
      have Rrf1 := Blk.frozen Rrb 1
      have Rrn := Blk.lt Rrb
      have B1 : Below w.heap.size w w1 := by first | with_reducible exact hb1 | exact Below.trans (by go_grown) (hb1.mono (by simp only [World.size_alloc]; omega))
      clear hb1
      have hs1 := Rrn
      have BS := (B1.alloc B1.size (.cells #[.int .u64 h1, .int .u64 l1'] 137)).alloc (by simp only [World.size_alloc]; omega) (.cells #[.int .u64 0, .int .u64 0] 137)
      have RS := (Rrb.alloc (.cells #[.int .u64 h1, .int .u64 l1'] 137)).alloc (.cells #[.int .u64 0, .int .u64 0] 137)
      go_wp2_with fail
      with_reducible refine (PL.out _).mono ?_
      rintro e w3 ⟨rfl, hb3⟩
      have B3 := below_next BS hb3
      have R3 := RS.next hb3
      have R3n := R3.lt
      have R3a := R3.alloc (.cells #[.int .u64 H, .int .u64 Lo] 137)
      have Rc0 : World.cell? w3 ⟨w.heap.size + 1, 0, none⟩ = some (.int .u64 0) := R3.get 0 rfl
      have Rc1 : World.cell? w3 ⟨w.heap.size + 1, 1, none⟩ = some (.int .u64 0) := R3.get 1 rfl
      have Rf0 := Blk.frozen R3 0
      have Rf1 := Blk.frozen R3 1
      have B4 := B3.alloc B3.size (.cells #[.int .u64 H, .int .u64 Lo] 137)
      obtain ⟨P0, P1, P2⟩ := Blk.puts R3 (.int .u64 H) (.int .u64 Lo)
      have P3 := Blk.alloc P2 (.cells #[.int .u64 H, .int .u64 Lo] 137)
      have P4 := Blk.get P3 0 (v := .int .u64 H) rfl
      have P5 := Blk.get P3 1 (v := .int .u64 Lo) rfl
      clear hb3 BS RS P0 P1
      go_wp2_with fail
      refine bodyPost_ret (by simp [results, Tryz.results93, go_sem, P4, P5]; try rfl) rfl ?_
      first | exact ⟨rfl, (B4.setCell (p := ⟨w.heap.size + 1, 0, none⟩) (show w.heap.size ≤ w.heap.size + 1 by omega) _).setCell (p := ⟨w.heap.size + 1, 1, none⟩) (show w.heap.size ≤ w.heap.size + 1 by omega) _⟩ | exact ⟨rfl, ((B3.setCell (p := ⟨w.heap.size + 1, 0, none⟩) (show w.heap.size ≤ w.heap.size + 1 by omega) _).setCell (p := ⟨w.heap.size + 1, 1, none⟩) (show w.heap.size ≤ w.heap.size + 1 by omega) _).alloc (by simp only [World.size_setCell]; exact B3.size) _⟩
    · subst e0
      rw [e5, e6]
      clear wp1 wp2 e5 e6
      go_enter Tryz.func93, Tryz.ntmps93
      go_wp2_with fail
      with_reducible refine (M1.out _).mono ?_
      rintro e w1 ⟨rfl, hb1⟩
      have Cm : Blk w1 (w.heap.size) 32 #[.int .u64 F, .int .u64 L, .int .u64 R] := Blk.next (by repeat (first | (refine Blk.new_at ?_; simp only [World.size_alloc]; done) | (with_reducible refine Blk.alloc ?_ _) | (with_reducible refine Blk.drewN ?_ _))) hb1
      have Cb := Cm
      clear Cm
      have Cc0 : World.cell? w1 ⟨w.heap.size, 0, none⟩ = some (.int .u64 F) := Cb.get 0 rfl
      have Cf0 := Blk.frozen Cb 0
      have Cc1 : World.cell? w1 ⟨w.heap.size, 1, none⟩ = some (.int .u64 L) := Cb.get 1 rfl
      have Cf1 := Blk.frozen Cb 1
      have Cc2 : World.cell? w1 ⟨w.heap.size, 2, none⟩ = some (.int .u64 R) := Cb.get 2 rfl
      have Cf2 := Blk.frozen Cb 2
      have Cn := Blk.lt Cb
      have Rrm : Blk w1 (w.heap.size + 1) 137 #[.int .u64 0, .int .u64 0] := Blk.next (by repeat (first | (refine Blk.new_at ?_; simp only [World.size_alloc]; done) | (with_reducible refine Blk.alloc ?_ _) | (with_reducible refine Blk.drewN ?_ _))) hb1
      have Rrb := Rrm
      clear Rrm
      have Rrc0 : World.cell? w1 ⟨w.heap.size + 1, 0, none⟩ = some (.int .u64 0) := Rrb.get 0 rfl
      have Rrf0 := Blk.frozen Rrb 0
      have Rrc1 : World.cell? w1 ⟨w.heap.size + 1, 1, none⟩ = some (.int .u64 0) := Rrb.get 1 rfl
      have Rrf1 := Blk.frozen Rrb 1
      have Rrn := Blk.lt Rrb
      have B1 : Below w.heap.size w w1 := by first | with_reducible exact hb1 | exact Below.trans (by go_grown) (hb1.mono (by simp only [World.size_alloc]; omega))
      clear hb1
      have hs1 := Rrn
      have BS := (B1.alloc B1.size (.cells #[.int .u64 h1, .int .u64 l1'] 137)).alloc (by simp only [World.size_alloc]; omega) (.cells #[.int .u64 0, .int .u64 0] 137)
      have RS := (Rrb.alloc (.cells #[.int .u64 h1, .int .u64 l1'] 137)).alloc (.cells #[.int .u64 0, .int .u64 0] 137)
      go_wp2_with fail
      with_reducible refine (PL.out _).mono ?_
      rintro e w3 ⟨rfl, hb3⟩
      have B3 := below_next BS hb3
      have R3 := RS.next hb3
      have R3n := R3.lt
      have R3a := R3.alloc (.cells #[.int .u64 H, .int .u64 Lo] 137)
      have Rc0 : World.cell? w3 ⟨w.heap.size + 1, 0, none⟩ = some (.int .u64 0) := R3.get 0 rfl
      have Rc1 : World.cell? w3 ⟨w.heap.size + 1, 1, none⟩ = some (.int .u64 0) := R3.get 1 rfl
      have Rf0 := Blk.frozen R3 0
      have Rf1 := Blk.frozen R3 1
      have B4 := B3.alloc B3.size (.cells #[.int .u64 H, .int .u64 Lo] 137)
      obtain ⟨P0, P1, P2⟩ := Blk.puts R3 (.int .u64 9223372036854775808) (.int .u64 0)
      have P3 := Blk.alloc P2 (.cells #[.int .u64 H, .int .u64 Lo] 137)
      have P4 := Blk.get P3 0 (v := .int .u64 9223372036854775808) rfl
      have P5 := Blk.get P3 1 (v := .int .u64 0) rfl
      clear hb3 BS RS P0 P1
      go_wp2_with fail
      refine bodyPost_ret (by simp [results, Tryz.results93, go_sem, P4, P5]; try rfl) rfl ?_
      first | exact ⟨rfl, (B4.setCell (p := ⟨w.heap.size + 1, 0, none⟩) (show w.heap.size ≤ w.heap.size + 1 by omega) _).setCell (p := ⟨w.heap.size + 1, 1, none⟩) (show w.heap.size ≤ w.heap.size + 1 by omega) _⟩ | exact ⟨rfl, ((B3.setCell (p := ⟨w.heap.size + 1, 0, none⟩) (show w.heap.size ≤ w.heap.size + 1 by omega) _).setCell (p := ⟨w.heap.size + 1, 1, none⟩) (show w.heap.size ≤ w.heap.size + 1 by omega) _).alloc (by simp only [World.size_setCell]; exact B3.size) _⟩

end Go.Proofs.YtjhffbhjiflfeaaGreat
