/-
  What the document's curves compute: May, At, Reach, Steepest, Burst, None, Bent.
-/
import Derived.Test.YtjbajongjdbplaaCurveD
import Derived.Test.YtjbajongjdbplaaRatioD
namespace Go.Proofs.Ytjbajongjdbplaa
set_option linter.unusedVariables false
set_option linter.unusedSimpArgs false
open Go.RowKit Go.Shelf

theorem refmay_any (F L R : Int) (w : World) (hL : Word L) : Calls Try.prog 16 #[.agg #[.int .u64 F, .int .u64 L, .int .u64 R]] w fun e w' => e = .returned (.bool (mayB F L R)) ∧ Below w.heap.size w w' := by
  unfold mayB
  have l0 := hL.1
  by_cases h1 : F > 1048576
  · rw [if_pos (.inl h1)]
    go_enter Try.func16, Try.ntmps16
    go_wp2_with fail
    go_ret
    exact ⟨rfl, by go_grown⟩
  by_cases h2 : R > 1048576
  · rw [if_pos (.inr (.inl h2))]
    have h1' : F ≤ 1048576 := by omega
    go_enter Try.func16, Try.ntmps16
    go_wp2_with fail
    go_ret
    exact ⟨rfl, by go_grown⟩
  by_cases h3 : L > 1099511627776
  · rw [if_pos (.inr (.inr h3))]
    have h1' : F ≤ 1048576 := by omega
    have h2' : R ≤ 1048576 := by omega
    go_enter Try.func16, Try.ntmps16
    go_wp2_with fail
    go_ret
    exact ⟨rfl, by go_grown⟩
  rw [if_neg (by omega)]
  have h1' : F ≤ 1048576 := by omega
  have h2' : R ≤ 1048576 := by omega
  have h3' : L ≤ 1099511627776 := by omega
  by_cases h4 : L = 0
  · rw [if_pos h4]
    subst h4
    by_cases h5 : F = 0
    · subst h5
      go_enter Try.func16, Try.ntmps16
      go_wp2_with fail
      go_ret
      exact ⟨rfl, by go_grown⟩
    · have h5' : (F == 0) = false := beq_eq_false_iff_ne.2 h5
      rw [h5']
      clear h5
      go_enter Try.func16, Try.ntmps16
      go_wp2_with fail
      go_ret
      exact ⟨rfl, by go_grown⟩
  · rw [if_neg h4]
    have h4' : (L == 0) = false := beq_eq_false_iff_ne.2 h4
    have h6 : 0 < L := by omega
    clear h4
    go_enter Try.func16, Try.ntmps16
    go_wp2_with fail
    go_ret
    exact ⟨rfl, by go_grown⟩
theorem refmay_val (F L R : Int) (b : Bool) (w : World) (wL : Word L) (h : mayB F L R = b) : Calls Try.prog 16 #[.agg #[.int .u64 F, .int .u64 L, .int .u64 R]] w fun e w' => e = .returned (.bool b) ∧ Below w.heap.size w w' := by
  rw [← h]; exact refmay_any F L R w wL

theorem refbent_any (F L R : Int) (w : World) : Calls Try.prog 32 #[.agg #[.int .u64 F, .int .u64 L, .int .u64 R]] w fun e w' => e = .returned (.bool (decide (R < F))) ∧ Below w.heap.size w w' := by
  go_enter Try.func32, Try.ntmps32
  go_wp2_with fail
  go_ret
  exact ⟨rfl, by go_grown⟩
theorem refbent_val (F L R : Int) (b : Bool) (w : World) (h : decide (R < F) = b) : Calls Try.prog 32 #[.agg #[.int .u64 F, .int .u64 L, .int .u64 R]] w fun e w' => e = .returned (.bool b) ∧ Below w.heap.size w w' := by
  rw [← h]; exact refbent_any F L R w
theorem refnone_any (F L R : Int) (w : World) : Calls Try.prog 31 #[.agg #[.int .u64 F, .int .u64 L, .int .u64 R]] w fun e w' => e = .returned (.bool (noneB F L R)) ∧ Below w.heap.size w w' := by
  unfold noneB
  rcases Bool.eq_false_or_eq_true (F == 0) with h1 | h1 <;> rcases Bool.eq_false_or_eq_true (L == 0) with h2 | h2 <;>
  · go_enter Try.func31, Try.ntmps31
    go_wp2_with fail
    go_ret
    exact ⟨by simp [*], by go_grown⟩
theorem refburst_any (F L R : Int) (w : World) (wF : Word F) (wL : Word L) (wR : Word R) : Calls Try.prog 29 #[.agg #[.int .u64 F, .int .u64 L, .int .u64 R]] w fun e w' => e = .returned (.tuple #[.int .u64 (burstN F L R), .bool (decide (R < F))]) ∧ Below w.heap.size w w' := by
  unfold burstN
  by_cases h : R < F
  · rw [if_pos h, decide_eq_true h]
    have BE := Lib.hid (fun w => refbent_val F L R true w (decide_eq_true h))
    have w0 := wF.2
    have w1 := wR.1
    have hw : IntKind.u64.wrap (F - R) = F - R := by rw [IntKind.wrap_u64]; omega
    have TI := Lib.hid (fun w => reftimes_any (F - R) L w ⟨by omega, by omega⟩ wL)
    obtain ⟨v, hv⟩ : ∃ v, stopN ((F - R) * L) = v := ⟨_, rfl⟩
    rw [hv] at TI ⊢
    clear hv
    obtain ⟨d, hd⟩ : ∃ d, F - R = d := ⟨_, rfl⟩
    rw [hd] at TI hw
    clear h
    go_enter Try.func29, Try.ntmps29
    go_wp2_with fail
    with_reducible refine (BE.out _).mono ?_
    rintro e w1 ⟨rfl, hb1⟩
    have Pm : Blk w1 (w.heap.size) 24 #[.int .u64 F, .int .u64 L, .int .u64 R] := Blk.next (by repeat (first | (refine Blk.new_at ?_; simp only [World.size_alloc]; done) | (with_reducible refine Blk.alloc ?_ _) | (with_reducible refine Blk.drewN ?_ _))) hb1
    have Pb := Pm
    clear Pm
    have Pc0 : World.cell? w1 ⟨w.heap.size, 0, none⟩ = some (.int .u64 F) := Pb.get 0 rfl
    have Pf0 := Blk.frozen Pb 0
    have Pc1 : World.cell? w1 ⟨w.heap.size, 1, none⟩ = some (.int .u64 L) := Pb.get 1 rfl
    have Pf1 := Blk.frozen Pb 1
    have Pc2 : World.cell? w1 ⟨w.heap.size, 2, none⟩ = some (.int .u64 R) := Pb.get 2 rfl
    have Pf2 := Blk.frozen Pb 2
    have Pn := Blk.lt Pb
    have B1 : Below w.heap.size w w1 := by first | with_reducible exact hb1 | exact Below.trans (by go_grown) (hb1.mono (by simp only [World.size_alloc]; omega))
    clear hb1
    go_wp2_with fail
    with_reducible refine (TI.out _).mono ?_
    rintro e w2 ⟨rfl, hb2⟩
    have Pm : Blk w2 (w.heap.size) 24 #[.int .u64 F, .int .u64 L, .int .u64 R] := Blk.next (by repeat (first | (with_reducible exact Pb) | (refine Blk.new_at ?_; simp only [World.size_alloc]; done) | (with_reducible refine Blk.alloc ?_ _) | (with_reducible refine Blk.drewN ?_ _))) hb2
    clear Pn Pb Pc0 Pf0 Pc1 Pf1 Pc2 Pf2
    have Pb := Pm
    clear Pm
    have Pc0 : World.cell? w2 ⟨w.heap.size, 0, none⟩ = some (.int .u64 F) := Pb.get 0 rfl
    have Pf0 := Blk.frozen Pb 0
    have Pc1 : World.cell? w2 ⟨w.heap.size, 1, none⟩ = some (.int .u64 L) := Pb.get 1 rfl
    have Pf1 := Blk.frozen Pb 1
    have Pc2 : World.cell? w2 ⟨w.heap.size, 2, none⟩ = some (.int .u64 R) := Pb.get 2 rfl
    have Pf2 := Blk.frozen Pb 2
    have Pn := Blk.lt Pb
    have B2 : Below w.heap.size w w2 := by first | with_reducible exact below_next B1 hb2 | exact below_step B1 (by go_grown) hb2
    clear hb2 B1
    go_wp2_with fail
    go_ret2
    exact ⟨by simp, B2⟩
  · rw [if_neg h, decide_eq_false h]
    have BE := Lib.hid (fun w => refbent_val F L R false w (decide_eq_false h))
    go_enter Try.func29, Try.ntmps29
    go_wp2_with fail
    with_reducible refine (BE.out _).mono ?_
    rintro e w1 ⟨rfl, hb1⟩
    have B1 : Below w.heap.size w w1 := by first | with_reducible exact hb1 | exact Below.trans (by go_grown) (hb1.mono (by simp only [World.size_alloc]; omega))
    clear hb1
    go_wp2_with fail
    go_ret2
    exact ⟨by simp, B1⟩
theorem refsteep_any (F L R : Int) (w : World) (wL : Word L) : Calls Try.prog 34 #[.agg #[.int .u64 F, .int .u64 L, .int .u64 R]] w fun e w' => e = .returned (.int .u64 (steepN F L R)) ∧ Below w.heap.size w w' := by
  have l0 := wL.1
  have e : steepN F L R = if 0 < L ∧ R < F then F else R := by unfold steepN; (repeat' split) <;> omega
  rw [e]
  clear e
  by_cases h1 : 0 < L
  · by_cases h2 : R < F
    · rw [if_pos ⟨h1, h2⟩]
      go_enter Try.func34, Try.ntmps34
      go_wp2_with fail
      go_ret
      exact ⟨rfl, by go_grown⟩
    · rw [if_neg (by omega)]
      have h2' : F ≤ R := by omega
      go_enter Try.func34, Try.ntmps34
      go_wp2_with fail
      go_ret
      exact ⟨rfl, by go_grown⟩
  · rw [if_neg (by omega)]
    have h1' : L ≤ 0 := by omega
    go_enter Try.func34, Try.ntmps34
    go_wp2_with fail
    go_ret
    exact ⟨rfl, by go_grown⟩

/-! ### At -/
/-- What a curve has, in two words; where 128 bits end, so much as no number stops at. -/
def wideN (F L R t : Int) : Int := F * min t L + (if L < t then R * (t - L) else 0)
def wideH (n : Int) : Int := if n ≥ 340282366920938463463374607431768211456 then 9223372036854775808 else n / 18446744073709551616
def wideL (n : Int) : Int := if n ≥ 340282366920938463463374607431768211456 then 0 else n % 18446744073709551616
theorem wide_raw (F L R t : Int) : wideN F L R t = rawN F L R t := by
  unfold wideN
  rcases Int.lt_or_le L t with h | h
  · rw [if_pos h, raw_high (by omega), Int.min_eq_right (by omega)]
  · rw [if_neg (by omega), raw_low h, Int.min_eq_left h, Int.add_zero]
theorem wide_stop {n : Int} (h : 0 ≤ n) : stopW (wideH n) (wideL n) = stopN n := by
  unfold stopW wideH wideL stopN
  (repeat' split) <;> omega
theorem wide_words {n : Int} (h : 0 ≤ n) : Word (wideH n) ∧ Word (wideL n) := by
  unfold wideH wideL
  by_cases k : n ≥ 340282366920938463463374607431768211456
  · rw [if_pos k, if_pos k]; exact ⟨by decide, by decide⟩
  · rw [if_neg k, if_neg k]; exact ⟨⟨by omega, by omega⟩, ⟨by omega, by omega⟩⟩

end Go.Proofs.Ytjbajongjdbplaa
