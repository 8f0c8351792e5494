/-
  The walk of the law BentLeast: what a run has is the least of what all copies have, and the lesser one of both lines.
-/
import Derived.Test.YtdkeoanlcninkaaProg
import Derived.Test.YtdkeoanlcninkaaBentC
namespace Go.Proofs.Ytdkeoanlcninkaa
set_option linter.unusedVariables false
set_option linter.unusedSimpArgs false
open Go.RowKit Go.Shelf

/-- Is some one of the first so many just that? -/
def fndB (G : Nat → Int) (v : Int) : Nat → Bool
  | 0 => false
  | k + 1 => fndB G v k || (G k == v)
theorem fnd_all {G : Nat → Int} {v : Int} {n : Nat} (h : ∃ i, i < n ∧ G i = v) : fndB G v n = true := by
  obtain ⟨i, hi, e⟩ := h
  induction n with
  | zero => omega
  | succ n ih =>
    unfold fndB
    rcases Nat.lt_or_ge i n with k | k
    · rw [ih k]; rfl
    · obtain rfl : i = n := by omega
      rw [e]; simp

set_option maxRecDepth 100000 in
set_option maxHeartbeats 8000000 in
theorem bentLeast_walk (w : World) (F : Int) (hF : (Lit.int .u64 F).wf = true) (L : Int) (hL : (Lit.int .u64 L).wf = true) (R : Int) (hR : (Lit.int .u64 R).wf = true) (A : Option Addr) (n c : Nat) (X : Nat → Int) (fX : ∀ i, i < n → (Lit.int .u64 (X i)).wf = true) (Y : Nat → Int) (fY : ∀ i, i < n → (Lit.int .u64 (Y i)).wf = true) (T : Nat → Int) (fT : ∀ i, i < n → (Lit.int .u64 (T i)).wf = true) (N : Nat → Int) (fN : ∀ i, i < n → (Lit.int .u64 (N i)).wf = true) (hl : n ≤ c) (hm : c ≤ maxLen)
    (hA : 0 < n → ∃ b off, A = some ⟨b, off, none⟩ ∧ b < w.heap.size) (hX : ∀ b off, A = some ⟨b, off, none⟩ → ∀ i, i < n → w.cell? ⟨b, off + (i * 4 + 0), none⟩ = some (.int .u64 (X i))) (hY : ∀ b off, A = some ⟨b, off, none⟩ → ∀ i, i < n → w.cell? ⟨b, off + (i * 4 + 1), none⟩ = some (.int .u64 (Y i)))
    (hT : ∀ b off, A = some ⟨b, off, none⟩ → ∀ i, i < n → w.cell? ⟨b, off + (i * 4 + 2), none⟩ = some (.int .u64 (T i))) (hN : ∀ b off, A = some ⟨b, off, none⟩ → ∀ i, i < n → w.cell? ⟨b, off + (i * 4 + 3), none⟩ = some (.int .u64 (N i))) (t : Int) (ht : (Lit.int .u64 t).wf = true) :
    Calls Try.prog 8 #[.agg #[.int .u64 F, .int .u64 L, .int .u64 R], .slice A n c, .int .u64 t] w fun e w' => e = .returned (.bool true) ∧ Below w.heap.size w w' := by
  have wF := word_of_wf hF
  have wL := word_of_wf hL
  have wR := word_of_wf hR
  have wt := word_of_wf ht
  clear ht
  have hC := acts_cut hX hY
  have wX := cutF_word (fun i hi => word_of_wf (fX i hi))
  have wY := cutF_word (fun i hi => word_of_wf (fY i hi))
  clear hF hL hR fX fY fT fN hX hY hT hN hl hm
  generalize cutF X n = X at hC wX
  generalize cutF Y n = Y at hC wY
  have AW := Lib.hid (fun w => awake05 w)
  rcases Bool.eq_false_or_eq_true (mayB F L R && decide (R < F)) with hm | hm
  rotate_left
  · have SB := Lib.hid (fun w => started_bad F L R A n c w wF wL wR hm)
    clear hm hA hC
    go_enter Try.func8, Try.ntmps8
    go_wp2_with fail
    with_reducible refine (AW.out _).mono ?_
    rintro e w1 ⟨rfl, hb1⟩
    have Cm : Blk w1 (w.heap.size) 24 #[.int .u64 F, .int .u64 L, .int .u64 R] := Blk.next (by repeat (first | (refine Blk.new_at ?_; simp only [World.size_alloc]; done) | (with_reducible refine Blk.alloc ?_ _) | (with_reducible refine Blk.drewN ?_ _))) hb1
    have Cb := Cm
    clear Cm
    have Cc0 : World.cell? w1 ⟨w.heap.size, 0, none⟩ = some (.int .u64 F) := Cb.get 0 rfl
    have Cf0 := Blk.frozen Cb 0
    have Cc1 : World.cell? w1 ⟨w.heap.size, 1, none⟩ = some (.int .u64 L) := Cb.get 1 rfl
    have Cf1 := Blk.frozen Cb 1
    have Cc2 : World.cell? w1 ⟨w.heap.size, 2, none⟩ = some (.int .u64 R) := Cb.get 2 rfl
    have Cf2 := Blk.frozen Cb 2
    have Cn := Blk.lt Cb
    have B1 : Below w.heap.size w w1 := by first | with_reducible exact hb1 | exact Below.trans (by go_grown) (hb1.mono (by simp only [World.size_alloc]; omega))
    clear hb1
    go_wp2_with fail
    with_reducible refine (SB.out _).mono ?_
    rintro e w2 ⟨rfl, hb2⟩
    have Cm : Blk w2 (w.heap.size) 24 #[.int .u64 F, .int .u64 L, .int .u64 R] := Blk.next (by repeat (first | (with_reducible exact Cb) | (refine Blk.new_at ?_; simp only [World.size_alloc]; done) | (with_reducible refine Blk.alloc ?_ _) | (with_reducible refine Blk.drewN ?_ _))) hb2
    clear Cn Cb Cc0 Cf0 Cc1 Cf1 Cc2 Cf2
    have Cb := Cm
    clear Cm
    have Cc0 : World.cell? w2 ⟨w.heap.size, 0, none⟩ = some (.int .u64 F) := Cb.get 0 rfl
    have Cf0 := Blk.frozen Cb 0
    have Cc1 : World.cell? w2 ⟨w.heap.size, 1, none⟩ = some (.int .u64 L) := Cb.get 1 rfl
    have Cf1 := Blk.frozen Cb 1
    have Cc2 : World.cell? w2 ⟨w.heap.size, 2, none⟩ = some (.int .u64 R) := Cb.get 2 rfl
    have Cf2 := Blk.frozen Cb 2
    have Cn := Blk.lt Cb
    have B2 : Below w.heap.size w w2 := by first | with_reducible exact below_next B1 hb2 | exact below_step B1 (by go_grown) hb2
    clear hb2 B1
    go_wp2_with fail
    go_ret
    exact ⟨by simp, B2⟩
  obtain ⟨hm1, hm2⟩ : mayB F L R = true ∧ R < F := by simpa using hm
  clear hm
  have my := may_of wF wL wR hm1
  by_cases hn : 40 < n
  · have SL := Lib.hid (fun w => started_long F L R A n c w wF wL wR hm1 hm2 hn)
    clear hn hA hC my
    go_enter Try.func8, Try.ntmps8
    go_wp2_with fail
    with_reducible refine (AW.out _).mono ?_
    rintro e w1 ⟨rfl, hb1⟩
    have Cm : Blk w1 (w.heap.size) 24 #[.int .u64 F, .int .u64 L, .int .u64 R] := Blk.next (by repeat (first | (refine Blk.new_at ?_; simp only [World.size_alloc]; done) | (with_reducible refine Blk.alloc ?_ _) | (with_reducible refine Blk.drewN ?_ _))) hb1
    have Cb := Cm
    clear Cm
    have Cc0 : World.cell? w1 ⟨w.heap.size, 0, none⟩ = some (.int .u64 F) := Cb.get 0 rfl
    have Cf0 := Blk.frozen Cb 0
    have Cc1 : World.cell? w1 ⟨w.heap.size, 1, none⟩ = some (.int .u64 L) := Cb.get 1 rfl
    have Cf1 := Blk.frozen Cb 1
    have Cc2 : World.cell? w1 ⟨w.heap.size, 2, none⟩ = some (.int .u64 R) := Cb.get 2 rfl
    have Cf2 := Blk.frozen Cb 2
    have Cn := Blk.lt Cb
    have B1 : Below w.heap.size w w1 := by first | with_reducible exact hb1 | exact Below.trans (by go_grown) (hb1.mono (by simp only [World.size_alloc]; omega))
    clear hb1
    go_wp2_with fail
    with_reducible refine (SL.out _).mono ?_
    rintro e w2 ⟨rfl, hb2⟩
    have Cm : Blk w2 (w.heap.size) 24 #[.int .u64 F, .int .u64 L, .int .u64 R] := Blk.next (by repeat (first | (with_reducible exact Cb) | (refine Blk.new_at ?_; simp only [World.size_alloc]; done) | (with_reducible refine Blk.alloc ?_ _) | (with_reducible refine Blk.drewN ?_ _))) hb2
    clear Cn Cb Cc0 Cf0 Cc1 Cf1 Cc2 Cf2
    have Cb := Cm
    clear Cm
    have Cc0 : World.cell? w2 ⟨w.heap.size, 0, none⟩ = some (.int .u64 F) := Cb.get 0 rfl
    have Cf0 := Blk.frozen Cb 0
    have Cc1 : World.cell? w2 ⟨w.heap.size, 1, none⟩ = some (.int .u64 L) := Cb.get 1 rfl
    have Cf1 := Blk.frozen Cb 1
    have Cc2 : World.cell? w2 ⟨w.heap.size, 2, none⟩ = some (.int .u64 R) := Cb.get 2 rfl
    have Cf2 := Blk.frozen Cb 2
    have Cn := Blk.lt Cb
    have B2 : Below w.heap.size w w2 := by first | with_reducible exact below_next B1 hb2 | exact below_step B1 (by go_grown) hb2
    clear hb2 B1
    go_wp2_with fail
    go_ret
    exact ⟨by simp, B2⟩
  have SM := Lib.hid (fun w1 hB => started_at F L R A n c X Y w w1 hB wF wL wR hm1 hm2 (by omega) hA wX wY hC)
  have MD := made_run my hm2 (fun i => (wY i).1) n (X := X)
  have t0 := wt.1
  by_cases h0 : n = 0
  · subst h0
    have LZ := Lib.hid (fun q x f r w h => last_zb q F L R x f r w h)
    have AZ := Lib.hid (fun q x f r t w h => bat_zero q F L R x f r t w h)
    clear MD hA hC hn
    go_enter Try.func8, Try.ntmps8
    go_wp2_with fail
    with_reducible refine (AW.out _).mono ?_
    rintro e w1 ⟨rfl, hb1⟩
    have Cm : Blk w1 (w.heap.size) 24 #[.int .u64 F, .int .u64 L, .int .u64 R] := Blk.next (by repeat (first | (refine Blk.new_at ?_; simp only [World.size_alloc]; done) | (with_reducible refine Blk.alloc ?_ _) | (with_reducible refine Blk.drewN ?_ _))) hb1
    have Cb := Cm
    clear Cm
    have Cc0 : World.cell? w1 ⟨w.heap.size, 0, none⟩ = some (.int .u64 F) := Cb.get 0 rfl
    have Cf0 := Blk.frozen Cb 0
    have Cc1 : World.cell? w1 ⟨w.heap.size, 1, none⟩ = some (.int .u64 L) := Cb.get 1 rfl
    have Cf1 := Blk.frozen Cb 1
    have Cc2 : World.cell? w1 ⟨w.heap.size, 2, none⟩ = some (.int .u64 R) := Cb.get 2 rfl
    have Cf2 := Blk.frozen Cb 2
    have Cn := Blk.lt Cb
    have B1 : Below w.heap.size w w1 := by first | with_reducible exact hb1 | exact Below.trans (by go_grown) (hb1.mono (by simp only [World.size_alloc]; omega))
    clear hb1
    go_wp2_with fail
    with_reducible refine (SM.out _ B1).mono ?_
    rintro e w2 ⟨p, rfl, hp, hq, hb2⟩
    have Cm : Blk w2 (w.heap.size) 24 #[.int .u64 F, .int .u64 L, .int .u64 R] := Blk.next (by repeat (first | (with_reducible exact Cb) | (refine Blk.new_at ?_; simp only [World.size_alloc]; done) | (with_reducible refine Blk.alloc ?_ _) | (with_reducible refine Blk.drewN ?_ _))) hb2
    clear Cn Cb Cc0 Cf0 Cc1 Cf1 Cc2 Cf2
    have Cb := Cm
    clear Cm
    have Cc0 : World.cell? w2 ⟨w.heap.size, 0, none⟩ = some (.int .u64 F) := Cb.get 0 rfl
    have Cf0 := Blk.frozen Cb 0
    have Cc1 : World.cell? w2 ⟨w.heap.size, 1, none⟩ = some (.int .u64 L) := Cb.get 1 rfl
    have Cf1 := Blk.frozen Cb 1
    have Cc2 : World.cell? w2 ⟨w.heap.size, 2, none⟩ = some (.int .u64 R) := Cb.get 2 rfl
    have Cf2 := Blk.frozen Cb 2
    have Cn := Blk.lt Cb
    have B2 : Below w.heap.size w w2 := by first | with_reducible exact below_next B1 hb2 | exact below_step B1 (by go_grown) hb2
    clear hb2 B1
    have HQ := Lib.hid hq
    clear hq
    go_wp2_with fail
    with_reducible refine (LZ.out _ _ _ _ _ HQ.out).mono ?_
    rintro e w3 ⟨rfl, hb3⟩
    have Cm : Blk w3 (w.heap.size) 24 #[.int .u64 F, .int .u64 L, .int .u64 R] := Blk.next (by repeat (first | (with_reducible exact Cb) | (refine Blk.new_at ?_; simp only [World.size_alloc]; done) | (with_reducible refine Blk.alloc ?_ _) | (with_reducible refine Blk.drewN ?_ _))) hb3
    clear Cn Cb Cc0 Cf0 Cc1 Cf1 Cc2 Cf2
    have Cb := Cm
    clear Cm
    have Cc0 : World.cell? w3 ⟨w.heap.size, 0, none⟩ = some (.int .u64 F) := Cb.get 0 rfl
    have Cf0 := Blk.frozen Cb 0
    have Cc1 : World.cell? w3 ⟨w.heap.size, 1, none⟩ = some (.int .u64 L) := Cb.get 1 rfl
    have Cf1 := Blk.frozen Cb 1
    have Cc2 : World.cell? w3 ⟨w.heap.size, 2, none⟩ = some (.int .u64 R) := Cb.get 2 rfl
    have Cf2 := Blk.frozen Cb 2
    have Cn := Blk.lt Cb
    replace HQ := Lib.hid (HQ.out.next hb3)
    have B3 : Below w.heap.size w w3 := by first | with_reducible exact below_next B2 hb3 | exact below_step B2 (by go_grown) hb3
    clear hb3 B2
    go_wp2_with fail
    with_reducible refine (AZ.out _ _ _ _ _ _ HQ.out).mono ?_
    rintro e w4 ⟨rfl, hb4⟩
    have Cm : Blk w4 (w.heap.size) 24 #[.int .u64 F, .int .u64 L, .int .u64 R] := Blk.next (by repeat (first | (with_reducible exact Cb) | (refine Blk.new_at ?_; simp only [World.size_alloc]; done) | (with_reducible refine Blk.alloc ?_ _) | (with_reducible refine Blk.drewN ?_ _))) hb4
    clear Cn Cb Cc0 Cf0 Cc1 Cf1 Cc2 Cf2
    have Cb := Cm
    clear Cm
    have Cc0 : World.cell? w4 ⟨w.heap.size, 0, none⟩ = some (.int .u64 F) := Cb.get 0 rfl
    have Cf0 := Blk.frozen Cb 0
    have Cc1 : World.cell? w4 ⟨w.heap.size, 1, none⟩ = some (.int .u64 L) := Cb.get 1 rfl
    have Cf1 := Blk.frozen Cb 1
    have Cc2 : World.cell? w4 ⟨w.heap.size, 2, none⟩ = some (.int .u64 R) := Cb.get 2 rfl
    have Cf2 := Blk.frozen Cb 2
    have Cn := Blk.lt Cb
    replace HQ := Lib.hid (HQ.out.next hb4)
    have B4 : Below w.heap.size w w4 := by first | with_reducible exact below_next B3 hb4 | exact below_step B3 (by go_grown) hb4
    clear hb4 B3
    go_wp2_with fail
    go_ret
    exact ⟨by simp, B4⟩
  have n0 : (0 : Int) < (n : Int) := by omega
  have n1 : (n : Int) ≤ 40 := by omega
  have hx0 := MD.x0
  have hx1 := MD.x1
  have LE := Lib.hid (fun i (hi : i < n) => least_le (X := X) (Y := Y) (k := n) my hm2 (fun j => (wY j).1) hi (t := max t (runX X n)) (by omega))
  have IS := least_is (X := X) (Y := Y) (k := n) my hm2 (fun j => (wY j).1) (by omega) (t := max t (runX X n)) (by omega)
  have eh : hasN F R (runX X n) (runH X Y F 0 n) (runH X Y R ((F - R) * L) n) t = hasN F R (runX X n) (runH X Y F 0 n) (runH X Y R ((F - R) * L) n) (max t (runX X n)) := by
    unfold hasN; rw [show max (max t (runX X n)) (runX X n) = max t (runX X n) by omega]
  have RB := Lib.hid (fun i => runX_bounds (X := X) i)
  have RM := Lib.hid (fun i (hi : i ≤ n) => runX_mono (X := X) hi)
  have RX := Lib.hid (fun i => show max (runX X i) (min (X i) 9223372036854775808) = runX X (i + 1) from by show _ = nextX _ _; unfold nextX; omega)
  have FN := fnd_all (G := fun i => oneN F L R (Y i) (max t (runX X n) - runX X (i + 1))) (v := hasN F R (runX X n) (runH X Y F 0 n) (runH X Y R ((F - R) * L) n) (max t (runX X n))) (by obtain ⟨i, hi, e⟩ := IS; exact ⟨i, hi, e.symm⟩)
  have LE2 : Hid (∀ i, i < n → hasN F R (runX X n) (runH X Y F 0 n) (runH X Y R ((F - R) * L) n) (max t (runX X n)) ≤ (fun i => oneN F L R (Y i) (max t (runX X n) - runX X (i + 1))) i) := fun i hi => LE.out i hi
  have GE : Hid (∀ i, (fun i => oneN F L R (Y i) (max t (runX X n) - runX X (i + 1))) i = stopN (capN (Y i) + atN F L R (max t (runX X n) - runX X (i + 1)))) := fun i => rfl
  generalize (fun i => oneN F L R (Y i) (max t (runX X n) - runX X (i + 1))) = G at FN LE2 GE
  have EH := Lib.hid (show hasN F R (runX X n) (runH X Y F 0 n) (runH X Y R ((F - R) * L) n) t = min (stopN (runH X Y F 0 n + stopN (F * (max t (runX X n) - runX X n)))) (stopN (runH X Y R ((F - R) * L) n + stopN (R * (max t (runX X n) - runX X n)))) from rfl)
  rw [← eh] at FN LE2
  clear LE IS eh
  obtain ⟨x, ex⟩ : ∃ x, runX X n = x := ⟨_, rfl⟩
  obtain ⟨f, ef⟩ : ∃ x, runH X Y F 0 n = x := ⟨_, rfl⟩
  obtain ⟨r, er⟩ : ∃ x, runH X Y R ((F - R) * L) n = x := ⟨_, rfl⟩
  rw [ef, er, ex] at MD SM EH FN LE2
  rw [ex] at hx0 hx1 GE RM
  obtain ⟨v, ev⟩ : ∃ v, hasN F R x f r t = v := ⟨_, rfl⟩
  rw [ev] at EH FN LE2
  obtain ⟨wF', wR', wx, wf, wr'⟩ := MD.words
  have LA := Lib.hid (fun q w h => last_b q F L R n x f r w h n0)
  have AT := Lib.hid (fun q w h => bat_m q F L R n x f r t v w h MD n0 wt ev)
  have LI := Lib.hid (fun q w h => lines_made q F L R n x f r w h n0)
  obtain ⟨T, eT⟩ : ∃ T, max t x = T := ⟨_, rfl⟩
  have T0 : x ≤ T := by omega
  have T1 : T < 18446744073709551616 := by have := wt.2; omega
  rw [eT] at EH GE
  have EQ : max t x = T := eT
  have d0 : 0 ≤ T - x := by omega
  have TF := Lib.hid (fun w => times_val F (T - x) _ w wF' ⟨d0, by omega⟩ rfl)
  have TR := Lib.hid (fun w => times_val R (T - x) _ w wR' ⟨d0, by omega⟩ rfl)
  have p1 := stop_nonneg (Int.mul_nonneg my.f0 d0)
  have p2 := stop_le (F * (T - x))
  have p3 := stop_nonneg (Int.mul_nonneg my.r0 d0)
  have p4 := stop_le (R * (T - x))
  have PF := Lib.hid (fun w => plus_b f (stopN (F * (T - x))) _ w wf ⟨p1, by omega⟩ rfl)
  have PR := Lib.hid (fun w => plus_b r (stopN (R * (T - x))) _ w wr' ⟨p3, by omega⟩ rfl)
  obtain ⟨c1, e1⟩ : ∃ z, stopN (F * (T - x)) = z := ⟨_, rfl⟩
  obtain ⟨c2, e2⟩ : ∃ z, stopN (R * (T - x)) = z := ⟨_, rfl⟩
  rw [e1] at TF PF EH
  rw [e2] at TR PR EH
  obtain ⟨c3, e3⟩ : ∃ z, stopN (f + c1) = z := ⟨_, rfl⟩
  obtain ⟨c4, e4⟩ : ∃ z, stopN (r + c2) = z := ⟨_, rfl⟩
  rw [e3] at PF EH
  rw [e4] at PR EH
  have EV : (v == min c3 c4) = true := by rw [EH.out]; simp
  have CA : Hid (∀ w s, Word s → Calls Try.prog 12 #[.agg #[.int .u64 F, .int .u64 L, .int .u64 R], .int .u64 s] w fun e w' => e = .returned (.int .u64 (atN F L R s)) ∧ Below w.heap.size w w') := fun w s hs => at_any F L R s w wF wL wR hs
  have AB := Lib.hid (fun s (hs : 0 ≤ s) => And.intro (at_nonneg my hs) (at_le F L R s))
  have WX := Lib.hid wX
  have WY := Lib.hid wY
  have HA := Lib.hid hA
  have HC := Lib.hid hC
  have hdw : IntKind.u64.wrap (T - x) = T - x := by rw [IntKind.wrap_u64]; omega
  have EXN := Lib.hid ex
  have HFN := Lib.hid FN
  clear hA hC hn h0 ex ef er ev MD p1 p2 p3 p4 e1 e2 e3 e4 EH eT wF' wR' wx wf wr' my wX wY FN
  go_enter Try.func8, Try.ntmps8
  go_wp2_with fail
  with_reducible refine (AW.out _).mono ?_
  rintro e w1 ⟨rfl, hb1⟩
  have Cm : Blk w1 (w.heap.size) 24 #[.int .u64 F, .int .u64 L, .int .u64 R] := Blk.next (by repeat (first | (refine Blk.new_at ?_; simp only [World.size_alloc]; done) | (with_reducible refine Blk.alloc ?_ _) | (with_reducible refine Blk.drewN ?_ _))) hb1
  have Cb := Cm
  clear Cm
  have Cc0 : World.cell? w1 ⟨w.heap.size, 0, none⟩ = some (.int .u64 F) := Cb.get 0 rfl
  have Cf0 := Blk.frozen Cb 0
  have Cc1 : World.cell? w1 ⟨w.heap.size, 1, none⟩ = some (.int .u64 L) := Cb.get 1 rfl
  have Cf1 := Blk.frozen Cb 1
  have Cc2 : World.cell? w1 ⟨w.heap.size, 2, none⟩ = some (.int .u64 R) := Cb.get 2 rfl
  have Cf2 := Blk.frozen Cb 2
  have Cn := Blk.lt Cb
  have B1 : Below w.heap.size w w1 := by first | with_reducible exact hb1 | exact Below.trans (by go_grown) (hb1.mono (by simp only [World.size_alloc]; omega))
  clear hb1
  go_wp2_with fail
  with_reducible refine (SM.out _ B1).mono ?_
  rintro e w2 ⟨p, rfl, hp, hq, hb2⟩
  have Cm : Blk w2 (w.heap.size) 24 #[.int .u64 F, .int .u64 L, .int .u64 R] := Blk.next (by repeat (first | (with_reducible exact Cb) | (refine Blk.new_at ?_; simp only [World.size_alloc]; done) | (with_reducible refine Blk.alloc ?_ _) | (with_reducible refine Blk.drewN ?_ _))) hb2
  clear Cn Cb Cc0 Cf0 Cc1 Cf1 Cc2 Cf2
  have Cb := Cm
  clear Cm
  have Cc0 : World.cell? w2 ⟨w.heap.size, 0, none⟩ = some (.int .u64 F) := Cb.get 0 rfl
  have Cf0 := Blk.frozen Cb 0
  have Cc1 : World.cell? w2 ⟨w.heap.size, 1, none⟩ = some (.int .u64 L) := Cb.get 1 rfl
  have Cf1 := Blk.frozen Cb 1
  have Cc2 : World.cell? w2 ⟨w.heap.size, 2, none⟩ = some (.int .u64 R) := Cb.get 2 rfl
  have Cf2 := Blk.frozen Cb 2
  have Cn := Blk.lt Cb
  have B2 : Below w.heap.size w w2 := by first | with_reducible exact below_next B1 hb2 | exact below_step B1 (by go_grown) hb2
  clear hb2 B1
  have HQ := Lib.hid hq
  clear hq
  go_wp2_with fail
  with_reducible refine (LA.out _ _ HQ.out).mono ?_
  rintro e w3 ⟨rfl, hb3⟩
  have Cm : Blk w3 (w.heap.size) 24 #[.int .u64 F, .int .u64 L, .int .u64 R] := Blk.next (by repeat (first | (with_reducible exact Cb) | (refine Blk.new_at ?_; simp only [World.size_alloc]; done) | (with_reducible refine Blk.alloc ?_ _) | (with_reducible refine Blk.drewN ?_ _))) hb3
  clear Cn Cb Cc0 Cf0 Cc1 Cf1 Cc2 Cf2
  have Cb := Cm
  clear Cm
  have Cc0 : World.cell? w3 ⟨w.heap.size, 0, none⟩ = some (.int .u64 F) := Cb.get 0 rfl
  have Cf0 := Blk.frozen Cb 0
  have Cc1 : World.cell? w3 ⟨w.heap.size, 1, none⟩ = some (.int .u64 L) := Cb.get 1 rfl
  have Cf1 := Blk.frozen Cb 1
  have Cc2 : World.cell? w3 ⟨w.heap.size, 2, none⟩ = some (.int .u64 R) := Cb.get 2 rfl
  have Cf2 := Blk.frozen Cb 2
  have Cn := Blk.lt Cb
  replace HQ := Lib.hid (HQ.out.next hb3)
  have B3 : Below w.heap.size w w3 := by first | with_reducible exact below_next B2 hb3 | exact below_step B2 (by go_grown) hb3
  clear hb3 B2
  go_wp2_with fail
  with_reducible refine (AT.out _ _ HQ.out).mono ?_
  rintro e w4 ⟨rfl, hb4⟩
  have Cm : Blk w4 (w.heap.size) 24 #[.int .u64 F, .int .u64 L, .int .u64 R] := Blk.next (by repeat (first | (with_reducible exact Cb) | (refine Blk.new_at ?_; simp only [World.size_alloc]; done) | (with_reducible refine Blk.alloc ?_ _) | (with_reducible refine Blk.drewN ?_ _))) hb4
  clear Cn Cb Cc0 Cf0 Cc1 Cf1 Cc2 Cf2
  have Cb := Cm
  clear Cm
  have Cc0 : World.cell? w4 ⟨w.heap.size, 0, none⟩ = some (.int .u64 F) := Cb.get 0 rfl
  have Cf0 := Blk.frozen Cb 0
  have Cc1 : World.cell? w4 ⟨w.heap.size, 1, none⟩ = some (.int .u64 L) := Cb.get 1 rfl
  have Cf1 := Blk.frozen Cb 1
  have Cc2 : World.cell? w4 ⟨w.heap.size, 2, none⟩ = some (.int .u64 R) := Cb.get 2 rfl
  have Cf2 := Blk.frozen Cb 2
  have Cn := Blk.lt Cb
  replace HQ := Lib.hid (HQ.out.next hb4)
  have B4 : Below w.heap.size w w4 := by first | with_reducible exact below_next B3 hb4 | exact below_step B3 (by go_grown) hb4
  clear hb4 B3
  have HC2 := Lib.hid Cb
  have HB := Lib.hid B4
  go_wp2_with fail
  clear Cb Cc0 Cc1 Cc2 Cf0 Cf1 Cf2 Cn B4 AT LA SM AW
  go_loopg [12, 13, 14] n (fun gk xv fv ix wr => ∃ i : Nat, i + gk = n ∧ ix = .int .i64 i ∧ xv = .int .u64 (runX X i) ∧ fv = .bool (fndB G v i) ∧ IsBent wr p F L R n x f r ∧ Blk wr w.heap.size 24 #[.int .u64 F, .int .u64 L, .int .u64 R] ∧ Below w.heap.size w wr)
  case atStart => exact ⟨0, by omega, rfl, rfl, rfl, HQ.out, HC2.out, HB.out⟩
  case round =>
    obtain ⟨i, hi, rfl, rfl, rfl, Qb, Cb, B0⟩ := hrel
    clear HQ HC2 HB
    have HQ := Lib.hid Qb
    have HC2 := Lib.hid Cb
    have HB := Lib.hid B0
    clear Qb Cb B0
    by_cases hlt : i < n
    · obtain ⟨gm, rfl⟩ : ∃ gm, gk = gm + 1 := ⟨gk - 1, by omega⟩
      obtain ⟨bA, off, rfl, hbA⟩ := HA.out (by omega)
      obtain ⟨cx0, cy0⟩ := HC.out _ _ rfl i hlt
      have cx : wr.cell? ⟨bA, off + i * 4, none⟩ = some (.int .u64 (X i)) := (HB.out.cell (p := ⟨bA, off + i * 4, none⟩) hbA).trans cx0
      have cy : wr.cell? ⟨bA, off + i * 4 + 1, none⟩ = some (.int .u64 (Y i)) := (HB.out.cell (p := ⟨bA, off + i * 4 + 1, none⟩) hbA).trans cy0
      have hbA2 : bA < wr.heap.size := Nat.lt_of_lt_of_le hbA HB.out.size
      have i0 : (0 : Int) ≤ (i : Int) := by omega
      have i1 : (i : Int) < (n : Int) := by omega
      have EX := RX.out i
      have EF : Hid (fndB G v (i + 1) = (fndB G v i || (G i == v))) := rfl
      have le := LE2.out i hlt
      have ge := GE.out i
      have rb := RB.out (i + 1)
      have rm := RM.out (i + 1) (by omega)
      obtain ⟨Xi, eXi⟩ : ∃ z, X i = z := ⟨_, rfl⟩
      obtain ⟨Yi, eYi⟩ : ∃ z, Y i = z := ⟨_, rfl⟩
      have wy := WY.out i
      rw [eYi] at wy cy ge
      rw [eXi] at cx EX
      obtain ⟨x', ex'⟩ : ∃ z, runX X (i + 1) = z := ⟨_, rfl⟩
      have EX2 := Lib.hid ex'
      rw [ex'] at EX ge rb rm
      obtain ⟨one, eo⟩ : ∃ z, G i = z := ⟨_, rfl⟩
      rw [eo] at le ge EF
      have dx : IntKind.u64.wrap (T - x') = T - x' := by rw [IntKind.wrap_u64]; omega
      have CAi := Lib.hid (fun w => CA.out w (T - x') ⟨by omega, by omega⟩)
      obtain ⟨ab0, ab1⟩ := AB.out (T - x') (by omega)
      obtain ⟨av, eav⟩ : ∃ z, atN F L R (T - x') = z := ⟨_, rfl⟩
      rw [eav] at ge CAi ab0 ab1
      have cp := cap_bounds wy.1
      have eY : min Yi 4611686018427387904 = capN Yi := rfl
      obtain ⟨yy, eyy⟩ : ∃ z, capN Yi = z := ⟨_, rfl⟩
      rw [eyy] at eY cp ge
      have PLi := Lib.hid (fun w => plus_b yy av one w ⟨by omega, by omega⟩ ⟨by omega, by omega⟩ ge.symm)
      obtain ⟨fb, efb⟩ : ∃ z, fndB G v i = z := ⟨_, rfl⟩
      rw [efb] at EF ⊢
      obtain ⟨rx, erx⟩ : ∃ z, runX X i = z := ⟨_, rfl⟩
      rw [erx] at EX ⊢
      have K5 : Hid (∀ w', Below wr.heap.size wr w' → (w'.cell? ⟨bA, off + i * 4 + 1, none⟩ = some (.int .u64 Yi) ∧ w'.cell? ⟨w.heap.size, 0, none⟩ = some (.int .u64 F) ∧ w'.cell? ⟨w.heap.size, 1, none⟩ = some (.int .u64 L) ∧ w'.cell? ⟨w.heap.size, 2, none⟩ = some (.int .u64 R)) ∧ Below wr.heap.size wr w') := fun w' hb => ⟨⟨((hb.cell (p := ⟨bA, off + i * 4 + 1, none⟩) hbA2).trans cy), ((Blk.next HC2.out hb).get 0 rfl), ((Blk.next HC2.out hb).get 1 rfl), ((Blk.next HC2.out hb).get 2 rfl)⟩, hb⟩
      clear HC HA cx0 cy0 cy efb erx eo eav eyy ex' eXi eYi ge hbA hbA2 CA AB RB RM RX GE LE2 WX WY EV PF PR TF TR wy cp rb
      have hb10 : Below wr.heap.size wr wr := Below.refl _ _
      go_wp2_with fail
      refine wp_region_noPanic ?_
      refine wp_region_held_drew (S := fun w' => (w'.cell? ⟨bA, off + i * 4 + 1, none⟩ = some (.int .u64 Yi) ∧ w'.cell? ⟨w.heap.size, 0, none⟩ = some (.int .u64 F) ∧ w'.cell? ⟨w.heap.size, 1, none⟩ = some (.int .u64 L) ∧ w'.cell? ⟨w.heap.size, 2, none⟩ = some (.int .u64 R)) ∧ Below wr.heap.size wr w') (by kernel_rfl) (K5.out _ (below_of_drew (Below.refl wr.heap.size wr))) (fun hH => ?_)
      first | (refine wpAnyH_take (i := 0) (v := undef) rfl ?_ ?_ ?_ (fun _ _ _ h => h) ?_ ?_ ?_; kernel_rfl; kernel_rfl; kernel_rfl; exact Or.inr ⟨by rfl, rfl⟩; exact hH) | (refine wpAnyH_take (i := 0) (v := ?_) rfl ?_ ?_ ?_ (fun _ _ _ h => h) ?_ ?_ ?_; rotate_left; kernel_rfl; kernel_rfl; kernel_rfl; (focus (refine Or.inl ⟨by rfl, ?_⟩; intro w' hSw; (try dsimp only at hSw); go_simp)); exact hH) | (refine wpAnyH_take (i := 0) (v := ?_) rfl ?_ ?_ ?_ (fun _ _ _ h => h) ?_ ?_ ?_; rotate_left; kernel_rfl; kernel_rfl; kernel_rfl; (focus (refine Or.inl ⟨by rfl, ?_⟩; intro w' hSw; (try dsimp only at hSw); go_simp; with_reducible rfl)); exact hH)
      try simp only [Act.put, List.getElem_toArray, List.getElem_cons_succ, List.getElem_cons_zero, List.setIfInBounds_toArray, List.set_cons_zero, List.set_cons_succ]
      first | (refine wpAnyH_take (i := 1) (v := undef) rfl ?_ ?_ ?_ (fun _ _ _ h => h) ?_ ?_ ?_; kernel_rfl; kernel_rfl; kernel_rfl; exact Or.inr ⟨by rfl, rfl⟩; exact hH) | (refine wpAnyH_take (i := 1) (v := ?_) rfl ?_ ?_ ?_ (fun _ _ _ h => h) ?_ ?_ ?_; rotate_left; kernel_rfl; kernel_rfl; kernel_rfl; (focus (refine Or.inl ⟨by rfl, ?_⟩; intro w' hSw; (try dsimp only at hSw); go_simp)); exact hH) | (refine wpAnyH_take (i := 1) (v := ?_) rfl ?_ ?_ ?_ (fun _ _ _ h => h) ?_ ?_ ?_; rotate_left; kernel_rfl; kernel_rfl; kernel_rfl; (focus (refine Or.inl ⟨by rfl, ?_⟩; intro w' hSw; (try dsimp only at hSw); go_simp; with_reducible rfl)); exact hH)
      try simp only [Act.put, List.getElem_toArray, List.getElem_cons_succ, List.getElem_cons_zero, List.setIfInBounds_toArray, List.set_cons_zero, List.set_cons_succ]
      first | (refine wpAnyH_take (i := 2) (v := undef) rfl ?_ ?_ ?_ (fun _ _ _ h => h) ?_ ?_ ?_; kernel_rfl; kernel_rfl; kernel_rfl; exact Or.inr ⟨by rfl, rfl⟩; exact hH) | (refine wpAnyH_take (i := 2) (v := ?_) rfl ?_ ?_ ?_ (fun _ _ _ h => h) ?_ ?_ ?_; rotate_left; kernel_rfl; kernel_rfl; kernel_rfl; (focus (refine Or.inl ⟨by rfl, ?_⟩; intro w' hSw; (try dsimp only at hSw); go_simp)); exact hH) | (refine wpAnyH_take (i := 2) (v := ?_) rfl ?_ ?_ ?_ (fun _ _ _ h => h) ?_ ?_ ?_; rotate_left; kernel_rfl; kernel_rfl; kernel_rfl; (focus (refine Or.inl ⟨by rfl, ?_⟩; intro w' hSw; (try dsimp only at hSw); go_simp; with_reducible rfl)); exact hH)
      try simp only [Act.put, List.getElem_toArray, List.getElem_cons_succ, List.getElem_cons_zero, List.setIfInBounds_toArray, List.set_cons_zero, List.set_cons_succ]
      first | (refine wpAnyH_take (i := 3) (v := undef) rfl ?_ ?_ ?_ (fun _ _ _ h => h) ?_ ?_ ?_; kernel_rfl; kernel_rfl; kernel_rfl; exact Or.inr ⟨by rfl, rfl⟩; exact hH) | (refine wpAnyH_take (i := 3) (v := ?_) rfl ?_ ?_ ?_ (fun _ _ _ h => h) ?_ ?_ ?_; rotate_left; kernel_rfl; kernel_rfl; kernel_rfl; (focus (refine Or.inl ⟨by rfl, ?_⟩; intro w' hSw; (try dsimp only at hSw); go_simp)); exact hH) | (refine wpAnyH_take (i := 3) (v := ?_) rfl ?_ ?_ ?_ (fun _ _ _ h => h) ?_ ?_ ?_; rotate_left; kernel_rfl; kernel_rfl; kernel_rfl; (focus (refine Or.inl ⟨by rfl, ?_⟩; intro w' hSw; (try dsimp only at hSw); go_simp; with_reducible rfl)); exact hH)
      try simp only [Act.put, List.getElem_toArray, List.getElem_cons_succ, List.getElem_cons_zero, List.setIfInBounds_toArray, List.set_cons_zero, List.set_cons_succ]
      first | (refine wpAnyH_take (i := 4) (v := undef) rfl ?_ ?_ ?_ (fun _ _ _ h => h) ?_ ?_ ?_; kernel_rfl; kernel_rfl; kernel_rfl; exact Or.inr ⟨by rfl, rfl⟩; exact hH) | (refine wpAnyH_take (i := 4) (v := ?_) rfl ?_ ?_ ?_ (fun _ _ _ h => h) ?_ ?_ ?_; rotate_left; kernel_rfl; kernel_rfl; kernel_rfl; (focus (refine Or.inl ⟨by rfl, ?_⟩; intro w' hSw; (try dsimp only at hSw); go_simp)); exact hH) | (refine wpAnyH_take (i := 4) (v := ?_) rfl ?_ ?_ ?_ (fun _ _ _ h => h) ?_ ?_ ?_; rotate_left; kernel_rfl; kernel_rfl; kernel_rfl; (focus (refine Or.inl ⟨by rfl, ?_⟩; intro w' hSw; (try dsimp only at hSw); go_simp; with_reducible rfl)); exact hH)
      try simp only [Act.put, List.getElem_toArray, List.getElem_cons_succ, List.getElem_cons_zero, List.setIfInBounds_toArray, List.set_cons_zero, List.set_cons_succ]
      first | (refine wpAnyH_take (i := 5) (v := undef) rfl ?_ ?_ ?_ (fun _ _ _ h => h) ?_ ?_ ?_; kernel_rfl; kernel_rfl; kernel_rfl; exact Or.inr ⟨by rfl, rfl⟩; exact hH) | (refine wpAnyH_take (i := 5) (v := ?_) rfl ?_ ?_ ?_ (fun _ _ _ h => h) ?_ ?_ ?_; rotate_left; kernel_rfl; kernel_rfl; kernel_rfl; (focus (refine Or.inl ⟨by rfl, ?_⟩; intro w' hSw; (try dsimp only at hSw); go_simp)); exact hH) | (refine wpAnyH_take (i := 5) (v := ?_) rfl ?_ ?_ ?_ (fun _ _ _ h => h) ?_ ?_ ?_; rotate_left; kernel_rfl; kernel_rfl; kernel_rfl; (focus (refine Or.inl ⟨by rfl, ?_⟩; intro w' hSw; (try dsimp only at hSw); go_simp; with_reducible rfl)); exact hH)
      try simp only [Act.put, List.getElem_toArray, List.getElem_cons_succ, List.getElem_cons_zero, List.setIfInBounds_toArray, List.set_cons_zero, List.set_cons_succ]
      first | (refine wpAnyH_take (i := 6) (v := undef) rfl ?_ ?_ ?_ (fun _ _ _ h => h) ?_ ?_ ?_; kernel_rfl; kernel_rfl; kernel_rfl; exact Or.inr ⟨by rfl, rfl⟩; exact hH) | (refine wpAnyH_take (i := 6) (v := ?_) rfl ?_ ?_ ?_ (fun _ _ _ h => h) ?_ ?_ ?_; rotate_left; kernel_rfl; kernel_rfl; kernel_rfl; (focus (refine Or.inl ⟨by rfl, ?_⟩; intro w' hSw; (try dsimp only at hSw); go_simp)); exact hH) | (refine wpAnyH_take (i := 6) (v := ?_) rfl ?_ ?_ ?_ (fun _ _ _ h => h) ?_ ?_ ?_; rotate_left; kernel_rfl; kernel_rfl; kernel_rfl; (focus (refine Or.inl ⟨by rfl, ?_⟩; intro w' hSw; (try dsimp only at hSw); go_simp; with_reducible rfl)); exact hH)
      try simp only [Act.put, List.getElem_toArray, List.getElem_cons_succ, List.getElem_cons_zero, List.setIfInBounds_toArray, List.set_cons_zero, List.set_cons_succ]
      first | (refine wpAnyH_take (i := 7) (v := undef) rfl ?_ ?_ ?_ (fun _ _ _ h => h) ?_ ?_ ?_; kernel_rfl; kernel_rfl; kernel_rfl; exact Or.inr ⟨by rfl, rfl⟩; exact hH) | (refine wpAnyH_take (i := 7) (v := ?_) rfl ?_ ?_ ?_ (fun _ _ _ h => h) ?_ ?_ ?_; rotate_left; kernel_rfl; kernel_rfl; kernel_rfl; (focus (refine Or.inl ⟨by rfl, ?_⟩; intro w' hSw; (try dsimp only at hSw); go_simp)); exact hH) | (refine wpAnyH_take (i := 7) (v := ?_) rfl ?_ ?_ ?_ (fun _ _ _ h => h) ?_ ?_ ?_; rotate_left; kernel_rfl; kernel_rfl; kernel_rfl; (focus (refine Or.inl ⟨by rfl, ?_⟩; intro w' hSw; (try dsimp only at hSw); go_simp; with_reducible rfl)); exact hH)
      try simp only [Act.put, List.getElem_toArray, List.getElem_cons_succ, List.getElem_cons_zero, List.setIfInBounds_toArray, List.set_cons_zero, List.set_cons_succ]
      first | (refine wpAnyH_take (i := 8) (v := undef) rfl ?_ ?_ ?_ (fun _ _ _ h => h) ?_ ?_ ?_; kernel_rfl; kernel_rfl; kernel_rfl; exact Or.inr ⟨by rfl, rfl⟩; exact hH) | (refine wpAnyH_take (i := 8) (v := ?_) rfl ?_ ?_ ?_ (fun _ _ _ h => h) ?_ ?_ ?_; rotate_left; kernel_rfl; kernel_rfl; kernel_rfl; (focus (refine Or.inl ⟨by rfl, ?_⟩; intro w' hSw; (try dsimp only at hSw); go_simp)); exact hH) | (refine wpAnyH_take (i := 8) (v := ?_) rfl ?_ ?_ ?_ (fun _ _ _ h => h) ?_ ?_ ?_; rotate_left; kernel_rfl; kernel_rfl; kernel_rfl; (focus (refine Or.inl ⟨by rfl, ?_⟩; intro w' hSw; (try dsimp only at hSw); go_simp; with_reducible rfl)); exact hH)
      try simp only [Act.put, List.getElem_toArray, List.getElem_cons_succ, List.getElem_cons_zero, List.setIfInBounds_toArray, List.set_cons_zero, List.set_cons_succ]
      first | (refine wpAnyH_take (i := 9) (v := undef) rfl ?_ ?_ ?_ (fun _ _ _ h => h) ?_ ?_ ?_; kernel_rfl; kernel_rfl; kernel_rfl; exact Or.inr ⟨by rfl, rfl⟩; exact hH) | (refine wpAnyH_take (i := 9) (v := ?_) rfl ?_ ?_ ?_ (fun _ _ _ h => h) ?_ ?_ ?_; rotate_left; kernel_rfl; kernel_rfl; kernel_rfl; (focus (refine Or.inl ⟨by rfl, ?_⟩; intro w' hSw; (try dsimp only at hSw); go_simp)); exact hH) | (refine wpAnyH_take (i := 9) (v := ?_) rfl ?_ ?_ ?_ (fun _ _ _ h => h) ?_ ?_ ?_; rotate_left; kernel_rfl; kernel_rfl; kernel_rfl; (focus (refine Or.inl ⟨by rfl, ?_⟩; intro w' hSw; (try dsimp only at hSw); go_simp; with_reducible rfl)); exact hH)
      try simp only [Act.put, List.getElem_toArray, List.getElem_cons_succ, List.getElem_cons_zero, List.setIfInBounds_toArray, List.set_cons_zero, List.set_cons_succ]
      refine wpAnyH_ready (rs := [10]) (by kernel_rfl) (by simp) ?_
      refine AllReadyH.cons rfl (fun K hK => ?_) AllReadyH.nil
      go_simp
      with_reducible refine (CAi.out _).mono ?_
      rintro e w11 ⟨rfl, hb11'⟩
      have hb11 : Below wr.heap.size wr w11 := below_next hH.2 hb11'
      try go_wp2_with fail
      refine hK.out _ _ (K5.out _ hb11) (fun hH11 => ?_)
      clear hK K hH
      have hH := hH11
      clear hH11
      try simp only [Act.put, List.getElem_toArray, List.getElem_cons_succ, List.getElem_cons_zero, List.setIfInBounds_toArray, List.set_cons_zero, List.set_cons_succ]
      refine wpAnyH_ready (rs := [11]) (by kernel_rfl) (by simp) ?_
      refine AllReadyH.cons rfl (fun K hK => ?_) AllReadyH.nil
      go_simp
      with_reducible refine (PLi.out _).mono ?_
      rintro e w12 ⟨rfl, hb12'⟩
      have hb12 : Below wr.heap.size wr w12 := below_next hH.2 hb12'
      try go_wp2_with fail
      refine hK.out _ _ (K5.out _ hb12) (fun hH12 => ?_)
      clear hK K hH
      have hH := hH12
      clear hH12
      try simp only [Act.put, List.getElem_toArray, List.getElem_cons_succ, List.getElem_cons_zero, List.setIfInBounds_toArray, List.set_cons_zero, List.set_cons_succ]
      first | (refine wpAnyH_take (i := 12) (v := undef) rfl ?_ ?_ ?_ (fun _ _ _ h => h) ?_ ?_ ?_; kernel_rfl; kernel_rfl; kernel_rfl; exact Or.inr ⟨by rfl, rfl⟩; exact hH) | (refine wpAnyH_take (i := 12) (v := ?_) rfl ?_ ?_ ?_ (fun _ _ _ h => h) ?_ ?_ ?_; rotate_left; kernel_rfl; kernel_rfl; kernel_rfl; (focus (refine Or.inl ⟨by rfl, ?_⟩; intro w' hSw; (try dsimp only at hSw); go_simp)); exact hH) | (refine wpAnyH_take (i := 12) (v := ?_) rfl ?_ ?_ ?_ (fun _ _ _ h => h) ?_ ?_ ?_; rotate_left; kernel_rfl; kernel_rfl; kernel_rfl; (focus (refine Or.inl ⟨by rfl, ?_⟩; intro w' hSw; (try dsimp only at hSw); go_simp; with_reducible rfl)); exact hH)
      try simp only [Act.put, List.getElem_toArray, List.getElem_cons_succ, List.getElem_cons_zero, List.setIfInBounds_toArray, List.set_cons_zero, List.set_cons_succ]
      refine wpAnyH_done (by kernel_rfl) ?_ _
      refine NoPanic.normal ?_
      clear hH
      go_wp2_with fail
      all_goals
        go_roundg gm
        case rel => exact ⟨i + 1, by omega, by go_num, by rw [EX2.out], by rw [EF.out]; simp [*], HQ.out.next hb12, HC2.out.next hb12, below_next HB.out hb12⟩
        case measure => omega
    · obtain rfl : gk = 0 := by omega
      obtain rfl : i = n := by omega
      have e1 := EXN.out
      have e2 := HFN.out
      rw [e1, e2]
      have exx : (x == x) = true := by simp
      clear e1 e2 EXN HFN RX RB RM GE LE2
      have Cb : Blk wr (w.heap.size) 24 #[.int .u64 F, .int .u64 L, .int .u64 R] := HC2.out
      have Cc0 : World.cell? wr ⟨w.heap.size, 0, none⟩ = some (.int .u64 F) := Cb.get 0 rfl
      have Cf0 := Blk.frozen Cb 0
      have Cc1 : World.cell? wr ⟨w.heap.size, 1, none⟩ = some (.int .u64 L) := Cb.get 1 rfl
      have Cf1 := Blk.frozen Cb 1
      have Cc2 : World.cell? wr ⟨w.heap.size, 2, none⟩ = some (.int .u64 R) := Cb.get 2 rfl
      have Cf2 := Blk.frozen Cb 2
      have Cn := Blk.lt Cb
      have HB0 := HB.out
      have B10 : Below wr.heap.size wr wr := Below.refl _ _
      go_wp2_with fail
      with_reducible refine (LI.out _ _ HQ.out).mono ?_
      rintro e w11 ⟨rfl, hb11⟩
      have Cm : Blk w11 (w.heap.size) 24 #[.int .u64 F, .int .u64 L, .int .u64 R] := Blk.next (by repeat (first | (with_reducible exact Cb) | (refine Blk.new_at ?_; simp only [World.size_alloc]; done) | (with_reducible refine Blk.alloc ?_ _) | (with_reducible refine Blk.drewN ?_ _))) hb11
      clear Cn Cb Cc0 Cf0 Cc1 Cf1 Cc2 Cf2
      have Cb := Cm
      clear Cm
      have Cc0 : World.cell? w11 ⟨w.heap.size, 0, none⟩ = some (.int .u64 F) := Cb.get 0 rfl
      have Cf0 := Blk.frozen Cb 0
      have Cc1 : World.cell? w11 ⟨w.heap.size, 1, none⟩ = some (.int .u64 L) := Cb.get 1 rfl
      have Cf1 := Blk.frozen Cb 1
      have Cc2 : World.cell? w11 ⟨w.heap.size, 2, none⟩ = some (.int .u64 R) := Cb.get 2 rfl
      have Cf2 := Blk.frozen Cb 2
      have Cn := Blk.lt Cb
      replace HQ := Lib.hid (HQ.out.next hb11)
      have B11 : Below wr.heap.size wr w11 := by first | with_reducible exact below_next B10 hb11 | exact below_step B10 (by go_grown) hb11
      clear hb11 B10
      go_wp2_with fail
      refine wp_region_noPanic ?_
      refine wp_region_held_drew (S := fun w' => (w'.cell? ⟨w.heap.size, 0, none⟩ = some (.int .u64 F) ∧ w'.cell? ⟨w.heap.size, 1, none⟩ = some (.int .u64 L) ∧ w'.cell? ⟨w.heap.size, 2, none⟩ = some (.int .u64 R)) ∧ (Blk w' (w.heap.size) 24 #[.int .u64 F, .int .u64 L, .int .u64 R]) ∧ Below wr.heap.size wr w') (by kernel_rfl) ((fun (h : (Blk _ (w.heap.size) 24 #[.int .u64 F, .int .u64 L, .int .u64 R]) ∧ Below wr.heap.size wr _) => ⟨⟨h.1.get 0 rfl, h.1.get 1 rfl, h.1.get 2 rfl⟩, h.1, h.2⟩) ⟨(by repeat (first | (with_reducible exact Cb) | (refine Blk.new_at ?_; simp only [World.size_alloc]; done) | (with_reducible refine Blk.alloc ?_ _) | (with_reducible refine Blk.drew ?_) | (with_reducible refine Blk.drewN ?_ _))), (by first | (with_reducible exact below_of_drew B11) | exact below_next B11 (by go_grown))⟩) (fun hH => ?_)
      first | (refine wpAnyH_take (i := 0) (v := undef) rfl ?_ ?_ ?_ (fun _ _ _ h => h) ?_ ?_ ?_; kernel_rfl; kernel_rfl; kernel_rfl; exact Or.inr ⟨by rfl, rfl⟩; exact hH) | (refine wpAnyH_take (i := 0) (v := ?_) rfl ?_ ?_ ?_ (fun _ _ _ h => h) ?_ ?_ ?_; rotate_left; kernel_rfl; kernel_rfl; kernel_rfl; (focus (refine Or.inl ⟨by rfl, ?_⟩; intro w' hSw; (try dsimp only at hSw); go_simp)); exact hH) | (refine wpAnyH_take (i := 0) (v := ?_) rfl ?_ ?_ ?_ (fun _ _ _ h => h) ?_ ?_ ?_; rotate_left; kernel_rfl; kernel_rfl; kernel_rfl; (focus (refine Or.inl ⟨by rfl, ?_⟩; intro w' hSw; (try dsimp only at hSw); go_simp; with_reducible rfl)); exact hH)
      try simp only [Act.put, List.getElem_toArray, List.getElem_cons_succ, List.getElem_cons_zero, List.setIfInBounds_toArray, List.set_cons_zero, List.set_cons_succ]
      first | (refine wpAnyH_take (i := 1) (v := undef) rfl ?_ ?_ ?_ (fun _ _ _ h => h) ?_ ?_ ?_; kernel_rfl; kernel_rfl; kernel_rfl; exact Or.inr ⟨by rfl, rfl⟩; exact hH) | (refine wpAnyH_take (i := 1) (v := ?_) rfl ?_ ?_ ?_ (fun _ _ _ h => h) ?_ ?_ ?_; rotate_left; kernel_rfl; kernel_rfl; kernel_rfl; (focus (refine Or.inl ⟨by rfl, ?_⟩; intro w' hSw; (try dsimp only at hSw); go_simp)); exact hH) | (refine wpAnyH_take (i := 1) (v := ?_) rfl ?_ ?_ ?_ (fun _ _ _ h => h) ?_ ?_ ?_; rotate_left; kernel_rfl; kernel_rfl; kernel_rfl; (focus (refine Or.inl ⟨by rfl, ?_⟩; intro w' hSw; (try dsimp only at hSw); go_simp; with_reducible rfl)); exact hH)
      try simp only [Act.put, List.getElem_toArray, List.getElem_cons_succ, List.getElem_cons_zero, List.setIfInBounds_toArray, List.set_cons_zero, List.set_cons_succ]
      first | (refine wpAnyH_take (i := 2) (v := undef) rfl ?_ ?_ ?_ (fun _ _ _ h => h) ?_ ?_ ?_; kernel_rfl; kernel_rfl; kernel_rfl; exact Or.inr ⟨by rfl, rfl⟩; exact hH) | (refine wpAnyH_take (i := 2) (v := ?_) rfl ?_ ?_ ?_ (fun _ _ _ h => h) ?_ ?_ ?_; rotate_left; kernel_rfl; kernel_rfl; kernel_rfl; (focus (refine Or.inl ⟨by rfl, ?_⟩; intro w' hSw; (try dsimp only at hSw); go_simp)); exact hH) | (refine wpAnyH_take (i := 2) (v := ?_) rfl ?_ ?_ ?_ (fun _ _ _ h => h) ?_ ?_ ?_; rotate_left; kernel_rfl; kernel_rfl; kernel_rfl; (focus (refine Or.inl ⟨by rfl, ?_⟩; intro w' hSw; (try dsimp only at hSw); go_simp; with_reducible rfl)); exact hH)
      try simp only [Act.put, List.getElem_toArray, List.getElem_cons_succ, List.getElem_cons_zero, List.setIfInBounds_toArray, List.set_cons_zero, List.set_cons_succ]
      first | (refine wpAnyH_take (i := 3) (v := undef) rfl ?_ ?_ ?_ (fun _ _ _ h => h) ?_ ?_ ?_; kernel_rfl; kernel_rfl; kernel_rfl; exact Or.inr ⟨by rfl, rfl⟩; exact hH) | (refine wpAnyH_take (i := 3) (v := ?_) rfl ?_ ?_ ?_ (fun _ _ _ h => h) ?_ ?_ ?_; rotate_left; kernel_rfl; kernel_rfl; kernel_rfl; (focus (refine Or.inl ⟨by rfl, ?_⟩; intro w' hSw; (try dsimp only at hSw); go_simp)); exact hH) | (refine wpAnyH_take (i := 3) (v := ?_) rfl ?_ ?_ ?_ (fun _ _ _ h => h) ?_ ?_ ?_; rotate_left; kernel_rfl; kernel_rfl; kernel_rfl; (focus (refine Or.inl ⟨by rfl, ?_⟩; intro w' hSw; (try dsimp only at hSw); go_simp; with_reducible rfl)); exact hH)
      try simp only [Act.put, List.getElem_toArray, List.getElem_cons_succ, List.getElem_cons_zero, List.setIfInBounds_toArray, List.set_cons_zero, List.set_cons_succ]
      first | (refine wpAnyH_take (i := 4) (v := undef) rfl ?_ ?_ ?_ (fun _ _ _ h => h) ?_ ?_ ?_; kernel_rfl; kernel_rfl; kernel_rfl; exact Or.inr ⟨by rfl, rfl⟩; exact hH) | (refine wpAnyH_take (i := 4) (v := ?_) rfl ?_ ?_ ?_ (fun _ _ _ h => h) ?_ ?_ ?_; rotate_left; kernel_rfl; kernel_rfl; kernel_rfl; (focus (refine Or.inl ⟨by rfl, ?_⟩; intro w' hSw; (try dsimp only at hSw); go_simp)); exact hH) | (refine wpAnyH_take (i := 4) (v := ?_) rfl ?_ ?_ ?_ (fun _ _ _ h => h) ?_ ?_ ?_; rotate_left; kernel_rfl; kernel_rfl; kernel_rfl; (focus (refine Or.inl ⟨by rfl, ?_⟩; intro w' hSw; (try dsimp only at hSw); go_simp; with_reducible rfl)); exact hH)
      try simp only [Act.put, List.getElem_toArray, List.getElem_cons_succ, List.getElem_cons_zero, List.setIfInBounds_toArray, List.set_cons_zero, List.set_cons_succ]
      first | (refine wpAnyH_take (i := 5) (v := undef) rfl ?_ ?_ ?_ (fun _ _ _ h => h) ?_ ?_ ?_; kernel_rfl; kernel_rfl; kernel_rfl; exact Or.inr ⟨by rfl, rfl⟩; exact hH) | (refine wpAnyH_take (i := 5) (v := ?_) rfl ?_ ?_ ?_ (fun _ _ _ h => h) ?_ ?_ ?_; rotate_left; kernel_rfl; kernel_rfl; kernel_rfl; (focus (refine Or.inl ⟨by rfl, ?_⟩; intro w' hSw; (try dsimp only at hSw); go_simp)); exact hH) | (refine wpAnyH_take (i := 5) (v := ?_) rfl ?_ ?_ ?_ (fun _ _ _ h => h) ?_ ?_ ?_; rotate_left; kernel_rfl; kernel_rfl; kernel_rfl; (focus (refine Or.inl ⟨by rfl, ?_⟩; intro w' hSw; (try dsimp only at hSw); go_simp; with_reducible rfl)); exact hH)
      try simp only [Act.put, List.getElem_toArray, List.getElem_cons_succ, List.getElem_cons_zero, List.setIfInBounds_toArray, List.set_cons_zero, List.set_cons_succ]
      first | (refine wpAnyH_take (i := 6) (v := undef) rfl ?_ ?_ ?_ (fun _ _ _ h => h) ?_ ?_ ?_; kernel_rfl; kernel_rfl; kernel_rfl; exact Or.inr ⟨by rfl, rfl⟩; exact hH) | (refine wpAnyH_take (i := 6) (v := ?_) rfl ?_ ?_ ?_ (fun _ _ _ h => h) ?_ ?_ ?_; rotate_left; kernel_rfl; kernel_rfl; kernel_rfl; (focus (refine Or.inl ⟨by rfl, ?_⟩; intro w' hSw; (try dsimp only at hSw); go_simp)); exact hH) | (refine wpAnyH_take (i := 6) (v := ?_) rfl ?_ ?_ ?_ (fun _ _ _ h => h) ?_ ?_ ?_; rotate_left; kernel_rfl; kernel_rfl; kernel_rfl; (focus (refine Or.inl ⟨by rfl, ?_⟩; intro w' hSw; (try dsimp only at hSw); go_simp; with_reducible rfl)); exact hH)
      try simp only [Act.put, List.getElem_toArray, List.getElem_cons_succ, List.getElem_cons_zero, List.setIfInBounds_toArray, List.set_cons_zero, List.set_cons_succ]
      first | (refine wpAnyH_take (i := 7) (v := undef) rfl ?_ ?_ ?_ (fun _ _ _ h => h) ?_ ?_ ?_; kernel_rfl; kernel_rfl; kernel_rfl; exact Or.inr ⟨by rfl, rfl⟩; exact hH) | (refine wpAnyH_take (i := 7) (v := ?_) rfl ?_ ?_ ?_ (fun _ _ _ h => h) ?_ ?_ ?_; rotate_left; kernel_rfl; kernel_rfl; kernel_rfl; (focus (refine Or.inl ⟨by rfl, ?_⟩; intro w' hSw; (try dsimp only at hSw); go_simp)); exact hH) | (refine wpAnyH_take (i := 7) (v := ?_) rfl ?_ ?_ ?_ (fun _ _ _ h => h) ?_ ?_ ?_; rotate_left; kernel_rfl; kernel_rfl; kernel_rfl; (focus (refine Or.inl ⟨by rfl, ?_⟩; intro w' hSw; (try dsimp only at hSw); go_simp; with_reducible rfl)); exact hH)
      try simp only [Act.put, List.getElem_toArray, List.getElem_cons_succ, List.getElem_cons_zero, List.setIfInBounds_toArray, List.set_cons_zero, List.set_cons_succ]
      first | (refine wpAnyH_take (i := 8) (v := undef) rfl ?_ ?_ ?_ (fun _ _ _ h => h) ?_ ?_ ?_; kernel_rfl; kernel_rfl; kernel_rfl; exact Or.inr ⟨by rfl, rfl⟩; exact hH) | (refine wpAnyH_take (i := 8) (v := ?_) rfl ?_ ?_ ?_ (fun _ _ _ h => h) ?_ ?_ ?_; rotate_left; kernel_rfl; kernel_rfl; kernel_rfl; (focus (refine Or.inl ⟨by rfl, ?_⟩; intro w' hSw; (try dsimp only at hSw); go_simp)); exact hH) | (refine wpAnyH_take (i := 8) (v := ?_) rfl ?_ ?_ ?_ (fun _ _ _ h => h) ?_ ?_ ?_; rotate_left; kernel_rfl; kernel_rfl; kernel_rfl; (focus (refine Or.inl ⟨by rfl, ?_⟩; intro w' hSw; (try dsimp only at hSw); go_simp; with_reducible rfl)); exact hH)
      try simp only [Act.put, List.getElem_toArray, List.getElem_cons_succ, List.getElem_cons_zero, List.setIfInBounds_toArray, List.set_cons_zero, List.set_cons_succ]
      first | (refine wpAnyH_take (i := 9) (v := undef) rfl ?_ ?_ ?_ (fun _ _ _ h => h) ?_ ?_ ?_; kernel_rfl; kernel_rfl; kernel_rfl; exact Or.inr ⟨by rfl, rfl⟩; exact hH) | (refine wpAnyH_take (i := 9) (v := ?_) rfl ?_ ?_ ?_ (fun _ _ _ h => h) ?_ ?_ ?_; rotate_left; kernel_rfl; kernel_rfl; kernel_rfl; (focus (refine Or.inl ⟨by rfl, ?_⟩; intro w' hSw; (try dsimp only at hSw); go_simp)); exact hH) | (refine wpAnyH_take (i := 9) (v := ?_) rfl ?_ ?_ ?_ (fun _ _ _ h => h) ?_ ?_ ?_; rotate_left; kernel_rfl; kernel_rfl; kernel_rfl; (focus (refine Or.inl ⟨by rfl, ?_⟩; intro w' hSw; (try dsimp only at hSw); go_simp; with_reducible rfl)); exact hH)
      try simp only [Act.put, List.getElem_toArray, List.getElem_cons_succ, List.getElem_cons_zero, List.setIfInBounds_toArray, List.set_cons_zero, List.set_cons_succ]
      first | (refine wpAnyH_take (i := 10) (v := undef) rfl ?_ ?_ ?_ (fun _ _ _ h => h) ?_ ?_ ?_; kernel_rfl; kernel_rfl; kernel_rfl; exact Or.inr ⟨by rfl, rfl⟩; exact hH) | (refine wpAnyH_take (i := 10) (v := ?_) rfl ?_ ?_ ?_ (fun _ _ _ h => h) ?_ ?_ ?_; rotate_left; kernel_rfl; kernel_rfl; kernel_rfl; (focus (refine Or.inl ⟨by rfl, ?_⟩; intro w' hSw; (try dsimp only at hSw); go_simp)); exact hH) | (refine wpAnyH_take (i := 10) (v := ?_) rfl ?_ ?_ ?_ (fun _ _ _ h => h) ?_ ?_ ?_; rotate_left; kernel_rfl; kernel_rfl; kernel_rfl; (focus (refine Or.inl ⟨by rfl, ?_⟩; intro w' hSw; (try dsimp only at hSw); go_simp; with_reducible rfl)); exact hH)
      try simp only [Act.put, List.getElem_toArray, List.getElem_cons_succ, List.getElem_cons_zero, List.setIfInBounds_toArray, List.set_cons_zero, List.set_cons_succ]
      first | (refine wpAnyH_take (i := 11) (v := undef) rfl ?_ ?_ ?_ (fun _ _ _ h => h) ?_ ?_ ?_; kernel_rfl; kernel_rfl; kernel_rfl; exact Or.inr ⟨by rfl, rfl⟩; exact hH) | (refine wpAnyH_take (i := 11) (v := ?_) rfl ?_ ?_ ?_ (fun _ _ _ h => h) ?_ ?_ ?_; rotate_left; kernel_rfl; kernel_rfl; kernel_rfl; (focus (refine Or.inl ⟨by rfl, ?_⟩; intro w' hSw; (try dsimp only at hSw); go_simp)); exact hH) | (refine wpAnyH_take (i := 11) (v := ?_) rfl ?_ ?_ ?_ (fun _ _ _ h => h) ?_ ?_ ?_; rotate_left; kernel_rfl; kernel_rfl; kernel_rfl; (focus (refine Or.inl ⟨by rfl, ?_⟩; intro w' hSw; (try dsimp only at hSw); go_simp; with_reducible rfl)); exact hH)
      try simp only [Act.put, List.getElem_toArray, List.getElem_cons_succ, List.getElem_cons_zero, List.setIfInBounds_toArray, List.set_cons_zero, List.set_cons_succ]
      first | (refine wpAnyH_take (i := 14) (v := undef) rfl ?_ ?_ ?_ (fun _ _ _ h => h) ?_ ?_ ?_; kernel_rfl; kernel_rfl; kernel_rfl; exact Or.inr ⟨by rfl, rfl⟩; exact hH) | (refine wpAnyH_take (i := 14) (v := ?_) rfl ?_ ?_ ?_ (fun _ _ _ h => h) ?_ ?_ ?_; rotate_left; kernel_rfl; kernel_rfl; kernel_rfl; (focus (refine Or.inl ⟨by rfl, ?_⟩; intro w' hSw; (try dsimp only at hSw); go_simp)); exact hH) | (refine wpAnyH_take (i := 14) (v := ?_) rfl ?_ ?_ ?_ (fun _ _ _ h => h) ?_ ?_ ?_; rotate_left; kernel_rfl; kernel_rfl; kernel_rfl; (focus (refine Or.inl ⟨by rfl, ?_⟩; intro w' hSw; (try dsimp only at hSw); go_simp; with_reducible rfl)); exact hH)
      try simp only [Act.put, List.getElem_toArray, List.getElem_cons_succ, List.getElem_cons_zero, List.setIfInBounds_toArray, List.set_cons_zero, List.set_cons_succ]
      first | (refine wpAnyH_take (i := 15) (v := undef) rfl ?_ ?_ ?_ (fun _ _ _ h => h) ?_ ?_ ?_; kernel_rfl; kernel_rfl; kernel_rfl; exact Or.inr ⟨by rfl, rfl⟩; exact hH) | (refine wpAnyH_take (i := 15) (v := ?_) rfl ?_ ?_ ?_ (fun _ _ _ h => h) ?_ ?_ ?_; rotate_left; kernel_rfl; kernel_rfl; kernel_rfl; (focus (refine Or.inl ⟨by rfl, ?_⟩; intro w' hSw; (try dsimp only at hSw); go_simp)); exact hH) | (refine wpAnyH_take (i := 15) (v := ?_) rfl ?_ ?_ ?_ (fun _ _ _ h => h) ?_ ?_ ?_; rotate_left; kernel_rfl; kernel_rfl; kernel_rfl; (focus (refine Or.inl ⟨by rfl, ?_⟩; intro w' hSw; (try dsimp only at hSw); go_simp; with_reducible rfl)); exact hH)
      try simp only [Act.put, List.getElem_toArray, List.getElem_cons_succ, List.getElem_cons_zero, List.setIfInBounds_toArray, List.set_cons_zero, List.set_cons_succ]
      first | (refine wpAnyH_take (i := 16) (v := undef) rfl ?_ ?_ ?_ (fun _ _ _ h => h) ?_ ?_ ?_; kernel_rfl; kernel_rfl; kernel_rfl; exact Or.inr ⟨by rfl, rfl⟩; exact hH) | (refine wpAnyH_take (i := 16) (v := ?_) rfl ?_ ?_ ?_ (fun _ _ _ h => h) ?_ ?_ ?_; rotate_left; kernel_rfl; kernel_rfl; kernel_rfl; (focus (refine Or.inl ⟨by rfl, ?_⟩; intro w' hSw; (try dsimp only at hSw); go_simp)); exact hH) | (refine wpAnyH_take (i := 16) (v := ?_) rfl ?_ ?_ ?_ (fun _ _ _ h => h) ?_ ?_ ?_; rotate_left; kernel_rfl; kernel_rfl; kernel_rfl; (focus (refine Or.inl ⟨by rfl, ?_⟩; intro w' hSw; (try dsimp only at hSw); go_simp; with_reducible rfl)); exact hH)
      try simp only [Act.put, List.getElem_toArray, List.getElem_cons_succ, List.getElem_cons_zero, List.setIfInBounds_toArray, List.set_cons_zero, List.set_cons_succ]
      first | (refine wpAnyH_take (i := 17) (v := undef) rfl ?_ ?_ ?_ (fun _ _ _ h => h) ?_ ?_ ?_; kernel_rfl; kernel_rfl; kernel_rfl; exact Or.inr ⟨by rfl, rfl⟩; exact hH) | (refine wpAnyH_take (i := 17) (v := ?_) rfl ?_ ?_ ?_ (fun _ _ _ h => h) ?_ ?_ ?_; rotate_left; kernel_rfl; kernel_rfl; kernel_rfl; (focus (refine Or.inl ⟨by rfl, ?_⟩; intro w' hSw; (try dsimp only at hSw); go_simp)); exact hH) | (refine wpAnyH_take (i := 17) (v := ?_) rfl ?_ ?_ ?_ (fun _ _ _ h => h) ?_ ?_ ?_; rotate_left; kernel_rfl; kernel_rfl; kernel_rfl; (focus (refine Or.inl ⟨by rfl, ?_⟩; intro w' hSw; (try dsimp only at hSw); go_simp; with_reducible rfl)); exact hH)
      try simp only [Act.put, List.getElem_toArray, List.getElem_cons_succ, List.getElem_cons_zero, List.setIfInBounds_toArray, List.set_cons_zero, List.set_cons_succ]
      refine wpAnyH_ready (rs := [12]) (by kernel_rfl) (by simp) ?_
      refine AllReadyH.cons rfl (fun K hK => ?_) AllReadyH.nil
      go_simp
      with_reducible refine (TF.out _).mono ?_
      rintro e w12 ⟨rfl, hb12⟩
      try go_wp2_with fail
      refine hK.out _ _ ((fun h => ⟨⟨(Blk.next h.2.1 hb12).get 0 rfl, (Blk.next h.2.1 hb12).get 1 rfl, (Blk.next h.2.1 hb12).get 2 rfl⟩, Blk.next h.2.1 hb12, below_next h.2.2 hb12⟩) hH) (fun hH12 => ?_)
      clear hK K hH hb12
      have hH := hH12
      clear hH12
      try simp only [Act.put, List.getElem_toArray, List.getElem_cons_succ, List.getElem_cons_zero, List.setIfInBounds_toArray, List.set_cons_zero, List.set_cons_succ]
      refine wpAnyH_ready (rs := [13]) (by kernel_rfl) (by simp) ?_
      refine AllReadyH.cons rfl (fun K hK => ?_) AllReadyH.nil
      go_simp
      with_reducible refine (PF.out _).mono ?_
      rintro e w13 ⟨rfl, hb13⟩
      try go_wp2_with fail
      refine hK.out _ _ ((fun h => ⟨⟨(Blk.next h.2.1 hb13).get 0 rfl, (Blk.next h.2.1 hb13).get 1 rfl, (Blk.next h.2.1 hb13).get 2 rfl⟩, Blk.next h.2.1 hb13, below_next h.2.2 hb13⟩) hH) (fun hH13 => ?_)
      clear hK K hH hb13
      have hH := hH13
      clear hH13
      try simp only [Act.put, List.getElem_toArray, List.getElem_cons_succ, List.getElem_cons_zero, List.setIfInBounds_toArray, List.set_cons_zero, List.set_cons_succ]
      refine wpAnyH_ready (rs := [18]) (by kernel_rfl) (by simp) ?_
      refine AllReadyH.cons rfl (fun K hK => ?_) AllReadyH.nil
      go_simp
      with_reducible refine (TR.out _).mono ?_
      rintro e w14 ⟨rfl, hb14⟩
      try go_wp2_with fail
      refine hK.out _ _ ((fun h => ⟨⟨(Blk.next h.2.1 hb14).get 0 rfl, (Blk.next h.2.1 hb14).get 1 rfl, (Blk.next h.2.1 hb14).get 2 rfl⟩, Blk.next h.2.1 hb14, below_next h.2.2 hb14⟩) hH) (fun hH14 => ?_)
      clear hK K hH hb14
      have hH := hH14
      clear hH14
      try simp only [Act.put, List.getElem_toArray, List.getElem_cons_succ, List.getElem_cons_zero, List.setIfInBounds_toArray, List.set_cons_zero, List.set_cons_succ]
      refine wpAnyH_ready (rs := [19]) (by kernel_rfl) (by simp) ?_
      refine AllReadyH.cons rfl (fun K hK => ?_) AllReadyH.nil
      go_simp
      with_reducible refine (PR.out _).mono ?_
      rintro e w15 ⟨rfl, hb15⟩
      try go_wp2_with fail
      refine hK.out _ _ ((fun h => ⟨⟨(Blk.next h.2.1 hb15).get 0 rfl, (Blk.next h.2.1 hb15).get 1 rfl, (Blk.next h.2.1 hb15).get 2 rfl⟩, Blk.next h.2.1 hb15, below_next h.2.2 hb15⟩) hH) (fun hH15 => ?_)
      clear hK K hH hb15
      have hH := hH15
      clear hH15
      try simp only [Act.put, List.getElem_toArray, List.getElem_cons_succ, List.getElem_cons_zero, List.setIfInBounds_toArray, List.set_cons_zero, List.set_cons_succ]
      first | (refine wpAnyH_take (i := 20) (v := undef) rfl ?_ ?_ ?_ (fun _ _ _ h => h) ?_ ?_ ?_; kernel_rfl; kernel_rfl; kernel_rfl; exact Or.inr ⟨by rfl, rfl⟩; exact hH) | (refine wpAnyH_take (i := 20) (v := ?_) rfl ?_ ?_ ?_ (fun _ _ _ h => h) ?_ ?_ ?_; rotate_left; kernel_rfl; kernel_rfl; kernel_rfl; (focus (refine Or.inl ⟨by rfl, ?_⟩; intro w' hSw; (try dsimp only at hSw); go_simp)); exact hH) | (refine wpAnyH_take (i := 20) (v := ?_) rfl ?_ ?_ ?_ (fun _ _ _ h => h) ?_ ?_ ?_; rotate_left; kernel_rfl; kernel_rfl; kernel_rfl; (focus (refine Or.inl ⟨by rfl, ?_⟩; intro w' hSw; (try dsimp only at hSw); go_simp; with_reducible rfl)); exact hH)
      try simp only [Act.put, List.getElem_toArray, List.getElem_cons_succ, List.getElem_cons_zero, List.setIfInBounds_toArray, List.set_cons_zero, List.set_cons_succ]
      first | (refine wpAnyH_take (i := 21) (v := undef) rfl ?_ ?_ ?_ (fun _ _ _ h => h) ?_ ?_ ?_; kernel_rfl; kernel_rfl; kernel_rfl; exact Or.inr ⟨by rfl, rfl⟩; exact hH) | (refine wpAnyH_take (i := 21) (v := ?_) rfl ?_ ?_ ?_ (fun _ _ _ h => h) ?_ ?_ ?_; rotate_left; kernel_rfl; kernel_rfl; kernel_rfl; (focus (refine Or.inl ⟨by rfl, ?_⟩; intro w' hSw; (try dsimp only at hSw); go_simp)); exact hH) | (refine wpAnyH_take (i := 21) (v := ?_) rfl ?_ ?_ ?_ (fun _ _ _ h => h) ?_ ?_ ?_; rotate_left; kernel_rfl; kernel_rfl; kernel_rfl; (focus (refine Or.inl ⟨by rfl, ?_⟩; intro w' hSw; (try dsimp only at hSw); go_simp; with_reducible rfl)); exact hH)
      try simp only [Act.put, List.getElem_toArray, List.getElem_cons_succ, List.getElem_cons_zero, List.setIfInBounds_toArray, List.set_cons_zero, List.set_cons_succ]
      first | (refine wpAnyH_take (i := 22) (v := undef) rfl ?_ ?_ ?_ (fun _ _ _ h => h) ?_ ?_ ?_; kernel_rfl; kernel_rfl; kernel_rfl; exact Or.inr ⟨by rfl, rfl⟩; exact hH) | (refine wpAnyH_take (i := 22) (v := ?_) rfl ?_ ?_ ?_ (fun _ _ _ h => h) ?_ ?_ ?_; rotate_left; kernel_rfl; kernel_rfl; kernel_rfl; (focus (refine Or.inl ⟨by rfl, ?_⟩; intro w' hSw; (try dsimp only at hSw); go_simp)); exact hH) | (refine wpAnyH_take (i := 22) (v := ?_) rfl ?_ ?_ ?_ (fun _ _ _ h => h) ?_ ?_ ?_; rotate_left; kernel_rfl; kernel_rfl; kernel_rfl; (focus (refine Or.inl ⟨by rfl, ?_⟩; intro w' hSw; (try dsimp only at hSw); go_simp; with_reducible rfl)); exact hH)
      try simp only [Act.put, List.getElem_toArray, List.getElem_cons_succ, List.getElem_cons_zero, List.setIfInBounds_toArray, List.set_cons_zero, List.set_cons_succ]
      first | (refine wpAnyH_take (i := 23) (v := undef) rfl ?_ ?_ ?_ (fun _ _ _ h => h) ?_ ?_ ?_; kernel_rfl; kernel_rfl; kernel_rfl; exact Or.inr ⟨by rfl, rfl⟩; exact hH) | (refine wpAnyH_take (i := 23) (v := ?_) rfl ?_ ?_ ?_ (fun _ _ _ h => h) ?_ ?_ ?_; rotate_left; kernel_rfl; kernel_rfl; kernel_rfl; (focus (refine Or.inl ⟨by rfl, ?_⟩; intro w' hSw; (try dsimp only at hSw); go_simp)); exact hH) | (refine wpAnyH_take (i := 23) (v := ?_) rfl ?_ ?_ ?_ (fun _ _ _ h => h) ?_ ?_ ?_; rotate_left; kernel_rfl; kernel_rfl; kernel_rfl; (focus (refine Or.inl ⟨by rfl, ?_⟩; intro w' hSw; (try dsimp only at hSw); go_simp; with_reducible rfl)); exact hH)
      try simp only [Act.put, List.getElem_toArray, List.getElem_cons_succ, List.getElem_cons_zero, List.setIfInBounds_toArray, List.set_cons_zero, List.set_cons_succ]
      clear Cn Cb Cc0 Cf0 Cc1 Cf1 Cc2 Cf2
      refine wpAnyH_done (by kernel_rfl) ?_ _
      refine NoPanic.normal ?_
      obtain ⟨-, hB, B15⟩ := hH
      have Cb := hB
      have Cc0 := Cb.get 0 rfl
      have Cf0 := Blk.frozen Cb 0
      have Cc1 := Cb.get 1 rfl
      have Cf1 := Blk.frozen Cb 1
      have Cc2 := Cb.get 2 rfl
      have Cf2 := Blk.frozen Cb 2
      have Cn := Blk.lt Cb
      clear hB
      go_wp2_with fail
      go_ret
      exact ⟨by simp [EV], below_next HB.out B15⟩

end Go.Proofs.Ytdkeoanlcninkaa
