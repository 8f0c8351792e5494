/-
  The walk of the law BentBack: at Reach(y) a run has y at least, a tick ahead less.
-/
import Derived.Test.YtdkeoanlcninkaaProg
import Derived.Test.YtdkeoanlcninkaaBentC
namespace Go.Proofs.Ytdkeoanlcninkaa
set_option linter.unusedVariables false
set_option linter.unusedSimpArgs false
open Go.RowKit Go.Shelf

set_option maxRecDepth 100000 in
set_option maxHeartbeats 8000000 in
theorem bentBack_walk (w : World) (F : Int) (hF : (Lit.int .u64 F).wf = true) (L : Int) (hL : (Lit.int .u64 L).wf = true) (R : Int) (hR : (Lit.int .u64 R).wf = true) (A : Option Addr) (n c : Nat) (X : Nat → Int) (fX : ∀ i, i < n → (Lit.int .u64 (X i)).wf = true) (Y : Nat → Int) (fY : ∀ i, i < n → (Lit.int .u64 (Y i)).wf = true) (T : Nat → Int) (fT : ∀ i, i < n → (Lit.int .u64 (T i)).wf = true) (N : Nat → Int) (fN : ∀ i, i < n → (Lit.int .u64 (N i)).wf = true) (hl : n ≤ c) (hm : c ≤ maxLen)
    (hA : 0 < n → ∃ b off, A = some ⟨b, off, none⟩ ∧ b < w.heap.size) (hX : ∀ b off, A = some ⟨b, off, none⟩ → ∀ i, i < n → w.cell? ⟨b, off + (i * 4 + 0), none⟩ = some (.int .u64 (X i))) (hY : ∀ b off, A = some ⟨b, off, none⟩ → ∀ i, i < n → w.cell? ⟨b, off + (i * 4 + 1), none⟩ = some (.int .u64 (Y i)))
    (hT : ∀ b off, A = some ⟨b, off, none⟩ → ∀ i, i < n → w.cell? ⟨b, off + (i * 4 + 2), none⟩ = some (.int .u64 (T i))) (hN : ∀ b off, A = some ⟨b, off, none⟩ → ∀ i, i < n → w.cell? ⟨b, off + (i * 4 + 3), none⟩ = some (.int .u64 (N i))) (y : Int) (hy : (Lit.int .u64 y).wf = true) :
    Calls Try.prog 5 #[.agg #[.int .u64 F, .int .u64 L, .int .u64 R], .slice A n c, .int .u64 y] w fun e w' => e = .returned (.bool true) ∧ Below w.heap.size w w' := by
  have wF := word_of_wf hF
  have wL := word_of_wf hL
  have wR := word_of_wf hR
  have wy := word_of_wf hy
  clear hy
  have hC := acts_cut hX hY
  have wX := cutF_word (fun i hi => word_of_wf (fX i hi))
  have wY := cutF_word (fun i hi => word_of_wf (fY i hi))
  clear hF hL hR fX fY fT fN hX hY hT hN hl hm
  generalize cutF X n = X at hC wX
  generalize cutF Y n = Y at hC wY
  have AW := Lib.hid (fun w => awake05 w)
  rcases Bool.eq_false_or_eq_true (mayB F L R && decide (R < F)) with hm | hm
  rotate_left
  · have SB := Lib.hid (fun w => started_bad F L R A n c w wF wL wR hm)
    clear hm hA hC
    go_enter Try.func5, Try.ntmps5
    go_wp2_with fail
    with_reducible refine (AW.out _).mono ?_
    rintro e w1 ⟨rfl, hb1⟩
    have Cm : Blk w1 (w.heap.size) 24 #[.int .u64 F, .int .u64 L, .int .u64 R] := Blk.next (by repeat (first | (refine Blk.new_at ?_; simp only [World.size_alloc]; done) | (with_reducible refine Blk.alloc ?_ _) | (with_reducible refine Blk.drewN ?_ _))) hb1
    have Cb := Cm
    clear Cm
    have Cc0 : World.cell? w1 ⟨w.heap.size, 0, none⟩ = some (.int .u64 F) := Cb.get 0 rfl
    have Cf0 := Blk.frozen Cb 0
    have Cc1 : World.cell? w1 ⟨w.heap.size, 1, none⟩ = some (.int .u64 L) := Cb.get 1 rfl
    have Cf1 := Blk.frozen Cb 1
    have Cc2 : World.cell? w1 ⟨w.heap.size, 2, none⟩ = some (.int .u64 R) := Cb.get 2 rfl
    have Cf2 := Blk.frozen Cb 2
    have Cn := Blk.lt Cb
    have B1 : Below w.heap.size w w1 := by first | with_reducible exact hb1 | exact Below.trans (by go_grown) (hb1.mono (by simp only [World.size_alloc]; omega))
    clear hb1
    go_wp2_with fail
    with_reducible refine (SB.out _).mono ?_
    rintro e w2 ⟨rfl, hb2⟩
    have Cm : Blk w2 (w.heap.size) 24 #[.int .u64 F, .int .u64 L, .int .u64 R] := Blk.next (by repeat (first | (with_reducible exact Cb) | (refine Blk.new_at ?_; simp only [World.size_alloc]; done) | (with_reducible refine Blk.alloc ?_ _) | (with_reducible refine Blk.drewN ?_ _))) hb2
    clear Cn Cb Cc0 Cf0 Cc1 Cf1 Cc2 Cf2
    have Cb := Cm
    clear Cm
    have Cc0 : World.cell? w2 ⟨w.heap.size, 0, none⟩ = some (.int .u64 F) := Cb.get 0 rfl
    have Cf0 := Blk.frozen Cb 0
    have Cc1 : World.cell? w2 ⟨w.heap.size, 1, none⟩ = some (.int .u64 L) := Cb.get 1 rfl
    have Cf1 := Blk.frozen Cb 1
    have Cc2 : World.cell? w2 ⟨w.heap.size, 2, none⟩ = some (.int .u64 R) := Cb.get 2 rfl
    have Cf2 := Blk.frozen Cb 2
    have Cn := Blk.lt Cb
    have B2 : Below w.heap.size w w2 := by first | with_reducible exact below_next B1 hb2 | exact below_step B1 (by go_grown) hb2
    clear hb2 B1
    go_wp2_with fail
    go_ret
    exact ⟨by simp, B2⟩
  obtain ⟨hm1, hm2⟩ : mayB F L R = true ∧ R < F := by simpa using hm
  clear hm
  have my := may_of wF wL wR hm1
  by_cases hn : 40 < n
  · have SL := Lib.hid (fun w => started_long F L R A n c w wF wL wR hm1 hm2 hn)
    clear hn hA hC my
    go_enter Try.func5, Try.ntmps5
    go_wp2_with fail
    with_reducible refine (AW.out _).mono ?_
    rintro e w1 ⟨rfl, hb1⟩
    have Cm : Blk w1 (w.heap.size) 24 #[.int .u64 F, .int .u64 L, .int .u64 R] := Blk.next (by repeat (first | (refine Blk.new_at ?_; simp only [World.size_alloc]; done) | (with_reducible refine Blk.alloc ?_ _) | (with_reducible refine Blk.drewN ?_ _))) hb1
    have Cb := Cm
    clear Cm
    have Cc0 : World.cell? w1 ⟨w.heap.size, 0, none⟩ = some (.int .u64 F) := Cb.get 0 rfl
    have Cf0 := Blk.frozen Cb 0
    have Cc1 : World.cell? w1 ⟨w.heap.size, 1, none⟩ = some (.int .u64 L) := Cb.get 1 rfl
    have Cf1 := Blk.frozen Cb 1
    have Cc2 : World.cell? w1 ⟨w.heap.size, 2, none⟩ = some (.int .u64 R) := Cb.get 2 rfl
    have Cf2 := Blk.frozen Cb 2
    have Cn := Blk.lt Cb
    have B1 : Below w.heap.size w w1 := by first | with_reducible exact hb1 | exact Below.trans (by go_grown) (hb1.mono (by simp only [World.size_alloc]; omega))
    clear hb1
    go_wp2_with fail
    with_reducible refine (SL.out _).mono ?_
    rintro e w2 ⟨rfl, hb2⟩
    have Cm : Blk w2 (w.heap.size) 24 #[.int .u64 F, .int .u64 L, .int .u64 R] := Blk.next (by repeat (first | (with_reducible exact Cb) | (refine Blk.new_at ?_; simp only [World.size_alloc]; done) | (with_reducible refine Blk.alloc ?_ _) | (with_reducible refine Blk.drewN ?_ _))) hb2
    clear Cn Cb Cc0 Cf0 Cc1 Cf1 Cc2 Cf2
    have Cb := Cm
    clear Cm
    have Cc0 : World.cell? w2 ⟨w.heap.size, 0, none⟩ = some (.int .u64 F) := Cb.get 0 rfl
    have Cf0 := Blk.frozen Cb 0
    have Cc1 : World.cell? w2 ⟨w.heap.size, 1, none⟩ = some (.int .u64 L) := Cb.get 1 rfl
    have Cf1 := Blk.frozen Cb 1
    have Cc2 : World.cell? w2 ⟨w.heap.size, 2, none⟩ = some (.int .u64 R) := Cb.get 2 rfl
    have Cf2 := Blk.frozen Cb 2
    have Cn := Blk.lt Cb
    have B2 : Below w.heap.size w w2 := by first | with_reducible exact below_next B1 hb2 | exact below_step B1 (by go_grown) hb2
    clear hb2 B1
    go_wp2_with fail
    go_ret
    exact ⟨by simp, B2⟩
  have SM := Lib.hid (fun w1 hB => started_at F L R A n c X Y w w1 hB wF wL wR hm1 hm2 (by omega) hA wX wY hC)
  have MD := made_run my hm2 (fun i => (wY i).1) n (X := X)
  by_cases h0 : n = 0
  · subst h0
    clear MD hA hC hn
    go_enter Try.func5, Try.ntmps5
    go_wp2_with fail
    with_reducible refine (AW.out _).mono ?_
    rintro e w1 ⟨rfl, hb1⟩
    have Cm : Blk w1 (w.heap.size) 24 #[.int .u64 F, .int .u64 L, .int .u64 R] := Blk.next (by repeat (first | (refine Blk.new_at ?_; simp only [World.size_alloc]; done) | (with_reducible refine Blk.alloc ?_ _) | (with_reducible refine Blk.drewN ?_ _))) hb1
    have Cb := Cm
    clear Cm
    have Cc0 : World.cell? w1 ⟨w.heap.size, 0, none⟩ = some (.int .u64 F) := Cb.get 0 rfl
    have Cf0 := Blk.frozen Cb 0
    have Cc1 : World.cell? w1 ⟨w.heap.size, 1, none⟩ = some (.int .u64 L) := Cb.get 1 rfl
    have Cf1 := Blk.frozen Cb 1
    have Cc2 : World.cell? w1 ⟨w.heap.size, 2, none⟩ = some (.int .u64 R) := Cb.get 2 rfl
    have Cf2 := Blk.frozen Cb 2
    have Cn := Blk.lt Cb
    have B1 : Below w.heap.size w w1 := by first | with_reducible exact hb1 | exact Below.trans (by go_grown) (hb1.mono (by simp only [World.size_alloc]; omega))
    clear hb1
    go_wp2_with fail
    with_reducible refine (SM.out _ B1).mono ?_
    rintro e w2 ⟨p, rfl, hp, hq, hb2⟩
    have Cm : Blk w2 (w.heap.size) 24 #[.int .u64 F, .int .u64 L, .int .u64 R] := Blk.next (by repeat (first | (with_reducible exact Cb) | (refine Blk.new_at ?_; simp only [World.size_alloc]; done) | (with_reducible refine Blk.alloc ?_ _) | (with_reducible refine Blk.drewN ?_ _))) hb2
    clear Cn Cb Cc0 Cf0 Cc1 Cf1 Cc2 Cf2
    have Cb := Cm
    clear Cm
    have Cc0 : World.cell? w2 ⟨w.heap.size, 0, none⟩ = some (.int .u64 F) := Cb.get 0 rfl
    have Cf0 := Blk.frozen Cb 0
    have Cc1 : World.cell? w2 ⟨w.heap.size, 1, none⟩ = some (.int .u64 L) := Cb.get 1 rfl
    have Cf1 := Blk.frozen Cb 1
    have Cc2 : World.cell? w2 ⟨w.heap.size, 2, none⟩ = some (.int .u64 R) := Cb.get 2 rfl
    have Cf2 := Blk.frozen Cb 2
    have Cn := Blk.lt Cb
    have B2 : Below w.heap.size w w2 := by first | with_reducible exact below_next B1 hb2 | exact below_step B1 (by go_grown) hb2
    clear hb2 B1
    clear hq
    go_wp2_with fail
    go_ret
    exact ⟨by simp, B2⟩
  have n0 : (0 : Int) < (n : Int) := by omega
  have e0 : ((n : Int) == 0) = false := beq_eq_false_iff_ne.2 (by omega)
  have bk := backB (y := y) (m := reachB F R (runX X n) (runH X Y F 0 n) (runH X Y R ((F - R) * L) n) y) MD wy.1 rfl
  obtain ⟨m, em⟩ : ∃ m, reachB F R (runX X n) (runH X Y F 0 n) (runH X Y R ((F - R) * L) n) y = m := ⟨_, rfl⟩
  rw [em] at bk
  obtain ⟨x, ex⟩ : ∃ x, runX X n = x := ⟨_, rfl⟩
  obtain ⟨f, ef⟩ : ∃ x, runH X Y F 0 n = x := ⟨_, rfl⟩
  obtain ⟨r, er⟩ : ∃ x, runH X Y R ((F - R) * L) n = x := ⟨_, rfl⟩
  rw [ex, ef, er] at MD bk SM em
  have hx0 := MD.x0
  have hx1 := MD.x1
  have RE := Lib.hid (fun q w h => breach_made q F L R n x f r y m w h MD n0 wy em)
  have LA := Lib.hid (fun q w h => last_b q F L R n x f r w h n0)
  have AT := Lib.hid (fun q w t v h wt hv => bat_m q F L R n x f r t v w h MD n0 wt hv)
  clear hA hC hn h0 ex ef er em
  by_cases k : m = 9223372036854775808
  · have bk1 := bk.1 k
    clear bk
    subst k
    by_cases kx : x = 9223372036854775808
    · have ee : (x == 9223372036854775808) = true := by simp [kx]
      clear bk1 kx
      go_enter Try.func5, Try.ntmps5
      go_wp2_with fail
      with_reducible refine (AW.out _).mono ?_
      rintro e w1 ⟨rfl, hb1⟩
      have Cm : Blk w1 (w.heap.size) 24 #[.int .u64 F, .int .u64 L, .int .u64 R] := Blk.next (by repeat (first | (refine Blk.new_at ?_; simp only [World.size_alloc]; done) | (with_reducible refine Blk.alloc ?_ _) | (with_reducible refine Blk.drewN ?_ _))) hb1
      have Cb := Cm
      clear Cm
      have Cc0 : World.cell? w1 ⟨w.heap.size, 0, none⟩ = some (.int .u64 F) := Cb.get 0 rfl
      have Cf0 := Blk.frozen Cb 0
      have Cc1 : World.cell? w1 ⟨w.heap.size, 1, none⟩ = some (.int .u64 L) := Cb.get 1 rfl
      have Cf1 := Blk.frozen Cb 1
      have Cc2 : World.cell? w1 ⟨w.heap.size, 2, none⟩ = some (.int .u64 R) := Cb.get 2 rfl
      have Cf2 := Blk.frozen Cb 2
      have Cn := Blk.lt Cb
      have B1 : Below w.heap.size w w1 := by first | with_reducible exact hb1 | exact Below.trans (by go_grown) (hb1.mono (by simp only [World.size_alloc]; omega))
      clear hb1
      go_wp2_with fail
      with_reducible refine (SM.out _ B1).mono ?_
      rintro e w2 ⟨p, rfl, hp, hq, hb2⟩
      have Cm : Blk w2 (w.heap.size) 24 #[.int .u64 F, .int .u64 L, .int .u64 R] := Blk.next (by repeat (first | (with_reducible exact Cb) | (refine Blk.new_at ?_; simp only [World.size_alloc]; done) | (with_reducible refine Blk.alloc ?_ _) | (with_reducible refine Blk.drewN ?_ _))) hb2
      clear Cn Cb Cc0 Cf0 Cc1 Cf1 Cc2 Cf2
      have Cb := Cm
      clear Cm
      have Cc0 : World.cell? w2 ⟨w.heap.size, 0, none⟩ = some (.int .u64 F) := Cb.get 0 rfl
      have Cf0 := Blk.frozen Cb 0
      have Cc1 : World.cell? w2 ⟨w.heap.size, 1, none⟩ = some (.int .u64 L) := Cb.get 1 rfl
      have Cf1 := Blk.frozen Cb 1
      have Cc2 : World.cell? w2 ⟨w.heap.size, 2, none⟩ = some (.int .u64 R) := Cb.get 2 rfl
      have Cf2 := Blk.frozen Cb 2
      have Cn := Blk.lt Cb
      have B2 : Below w.heap.size w w2 := by first | with_reducible exact below_next B1 hb2 | exact below_step B1 (by go_grown) hb2
      clear hb2 B1
      have HQ := Lib.hid hq
      clear hq
      go_wp2_with fail
      with_reducible refine (LA.out _ _ HQ.out).mono ?_
      rintro e w3 ⟨rfl, hb3⟩
      have Cm : Blk w3 (w.heap.size) 24 #[.int .u64 F, .int .u64 L, .int .u64 R] := Blk.next (by repeat (first | (with_reducible exact Cb) | (refine Blk.new_at ?_; simp only [World.size_alloc]; done) | (with_reducible refine Blk.alloc ?_ _) | (with_reducible refine Blk.drewN ?_ _))) hb3
      clear Cn Cb Cc0 Cf0 Cc1 Cf1 Cc2 Cf2
      have Cb := Cm
      clear Cm
      have Cc0 : World.cell? w3 ⟨w.heap.size, 0, none⟩ = some (.int .u64 F) := Cb.get 0 rfl
      have Cf0 := Blk.frozen Cb 0
      have Cc1 : World.cell? w3 ⟨w.heap.size, 1, none⟩ = some (.int .u64 L) := Cb.get 1 rfl
      have Cf1 := Blk.frozen Cb 1
      have Cc2 : World.cell? w3 ⟨w.heap.size, 2, none⟩ = some (.int .u64 R) := Cb.get 2 rfl
      have Cf2 := Blk.frozen Cb 2
      have Cn := Blk.lt Cb
      replace HQ := Lib.hid (HQ.out.next hb3)
      have B3 : Below w.heap.size w w3 := by first | with_reducible exact below_next B2 hb3 | exact below_step B2 (by go_grown) hb3
      clear hb3 B2
      go_wp2_with fail
      with_reducible refine (RE.out _ _ HQ.out).mono ?_
      rintro e w4 ⟨rfl, hb4⟩
      have Cm : Blk w4 (w.heap.size) 24 #[.int .u64 F, .int .u64 L, .int .u64 R] := Blk.next (by repeat (first | (with_reducible exact Cb) | (refine Blk.new_at ?_; simp only [World.size_alloc]; done) | (with_reducible refine Blk.alloc ?_ _) | (with_reducible refine Blk.drewN ?_ _))) hb4
      clear Cn Cb Cc0 Cf0 Cc1 Cf1 Cc2 Cf2
      have Cb := Cm
      clear Cm
      have Cc0 : World.cell? w4 ⟨w.heap.size, 0, none⟩ = some (.int .u64 F) := Cb.get 0 rfl
      have Cf0 := Blk.frozen Cb 0
      have Cc1 : World.cell? w4 ⟨w.heap.size, 1, none⟩ = some (.int .u64 L) := Cb.get 1 rfl
      have Cf1 := Blk.frozen Cb 1
      have Cc2 : World.cell? w4 ⟨w.heap.size, 2, none⟩ = some (.int .u64 R) := Cb.get 2 rfl
      have Cf2 := Blk.frozen Cb 2
      have Cn := Blk.lt Cb
      replace HQ := Lib.hid (HQ.out.next hb4)
      have B4 : Below w.heap.size w w4 := by first | with_reducible exact below_next B3 hb4 | exact below_step B3 (by go_grown) hb4
      clear hb4 B3
      go_wp2_with fail
      go_ret
      exact ⟨by simp, B4⟩
    · have bk2 := bk1.resolve_left kx
      have ee : (x == 9223372036854775808) = false := beq_eq_false_iff_ne.2 kx
      obtain ⟨v, ev⟩ : ∃ v, hasN F R x f r 9223372036854775807 = v := ⟨_, rfl⟩
      rw [ev] at bk2
      have A1 := Lib.hid (fun q w h => AT.out q w 9223372036854775807 v h ⟨by decide, by decide⟩ ev)
      clear bk1 ev kx AT
      go_enter Try.func5, Try.ntmps5
      go_wp2_with fail
      with_reducible refine (AW.out _).mono ?_
      rintro e w1 ⟨rfl, hb1⟩
      have Cm : Blk w1 (w.heap.size) 24 #[.int .u64 F, .int .u64 L, .int .u64 R] := Blk.next (by repeat (first | (refine Blk.new_at ?_; simp only [World.size_alloc]; done) | (with_reducible refine Blk.alloc ?_ _) | (with_reducible refine Blk.drewN ?_ _))) hb1
      have Cb := Cm
      clear Cm
      have Cc0 : World.cell? w1 ⟨w.heap.size, 0, none⟩ = some (.int .u64 F) := Cb.get 0 rfl
      have Cf0 := Blk.frozen Cb 0
      have Cc1 : World.cell? w1 ⟨w.heap.size, 1, none⟩ = some (.int .u64 L) := Cb.get 1 rfl
      have Cf1 := Blk.frozen Cb 1
      have Cc2 : World.cell? w1 ⟨w.heap.size, 2, none⟩ = some (.int .u64 R) := Cb.get 2 rfl
      have Cf2 := Blk.frozen Cb 2
      have Cn := Blk.lt Cb
      have B1 : Below w.heap.size w w1 := by first | with_reducible exact hb1 | exact Below.trans (by go_grown) (hb1.mono (by simp only [World.size_alloc]; omega))
      clear hb1
      go_wp2_with fail
      with_reducible refine (SM.out _ B1).mono ?_
      rintro e w2 ⟨p, rfl, hp, hq, hb2⟩
      have Cm : Blk w2 (w.heap.size) 24 #[.int .u64 F, .int .u64 L, .int .u64 R] := Blk.next (by repeat (first | (with_reducible exact Cb) | (refine Blk.new_at ?_; simp only [World.size_alloc]; done) | (with_reducible refine Blk.alloc ?_ _) | (with_reducible refine Blk.drewN ?_ _))) hb2
      clear Cn Cb Cc0 Cf0 Cc1 Cf1 Cc2 Cf2
      have Cb := Cm
      clear Cm
      have Cc0 : World.cell? w2 ⟨w.heap.size, 0, none⟩ = some (.int .u64 F) := Cb.get 0 rfl
      have Cf0 := Blk.frozen Cb 0
      have Cc1 : World.cell? w2 ⟨w.heap.size, 1, none⟩ = some (.int .u64 L) := Cb.get 1 rfl
      have Cf1 := Blk.frozen Cb 1
      have Cc2 : World.cell? w2 ⟨w.heap.size, 2, none⟩ = some (.int .u64 R) := Cb.get 2 rfl
      have Cf2 := Blk.frozen Cb 2
      have Cn := Blk.lt Cb
      have B2 : Below w.heap.size w w2 := by first | with_reducible exact below_next B1 hb2 | exact below_step B1 (by go_grown) hb2
      clear hb2 B1
      have HQ := Lib.hid hq
      clear hq
      go_wp2_with fail
      with_reducible refine (LA.out _ _ HQ.out).mono ?_
      rintro e w3 ⟨rfl, hb3⟩
      have Cm : Blk w3 (w.heap.size) 24 #[.int .u64 F, .int .u64 L, .int .u64 R] := Blk.next (by repeat (first | (with_reducible exact Cb) | (refine Blk.new_at ?_; simp only [World.size_alloc]; done) | (with_reducible refine Blk.alloc ?_ _) | (with_reducible refine Blk.drewN ?_ _))) hb3
      clear Cn Cb Cc0 Cf0 Cc1 Cf1 Cc2 Cf2
      have Cb := Cm
      clear Cm
      have Cc0 : World.cell? w3 ⟨w.heap.size, 0, none⟩ = some (.int .u64 F) := Cb.get 0 rfl
      have Cf0 := Blk.frozen Cb 0
      have Cc1 : World.cell? w3 ⟨w.heap.size, 1, none⟩ = some (.int .u64 L) := Cb.get 1 rfl
      have Cf1 := Blk.frozen Cb 1
      have Cc2 : World.cell? w3 ⟨w.heap.size, 2, none⟩ = some (.int .u64 R) := Cb.get 2 rfl
      have Cf2 := Blk.frozen Cb 2
      have Cn := Blk.lt Cb
      replace HQ := Lib.hid (HQ.out.next hb3)
      have B3 : Below w.heap.size w w3 := by first | with_reducible exact below_next B2 hb3 | exact below_step B2 (by go_grown) hb3
      clear hb3 B2
      go_wp2_with fail
      with_reducible refine (RE.out _ _ HQ.out).mono ?_
      rintro e w4 ⟨rfl, hb4⟩
      have Cm : Blk w4 (w.heap.size) 24 #[.int .u64 F, .int .u64 L, .int .u64 R] := Blk.next (by repeat (first | (with_reducible exact Cb) | (refine Blk.new_at ?_; simp only [World.size_alloc]; done) | (with_reducible refine Blk.alloc ?_ _) | (with_reducible refine Blk.drewN ?_ _))) hb4
      clear Cn Cb Cc0 Cf0 Cc1 Cf1 Cc2 Cf2
      have Cb := Cm
      clear Cm
      have Cc0 : World.cell? w4 ⟨w.heap.size, 0, none⟩ = some (.int .u64 F) := Cb.get 0 rfl
      have Cf0 := Blk.frozen Cb 0
      have Cc1 : World.cell? w4 ⟨w.heap.size, 1, none⟩ = some (.int .u64 L) := Cb.get 1 rfl
      have Cf1 := Blk.frozen Cb 1
      have Cc2 : World.cell? w4 ⟨w.heap.size, 2, none⟩ = some (.int .u64 R) := Cb.get 2 rfl
      have Cf2 := Blk.frozen Cb 2
      have Cn := Blk.lt Cb
      replace HQ := Lib.hid (HQ.out.next hb4)
      have B4 : Below w.heap.size w w4 := by first | with_reducible exact below_next B3 hb4 | exact below_step B3 (by go_grown) hb4
      clear hb4 B3
      go_wp2_with fail
      with_reducible refine (A1.out _ _ HQ.out).mono ?_
      rintro e w5 ⟨rfl, hb5⟩
      have Cm : Blk w5 (w.heap.size) 24 #[.int .u64 F, .int .u64 L, .int .u64 R] := Blk.next (by repeat (first | (with_reducible exact Cb) | (refine Blk.new_at ?_; simp only [World.size_alloc]; done) | (with_reducible refine Blk.alloc ?_ _) | (with_reducible refine Blk.drewN ?_ _))) hb5
      clear Cn Cb Cc0 Cf0 Cc1 Cf1 Cc2 Cf2
      have Cb := Cm
      clear Cm
      have Cc0 : World.cell? w5 ⟨w.heap.size, 0, none⟩ = some (.int .u64 F) := Cb.get 0 rfl
      have Cf0 := Blk.frozen Cb 0
      have Cc1 : World.cell? w5 ⟨w.heap.size, 1, none⟩ = some (.int .u64 L) := Cb.get 1 rfl
      have Cf1 := Blk.frozen Cb 1
      have Cc2 : World.cell? w5 ⟨w.heap.size, 2, none⟩ = some (.int .u64 R) := Cb.get 2 rfl
      have Cf2 := Blk.frozen Cb 2
      have Cn := Blk.lt Cb
      replace HQ := Lib.hid (HQ.out.next hb5)
      have B5 : Below w.heap.size w w5 := by first | with_reducible exact below_next B4 hb5 | exact below_step B4 (by go_grown) hb5
      clear hb5 B4
      go_wp2_with fail
      go_ret
      exact ⟨by simp, B5⟩
  · obtain ⟨b1, b2, b3, b4⟩ := bk.2 k
    have ee : (m == 9223372036854775808) = false := beq_eq_false_iff_ne.2 k
    clear bk k
    obtain ⟨v, ev⟩ : ∃ v, hasN F R x f r m = v := ⟨_, rfl⟩
    rw [ev] at b3
    have A1 := Lib.hid (fun q w h => AT.out q w m v h ⟨by omega, by omega⟩ ev)
    clear ev
    by_cases kx : m = x
    · have e2 : (m == x) = true := beq_iff_eq.2 kx
      clear kx b4 AT
      go_enter Try.func5, Try.ntmps5
      go_wp2_with fail
      with_reducible refine (AW.out _).mono ?_
      rintro e w1 ⟨rfl, hb1⟩
      have Cm : Blk w1 (w.heap.size) 24 #[.int .u64 F, .int .u64 L, .int .u64 R] := Blk.next (by repeat (first | (refine Blk.new_at ?_; simp only [World.size_alloc]; done) | (with_reducible refine Blk.alloc ?_ _) | (with_reducible refine Blk.drewN ?_ _))) hb1
      have Cb := Cm
      clear Cm
      have Cc0 : World.cell? w1 ⟨w.heap.size, 0, none⟩ = some (.int .u64 F) := Cb.get 0 rfl
      have Cf0 := Blk.frozen Cb 0
      have Cc1 : World.cell? w1 ⟨w.heap.size, 1, none⟩ = some (.int .u64 L) := Cb.get 1 rfl
      have Cf1 := Blk.frozen Cb 1
      have Cc2 : World.cell? w1 ⟨w.heap.size, 2, none⟩ = some (.int .u64 R) := Cb.get 2 rfl
      have Cf2 := Blk.frozen Cb 2
      have Cn := Blk.lt Cb
      have B1 : Below w.heap.size w w1 := by first | with_reducible exact hb1 | exact Below.trans (by go_grown) (hb1.mono (by simp only [World.size_alloc]; omega))
      clear hb1
      go_wp2_with fail
      with_reducible refine (SM.out _ B1).mono ?_
      rintro e w2 ⟨p, rfl, hp, hq, hb2⟩
      have Cm : Blk w2 (w.heap.size) 24 #[.int .u64 F, .int .u64 L, .int .u64 R] := Blk.next (by repeat (first | (with_reducible exact Cb) | (refine Blk.new_at ?_; simp only [World.size_alloc]; done) | (with_reducible refine Blk.alloc ?_ _) | (with_reducible refine Blk.drewN ?_ _))) hb2
      clear Cn Cb Cc0 Cf0 Cc1 Cf1 Cc2 Cf2
      have Cb := Cm
      clear Cm
      have Cc0 : World.cell? w2 ⟨w.heap.size, 0, none⟩ = some (.int .u64 F) := Cb.get 0 rfl
      have Cf0 := Blk.frozen Cb 0
      have Cc1 : World.cell? w2 ⟨w.heap.size, 1, none⟩ = some (.int .u64 L) := Cb.get 1 rfl
      have Cf1 := Blk.frozen Cb 1
      have Cc2 : World.cell? w2 ⟨w.heap.size, 2, none⟩ = some (.int .u64 R) := Cb.get 2 rfl
      have Cf2 := Blk.frozen Cb 2
      have Cn := Blk.lt Cb
      have B2 : Below w.heap.size w w2 := by first | with_reducible exact below_next B1 hb2 | exact below_step B1 (by go_grown) hb2
      clear hb2 B1
      have HQ := Lib.hid hq
      clear hq
      go_wp2_with fail
      with_reducible refine (LA.out _ _ HQ.out).mono ?_
      rintro e w3 ⟨rfl, hb3⟩
      have Cm : Blk w3 (w.heap.size) 24 #[.int .u64 F, .int .u64 L, .int .u64 R] := Blk.next (by repeat (first | (with_reducible exact Cb) | (refine Blk.new_at ?_; simp only [World.size_alloc]; done) | (with_reducible refine Blk.alloc ?_ _) | (with_reducible refine Blk.drewN ?_ _))) hb3
      clear Cn Cb Cc0 Cf0 Cc1 Cf1 Cc2 Cf2
      have Cb := Cm
      clear Cm
      have Cc0 : World.cell? w3 ⟨w.heap.size, 0, none⟩ = some (.int .u64 F) := Cb.get 0 rfl
      have Cf0 := Blk.frozen Cb 0
      have Cc1 : World.cell? w3 ⟨w.heap.size, 1, none⟩ = some (.int .u64 L) := Cb.get 1 rfl
      have Cf1 := Blk.frozen Cb 1
      have Cc2 : World.cell? w3 ⟨w.heap.size, 2, none⟩ = some (.int .u64 R) := Cb.get 2 rfl
      have Cf2 := Blk.frozen Cb 2
      have Cn := Blk.lt Cb
      replace HQ := Lib.hid (HQ.out.next hb3)
      have B3 : Below w.heap.size w w3 := by first | with_reducible exact below_next B2 hb3 | exact below_step B2 (by go_grown) hb3
      clear hb3 B2
      go_wp2_with fail
      with_reducible refine (RE.out _ _ HQ.out).mono ?_
      rintro e w4 ⟨rfl, hb4⟩
      have Cm : Blk w4 (w.heap.size) 24 #[.int .u64 F, .int .u64 L, .int .u64 R] := Blk.next (by repeat (first | (with_reducible exact Cb) | (refine Blk.new_at ?_; simp only [World.size_alloc]; done) | (with_reducible refine Blk.alloc ?_ _) | (with_reducible refine Blk.drewN ?_ _))) hb4
      clear Cn Cb Cc0 Cf0 Cc1 Cf1 Cc2 Cf2
      have Cb := Cm
      clear Cm
      have Cc0 : World.cell? w4 ⟨w.heap.size, 0, none⟩ = some (.int .u64 F) := Cb.get 0 rfl
      have Cf0 := Blk.frozen Cb 0
      have Cc1 : World.cell? w4 ⟨w.heap.size, 1, none⟩ = some (.int .u64 L) := Cb.get 1 rfl
      have Cf1 := Blk.frozen Cb 1
      have Cc2 : World.cell? w4 ⟨w.heap.size, 2, none⟩ = some (.int .u64 R) := Cb.get 2 rfl
      have Cf2 := Blk.frozen Cb 2
      have Cn := Blk.lt Cb
      replace HQ := Lib.hid (HQ.out.next hb4)
      have B4 : Below w.heap.size w w4 := by first | with_reducible exact below_next B3 hb4 | exact below_step B3 (by go_grown) hb4
      clear hb4 B3
      go_wp2_with fail
      with_reducible refine (A1.out _ _ HQ.out).mono ?_
      rintro e w5 ⟨rfl, hb5⟩
      have Cm : Blk w5 (w.heap.size) 24 #[.int .u64 F, .int .u64 L, .int .u64 R] := Blk.next (by repeat (first | (with_reducible exact Cb) | (refine Blk.new_at ?_; simp only [World.size_alloc]; done) | (with_reducible refine Blk.alloc ?_ _) | (with_reducible refine Blk.drewN ?_ _))) hb5
      clear Cn Cb Cc0 Cf0 Cc1 Cf1 Cc2 Cf2
      have Cb := Cm
      clear Cm
      have Cc0 : World.cell? w5 ⟨w.heap.size, 0, none⟩ = some (.int .u64 F) := Cb.get 0 rfl
      have Cf0 := Blk.frozen Cb 0
      have Cc1 : World.cell? w5 ⟨w.heap.size, 1, none⟩ = some (.int .u64 L) := Cb.get 1 rfl
      have Cf1 := Blk.frozen Cb 1
      have Cc2 : World.cell? w5 ⟨w.heap.size, 2, none⟩ = some (.int .u64 R) := Cb.get 2 rfl
      have Cf2 := Blk.frozen Cb 2
      have Cn := Blk.lt Cb
      replace HQ := Lib.hid (HQ.out.next hb5)
      have B5 : Below w.heap.size w w5 := by first | with_reducible exact below_next B4 hb5 | exact below_step B4 (by go_grown) hb5
      clear hb5 B4
      go_wp2_with fail
      go_ret
      exact ⟨by simp, B5⟩
    · have b5 := b4.resolve_left kx
      have e2 : (m == x) = false := beq_eq_false_iff_ne.2 kx
      obtain ⟨u, eu⟩ : ∃ v, hasN F R x f r (m - 1) = v := ⟨_, rfl⟩
      rw [eu] at b5
      have A2 := Lib.hid (fun q w h => AT.out q w (m - 1) u h ⟨by omega, by omega⟩ eu)
      have hw : IntKind.u64.wrap (m - 1) = m - 1 := by rw [IntKind.wrap_u64]; omega
      clear kx b4 eu AT
      go_enter Try.func5, Try.ntmps5
      go_wp2_with fail
      with_reducible refine (AW.out _).mono ?_
      rintro e w1 ⟨rfl, hb1⟩
      have Cm : Blk w1 (w.heap.size) 24 #[.int .u64 F, .int .u64 L, .int .u64 R] := Blk.next (by repeat (first | (refine Blk.new_at ?_; simp only [World.size_alloc]; done) | (with_reducible refine Blk.alloc ?_ _) | (with_reducible refine Blk.drewN ?_ _))) hb1
      have Cb := Cm
      clear Cm
      have Cc0 : World.cell? w1 ⟨w.heap.size, 0, none⟩ = some (.int .u64 F) := Cb.get 0 rfl
      have Cf0 := Blk.frozen Cb 0
      have Cc1 : World.cell? w1 ⟨w.heap.size, 1, none⟩ = some (.int .u64 L) := Cb.get 1 rfl
      have Cf1 := Blk.frozen Cb 1
      have Cc2 : World.cell? w1 ⟨w.heap.size, 2, none⟩ = some (.int .u64 R) := Cb.get 2 rfl
      have Cf2 := Blk.frozen Cb 2
      have Cn := Blk.lt Cb
      have B1 : Below w.heap.size w w1 := by first | with_reducible exact hb1 | exact Below.trans (by go_grown) (hb1.mono (by simp only [World.size_alloc]; omega))
      clear hb1
      go_wp2_with fail
      with_reducible refine (SM.out _ B1).mono ?_
      rintro e w2 ⟨p, rfl, hp, hq, hb2⟩
      have Cm : Blk w2 (w.heap.size) 24 #[.int .u64 F, .int .u64 L, .int .u64 R] := Blk.next (by repeat (first | (with_reducible exact Cb) | (refine Blk.new_at ?_; simp only [World.size_alloc]; done) | (with_reducible refine Blk.alloc ?_ _) | (with_reducible refine Blk.drewN ?_ _))) hb2
      clear Cn Cb Cc0 Cf0 Cc1 Cf1 Cc2 Cf2
      have Cb := Cm
      clear Cm
      have Cc0 : World.cell? w2 ⟨w.heap.size, 0, none⟩ = some (.int .u64 F) := Cb.get 0 rfl
      have Cf0 := Blk.frozen Cb 0
      have Cc1 : World.cell? w2 ⟨w.heap.size, 1, none⟩ = some (.int .u64 L) := Cb.get 1 rfl
      have Cf1 := Blk.frozen Cb 1
      have Cc2 : World.cell? w2 ⟨w.heap.size, 2, none⟩ = some (.int .u64 R) := Cb.get 2 rfl
      have Cf2 := Blk.frozen Cb 2
      have Cn := Blk.lt Cb
      have B2 : Below w.heap.size w w2 := by first | with_reducible exact below_next B1 hb2 | exact below_step B1 (by go_grown) hb2
      clear hb2 B1
      have HQ := Lib.hid hq
      clear hq
      go_wp2_with fail
      with_reducible refine (LA.out _ _ HQ.out).mono ?_
      rintro e w3 ⟨rfl, hb3⟩
      have Cm : Blk w3 (w.heap.size) 24 #[.int .u64 F, .int .u64 L, .int .u64 R] := Blk.next (by repeat (first | (with_reducible exact Cb) | (refine Blk.new_at ?_; simp only [World.size_alloc]; done) | (with_reducible refine Blk.alloc ?_ _) | (with_reducible refine Blk.drewN ?_ _))) hb3
      clear Cn Cb Cc0 Cf0 Cc1 Cf1 Cc2 Cf2
      have Cb := Cm
      clear Cm
      have Cc0 : World.cell? w3 ⟨w.heap.size, 0, none⟩ = some (.int .u64 F) := Cb.get 0 rfl
      have Cf0 := Blk.frozen Cb 0
      have Cc1 : World.cell? w3 ⟨w.heap.size, 1, none⟩ = some (.int .u64 L) := Cb.get 1 rfl
      have Cf1 := Blk.frozen Cb 1
      have Cc2 : World.cell? w3 ⟨w.heap.size, 2, none⟩ = some (.int .u64 R) := Cb.get 2 rfl
      have Cf2 := Blk.frozen Cb 2
      have Cn := Blk.lt Cb
      replace HQ := Lib.hid (HQ.out.next hb3)
      have B3 : Below w.heap.size w w3 := by first | with_reducible exact below_next B2 hb3 | exact below_step B2 (by go_grown) hb3
      clear hb3 B2
      go_wp2_with fail
      with_reducible refine (RE.out _ _ HQ.out).mono ?_
      rintro e w4 ⟨rfl, hb4⟩
      have Cm : Blk w4 (w.heap.size) 24 #[.int .u64 F, .int .u64 L, .int .u64 R] := Blk.next (by repeat (first | (with_reducible exact Cb) | (refine Blk.new_at ?_; simp only [World.size_alloc]; done) | (with_reducible refine Blk.alloc ?_ _) | (with_reducible refine Blk.drewN ?_ _))) hb4
      clear Cn Cb Cc0 Cf0 Cc1 Cf1 Cc2 Cf2
      have Cb := Cm
      clear Cm
      have Cc0 : World.cell? w4 ⟨w.heap.size, 0, none⟩ = some (.int .u64 F) := Cb.get 0 rfl
      have Cf0 := Blk.frozen Cb 0
      have Cc1 : World.cell? w4 ⟨w.heap.size, 1, none⟩ = some (.int .u64 L) := Cb.get 1 rfl
      have Cf1 := Blk.frozen Cb 1
      have Cc2 : World.cell? w4 ⟨w.heap.size, 2, none⟩ = some (.int .u64 R) := Cb.get 2 rfl
      have Cf2 := Blk.frozen Cb 2
      have Cn := Blk.lt Cb
      replace HQ := Lib.hid (HQ.out.next hb4)
      have B4 : Below w.heap.size w w4 := by first | with_reducible exact below_next B3 hb4 | exact below_step B3 (by go_grown) hb4
      clear hb4 B3
      go_wp2_with fail
      with_reducible refine (A1.out _ _ HQ.out).mono ?_
      rintro e w5 ⟨rfl, hb5⟩
      have Cm : Blk w5 (w.heap.size) 24 #[.int .u64 F, .int .u64 L, .int .u64 R] := Blk.next (by repeat (first | (with_reducible exact Cb) | (refine Blk.new_at ?_; simp only [World.size_alloc]; done) | (with_reducible refine Blk.alloc ?_ _) | (with_reducible refine Blk.drewN ?_ _))) hb5
      clear Cn Cb Cc0 Cf0 Cc1 Cf1 Cc2 Cf2
      have Cb := Cm
      clear Cm
      have Cc0 : World.cell? w5 ⟨w.heap.size, 0, none⟩ = some (.int .u64 F) := Cb.get 0 rfl
      have Cf0 := Blk.frozen Cb 0
      have Cc1 : World.cell? w5 ⟨w.heap.size, 1, none⟩ = some (.int .u64 L) := Cb.get 1 rfl
      have Cf1 := Blk.frozen Cb 1
      have Cc2 : World.cell? w5 ⟨w.heap.size, 2, none⟩ = some (.int .u64 R) := Cb.get 2 rfl
      have Cf2 := Blk.frozen Cb 2
      have Cn := Blk.lt Cb
      replace HQ := Lib.hid (HQ.out.next hb5)
      have B5 : Below w.heap.size w w5 := by first | with_reducible exact below_next B4 hb5 | exact below_step B4 (by go_grown) hb5
      clear hb5 B4
      go_wp2_with fail
      with_reducible refine (A2.out _ _ HQ.out).mono ?_
      rintro e w6 ⟨rfl, hb6⟩
      have Cm : Blk w6 (w.heap.size) 24 #[.int .u64 F, .int .u64 L, .int .u64 R] := Blk.next (by repeat (first | (with_reducible exact Cb) | (refine Blk.new_at ?_; simp only [World.size_alloc]; done) | (with_reducible refine Blk.alloc ?_ _) | (with_reducible refine Blk.drewN ?_ _))) hb6
      clear Cn Cb Cc0 Cf0 Cc1 Cf1 Cc2 Cf2
      have Cb := Cm
      clear Cm
      have Cc0 : World.cell? w6 ⟨w.heap.size, 0, none⟩ = some (.int .u64 F) := Cb.get 0 rfl
      have Cf0 := Blk.frozen Cb 0
      have Cc1 : World.cell? w6 ⟨w.heap.size, 1, none⟩ = some (.int .u64 L) := Cb.get 1 rfl
      have Cf1 := Blk.frozen Cb 1
      have Cc2 : World.cell? w6 ⟨w.heap.size, 2, none⟩ = some (.int .u64 R) := Cb.get 2 rfl
      have Cf2 := Blk.frozen Cb 2
      have Cn := Blk.lt Cb
      replace HQ := Lib.hid (HQ.out.next hb6)
      have B6 : Below w.heap.size w w6 := by first | with_reducible exact below_next B5 hb6 | exact below_step B5 (by go_grown) hb6
      clear hb6 B5
      go_wp2_with fail
      go_ret
      exact ⟨by simp, B6⟩

end Go.Proofs.Ytdkeoanlcninkaa
