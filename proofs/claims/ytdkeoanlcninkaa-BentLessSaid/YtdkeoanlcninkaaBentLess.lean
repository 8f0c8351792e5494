/-
  The walk of the law BentLess: each copy more makes nothing more.
-/
import Derived.Test.YtdkeoanlcninkaaProg
import Derived.Test.YtdkeoanlcninkaaBentC
namespace Go.Proofs.Ytdkeoanlcninkaa
set_option linter.unusedVariables false
set_option linter.unusedSimpArgs false
open Go.RowKit Go.Shelf

set_option maxRecDepth 100000 in
set_option maxHeartbeats 8000000 in
theorem bentLess_walk (w : World) (F : Int) (hF : (Lit.int .u64 F).wf = true) (L : Int) (hL : (Lit.int .u64 L).wf = true) (R : Int) (hR : (Lit.int .u64 R).wf = true) (A : Option Addr) (n c : Nat) (X : Nat → Int) (fX : ∀ i, i < n → (Lit.int .u64 (X i)).wf = true) (Y : Nat → Int) (fY : ∀ i, i < n → (Lit.int .u64 (Y i)).wf = true) (T : Nat → Int) (fT : ∀ i, i < n → (Lit.int .u64 (T i)).wf = true) (N : Nat → Int) (fN : ∀ i, i < n → (Lit.int .u64 (N i)).wf = true) (hl : n ≤ c) (hm : c ≤ maxLen)
    (hA : 0 < n → ∃ b off, A = some ⟨b, off, none⟩ ∧ b < w.heap.size) (hX : ∀ b off, A = some ⟨b, off, none⟩ → ∀ i, i < n → w.cell? ⟨b, off + (i * 4 + 0), none⟩ = some (.int .u64 (X i))) (hY : ∀ b off, A = some ⟨b, off, none⟩ → ∀ i, i < n → w.cell? ⟨b, off + (i * 4 + 1), none⟩ = some (.int .u64 (Y i)))
    (hT : ∀ b off, A = some ⟨b, off, none⟩ → ∀ i, i < n → w.cell? ⟨b, off + (i * 4 + 2), none⟩ = some (.int .u64 (T i))) (hN : ∀ b off, A = some ⟨b, off, none⟩ → ∀ i, i < n → w.cell? ⟨b, off + (i * 4 + 3), none⟩ = some (.int .u64 (N i))) (aX : Int) (haX : (Lit.int .u64 aX).wf = true) (aY : Int) (haY : (Lit.int .u64 aY).wf = true) (aT : Int) (haT : (Lit.int .u64 aT).wf = true) (aN : Int) (haN : (Lit.int .u64 aN).wf = true) (t : Int) (ht : (Lit.int .u64 t).wf = true) :
    Calls Try.prog 7 #[.agg #[.int .u64 F, .int .u64 L, .int .u64 R], .slice A n c, .agg #[.int .u64 aX, .int .u64 aY, .int .u64 aT, .int .u64 aN], .int .u64 t] w fun e w' => e = .returned (.bool true) ∧ Below w.heap.size w w' := by
  have wF := word_of_wf hF
  have wL := word_of_wf hL
  have wR := word_of_wf hR
  have waX := word_of_wf haX
  have waY := word_of_wf haY
  have wt := word_of_wf ht
  clear haX haY haT haN ht
  have hC := acts_cut hX hY
  have wX := cutF_word (fun i hi => word_of_wf (fX i hi))
  have wY := cutF_word (fun i hi => word_of_wf (fY i hi))
  clear hF hL hR fX fY fT fN hX hY hT hN hl hm
  generalize cutF X n = X at hC wX
  generalize cutF Y n = Y at hC wY
  have AW := Lib.hid (fun w => awake05 w)
  rcases Bool.eq_false_or_eq_true (mayB F L R && decide (R < F)) with hm | hm
  rotate_left
  · have SB := Lib.hid (fun w => started_bad F L R A n c w wF wL wR hm)
    clear hm hA hC
    go_enter Try.func7, Try.ntmps7
    go_wp2_with fail
    with_reducible refine (AW.out _).mono ?_
    rintro e w1 ⟨rfl, hb1⟩
    have Cm : Blk w1 (w.heap.size) 24 #[.int .u64 F, .int .u64 L, .int .u64 R] := Blk.next (by repeat (first | (refine Blk.new_at ?_; simp only [World.size_alloc]; done) | (with_reducible refine Blk.alloc ?_ _) | (with_reducible refine Blk.drewN ?_ _))) hb1
    have Cb := Cm
    clear Cm
    have Cc0 : World.cell? w1 ⟨w.heap.size, 0, none⟩ = some (.int .u64 F) := Cb.get 0 rfl
    have Cf0 := Blk.frozen Cb 0
    have Cc1 : World.cell? w1 ⟨w.heap.size, 1, none⟩ = some (.int .u64 L) := Cb.get 1 rfl
    have Cf1 := Blk.frozen Cb 1
    have Cc2 : World.cell? w1 ⟨w.heap.size, 2, none⟩ = some (.int .u64 R) := Cb.get 2 rfl
    have Cf2 := Blk.frozen Cb 2
    have Cn := Blk.lt Cb
    have B1 : Below w.heap.size w w1 := by first | with_reducible exact hb1 | exact Below.trans (by go_grown) (hb1.mono (by simp only [World.size_alloc]; omega))
    clear hb1
    go_wp2_with fail
    with_reducible refine (SB.out _).mono ?_
    rintro e w2 ⟨rfl, hb2⟩
    have Cm : Blk w2 (w.heap.size) 24 #[.int .u64 F, .int .u64 L, .int .u64 R] := Blk.next (by repeat (first | (with_reducible exact Cb) | (refine Blk.new_at ?_; simp only [World.size_alloc]; done) | (with_reducible refine Blk.alloc ?_ _) | (with_reducible refine Blk.drewN ?_ _))) hb2
    clear Cn Cb Cc0 Cf0 Cc1 Cf1 Cc2 Cf2
    have Cb := Cm
    clear Cm
    have Cc0 : World.cell? w2 ⟨w.heap.size, 0, none⟩ = some (.int .u64 F) := Cb.get 0 rfl
    have Cf0 := Blk.frozen Cb 0
    have Cc1 : World.cell? w2 ⟨w.heap.size, 1, none⟩ = some (.int .u64 L) := Cb.get 1 rfl
    have Cf1 := Blk.frozen Cb 1
    have Cc2 : World.cell? w2 ⟨w.heap.size, 2, none⟩ = some (.int .u64 R) := Cb.get 2 rfl
    have Cf2 := Blk.frozen Cb 2
    have Cn := Blk.lt Cb
    have B2 : Below w.heap.size w w2 := by first | with_reducible exact below_next B1 hb2 | exact below_step B1 (by go_grown) hb2
    clear hb2 B1
    go_wp2_with fail
    go_ret
    exact ⟨by simp, B2⟩
  obtain ⟨hm1, hm2⟩ : mayB F L R = true ∧ R < F := by simpa using hm
  clear hm
  have my := may_of wF wL wR hm1
  by_cases hn : 40 < n
  · have SL := Lib.hid (fun w => started_long F L R A n c w wF wL wR hm1 hm2 hn)
    clear hn hA hC my
    go_enter Try.func7, Try.ntmps7
    go_wp2_with fail
    with_reducible refine (AW.out _).mono ?_
    rintro e w1 ⟨rfl, hb1⟩
    have Cm : Blk w1 (w.heap.size) 24 #[.int .u64 F, .int .u64 L, .int .u64 R] := Blk.next (by repeat (first | (refine Blk.new_at ?_; simp only [World.size_alloc]; done) | (with_reducible refine Blk.alloc ?_ _) | (with_reducible refine Blk.drewN ?_ _))) hb1
    have Cb := Cm
    clear Cm
    have Cc0 : World.cell? w1 ⟨w.heap.size, 0, none⟩ = some (.int .u64 F) := Cb.get 0 rfl
    have Cf0 := Blk.frozen Cb 0
    have Cc1 : World.cell? w1 ⟨w.heap.size, 1, none⟩ = some (.int .u64 L) := Cb.get 1 rfl
    have Cf1 := Blk.frozen Cb 1
    have Cc2 : World.cell? w1 ⟨w.heap.size, 2, none⟩ = some (.int .u64 R) := Cb.get 2 rfl
    have Cf2 := Blk.frozen Cb 2
    have Cn := Blk.lt Cb
    have B1 : Below w.heap.size w w1 := by first | with_reducible exact hb1 | exact Below.trans (by go_grown) (hb1.mono (by simp only [World.size_alloc]; omega))
    clear hb1
    go_wp2_with fail
    with_reducible refine (SL.out _).mono ?_
    rintro e w2 ⟨rfl, hb2⟩
    have Cm : Blk w2 (w.heap.size) 24 #[.int .u64 F, .int .u64 L, .int .u64 R] := Blk.next (by repeat (first | (with_reducible exact Cb) | (refine Blk.new_at ?_; simp only [World.size_alloc]; done) | (with_reducible refine Blk.alloc ?_ _) | (with_reducible refine Blk.drewN ?_ _))) hb2
    clear Cn Cb Cc0 Cf0 Cc1 Cf1 Cc2 Cf2
    have Cb := Cm
    clear Cm
    have Cc0 : World.cell? w2 ⟨w.heap.size, 0, none⟩ = some (.int .u64 F) := Cb.get 0 rfl
    have Cf0 := Blk.frozen Cb 0
    have Cc1 : World.cell? w2 ⟨w.heap.size, 1, none⟩ = some (.int .u64 L) := Cb.get 1 rfl
    have Cf1 := Blk.frozen Cb 1
    have Cc2 : World.cell? w2 ⟨w.heap.size, 2, none⟩ = some (.int .u64 R) := Cb.get 2 rfl
    have Cf2 := Blk.frozen Cb 2
    have Cn := Blk.lt Cb
    have B2 : Below w.heap.size w w2 := by first | with_reducible exact below_next B1 hb2 | exact below_step B1 (by go_grown) hb2
    clear hb2 B1
    go_wp2_with fail
    go_ret
    exact ⟨by simp, B2⟩
  have SM := Lib.hid (fun w1 hB => started_at F L R A n c X Y w w1 hB wF wL wR hm1 hm2 (by omega) hA wX wY hC)
  have MD := made_run my hm2 (fun i => (wY i).1) n (X := X)
  have t0 := wt.1
  have a0 := waX.1
  by_cases h0 : n = 0
  · subst h0
    clear MD hA hC hn
    go_enter Try.func7, Try.ntmps7
    go_wp2_with fail
    with_reducible refine (AW.out _).mono ?_
    rintro e w1 ⟨rfl, hb1⟩
    have Cm : Blk w1 (w.heap.size) 24 #[.int .u64 F, .int .u64 L, .int .u64 R] := Blk.next (by repeat (first | (refine Blk.new_at ?_; simp only [World.size_alloc]; done) | (with_reducible refine Blk.alloc ?_ _) | (with_reducible refine Blk.drewN ?_ _))) hb1
    have Cb := Cm
    clear Cm
    have Cc0 : World.cell? w1 ⟨w.heap.size, 0, none⟩ = some (.int .u64 F) := Cb.get 0 rfl
    have Cf0 := Blk.frozen Cb 0
    have Cc1 : World.cell? w1 ⟨w.heap.size, 1, none⟩ = some (.int .u64 L) := Cb.get 1 rfl
    have Cf1 := Blk.frozen Cb 1
    have Cc2 : World.cell? w1 ⟨w.heap.size, 2, none⟩ = some (.int .u64 R) := Cb.get 2 rfl
    have Cf2 := Blk.frozen Cb 2
    have Cn := Blk.lt Cb
    have B1 : Below w.heap.size w w1 := by first | with_reducible exact hb1 | exact Below.trans (by go_grown) (hb1.mono (by simp only [World.size_alloc]; omega))
    clear hb1
    go_wp2_with fail
    with_reducible refine (SM.out _ B1).mono ?_
    rintro e w2 ⟨p, rfl, hp, hq, hb2⟩
    have Cm : Blk w2 (w.heap.size) 24 #[.int .u64 F, .int .u64 L, .int .u64 R] := Blk.next (by repeat (first | (with_reducible exact Cb) | (refine Blk.new_at ?_; simp only [World.size_alloc]; done) | (with_reducible refine Blk.alloc ?_ _) | (with_reducible refine Blk.drewN ?_ _))) hb2
    clear Cn Cb Cc0 Cf0 Cc1 Cf1 Cc2 Cf2
    have Cb := Cm
    clear Cm
    have Cc0 : World.cell? w2 ⟨w.heap.size, 0, none⟩ = some (.int .u64 F) := Cb.get 0 rfl
    have Cf0 := Blk.frozen Cb 0
    have Cc1 : World.cell? w2 ⟨w.heap.size, 1, none⟩ = some (.int .u64 L) := Cb.get 1 rfl
    have Cf1 := Blk.frozen Cb 1
    have Cc2 : World.cell? w2 ⟨w.heap.size, 2, none⟩ = some (.int .u64 R) := Cb.get 2 rfl
    have Cf2 := Blk.frozen Cb 2
    have Cn := Blk.lt Cb
    have B2 : Below w.heap.size w w2 := by first | with_reducible exact below_next B1 hb2 | exact below_step B1 (by go_grown) hb2
    clear hb2 B1
    clear hq
    go_wp2_with fail
    go_ret
    exact ⟨by simp, B2⟩
  have n0 : (0 : Int) < (n : Int) := by omega
  have n1 : (n : Int) ≤ 40 := by omega
  have e0 : ((n : Int) == 0) = false := beq_eq_false_iff_ne.2 (by omega)
  obtain ⟨x, ex⟩ : ∃ x, runX X n = x := ⟨_, rfl⟩
  obtain ⟨f, ef⟩ : ∃ x, runH X Y F 0 n = x := ⟨_, rfl⟩
  obtain ⟨r, er⟩ : ∃ x, runH X Y R ((F - R) * L) n = x := ⟨_, rfl⟩
  rw [ex, ef, er] at MD SM
  have hx0 := MD.x0
  have hx1 := MD.x1
  have LA := Lib.hid (fun q w h => last_b q F L R n x f r w h n0)
  clear ex ef er h0 hA hC hn
  by_cases ha : 4611686018427387904 ≤ aX
  · clear MD
    go_enter Try.func7, Try.ntmps7
    go_wp2_with fail
    with_reducible refine (AW.out _).mono ?_
    rintro e w1 ⟨rfl, hb1⟩
    have Cm : Blk w1 (w.heap.size) 24 #[.int .u64 F, .int .u64 L, .int .u64 R] := Blk.next (by repeat (first | (refine Blk.new_at ?_; simp only [World.size_alloc]; done) | (with_reducible refine Blk.alloc ?_ _) | (with_reducible refine Blk.drewN ?_ _))) hb1
    have Cb := Cm
    clear Cm
    have Cc0 : World.cell? w1 ⟨w.heap.size, 0, none⟩ = some (.int .u64 F) := Cb.get 0 rfl
    have Cf0 := Blk.frozen Cb 0
    have Cc1 : World.cell? w1 ⟨w.heap.size, 1, none⟩ = some (.int .u64 L) := Cb.get 1 rfl
    have Cf1 := Blk.frozen Cb 1
    have Cc2 : World.cell? w1 ⟨w.heap.size, 2, none⟩ = some (.int .u64 R) := Cb.get 2 rfl
    have Cf2 := Blk.frozen Cb 2
    have Cn := Blk.lt Cb
    have Dm : Blk w1 (w.heap.size + 1) 31 #[.int .u64 aX, .int .u64 aY, .int .u64 aT, .int .u64 aN] := Blk.next (by repeat (first | (refine Blk.new_at ?_; simp only [World.size_alloc]; done) | (with_reducible refine Blk.alloc ?_ _) | (with_reducible refine Blk.drewN ?_ _))) hb1
    have Db := Dm
    clear Dm
    have Dc0 : World.cell? w1 ⟨w.heap.size + 1, 0, none⟩ = some (.int .u64 aX) := Db.get 0 rfl
    have Df0 := Blk.frozen Db 0
    have Dc1 : World.cell? w1 ⟨w.heap.size + 1, 1, none⟩ = some (.int .u64 aY) := Db.get 1 rfl
    have Df1 := Blk.frozen Db 1
    have Dc2 : World.cell? w1 ⟨w.heap.size + 1, 2, none⟩ = some (.int .u64 aT) := Db.get 2 rfl
    have Df2 := Blk.frozen Db 2
    have Dc3 : World.cell? w1 ⟨w.heap.size + 1, 3, none⟩ = some (.int .u64 aN) := Db.get 3 rfl
    have Df3 := Blk.frozen Db 3
    have Dn := Blk.lt Db
    have B1 : Below w.heap.size w w1 := by first | with_reducible exact hb1 | exact Below.trans (by go_grown) (hb1.mono (by simp only [World.size_alloc]; omega))
    clear hb1
    go_wp2_with fail
    with_reducible refine (SM.out _ B1).mono ?_
    rintro e w2 ⟨p, rfl, hp, hq, hb2⟩
    have Cm : Blk w2 (w.heap.size) 24 #[.int .u64 F, .int .u64 L, .int .u64 R] := Blk.next (by repeat (first | (with_reducible exact Cb) | (refine Blk.new_at ?_; simp only [World.size_alloc]; done) | (with_reducible refine Blk.alloc ?_ _) | (with_reducible refine Blk.drewN ?_ _))) hb2
    clear Cn Cb Cc0 Cf0 Cc1 Cf1 Cc2 Cf2
    have Cb := Cm
    clear Cm
    have Cc0 : World.cell? w2 ⟨w.heap.size, 0, none⟩ = some (.int .u64 F) := Cb.get 0 rfl
    have Cf0 := Blk.frozen Cb 0
    have Cc1 : World.cell? w2 ⟨w.heap.size, 1, none⟩ = some (.int .u64 L) := Cb.get 1 rfl
    have Cf1 := Blk.frozen Cb 1
    have Cc2 : World.cell? w2 ⟨w.heap.size, 2, none⟩ = some (.int .u64 R) := Cb.get 2 rfl
    have Cf2 := Blk.frozen Cb 2
    have Cn := Blk.lt Cb
    have Dm : Blk w2 (w.heap.size + 1) 31 #[.int .u64 aX, .int .u64 aY, .int .u64 aT, .int .u64 aN] := Blk.next (by repeat (first | (with_reducible exact Db) | (refine Blk.new_at ?_; simp only [World.size_alloc]; done) | (with_reducible refine Blk.alloc ?_ _) | (with_reducible refine Blk.drewN ?_ _))) hb2
    clear Dn Db Dc0 Df0 Dc1 Df1 Dc2 Df2 Dc3 Df3
    have Db := Dm
    clear Dm
    have Dc0 : World.cell? w2 ⟨w.heap.size + 1, 0, none⟩ = some (.int .u64 aX) := Db.get 0 rfl
    have Df0 := Blk.frozen Db 0
    have Dc1 : World.cell? w2 ⟨w.heap.size + 1, 1, none⟩ = some (.int .u64 aY) := Db.get 1 rfl
    have Df1 := Blk.frozen Db 1
    have Dc2 : World.cell? w2 ⟨w.heap.size + 1, 2, none⟩ = some (.int .u64 aT) := Db.get 2 rfl
    have Df2 := Blk.frozen Db 2
    have Dc3 : World.cell? w2 ⟨w.heap.size + 1, 3, none⟩ = some (.int .u64 aN) := Db.get 3 rfl
    have Df3 := Blk.frozen Db 3
    have Dn := Blk.lt Db
    have B2 : Below w.heap.size w w2 := by first | with_reducible exact below_next B1 hb2 | exact below_step B1 (by go_grown) hb2
    clear hb2 B1
    have HQ := Lib.hid hq
    clear hq
    go_wp2_with fail
    with_reducible refine (LA.out _ _ HQ.out).mono ?_
    rintro e w3 ⟨rfl, hb3⟩
    have Cm : Blk w3 (w.heap.size) 24 #[.int .u64 F, .int .u64 L, .int .u64 R] := Blk.next (by repeat (first | (with_reducible exact Cb) | (refine Blk.new_at ?_; simp only [World.size_alloc]; done) | (with_reducible refine Blk.alloc ?_ _) | (with_reducible refine Blk.drewN ?_ _))) hb3
    clear Cn Cb Cc0 Cf0 Cc1 Cf1 Cc2 Cf2
    have Cb := Cm
    clear Cm
    have Cc0 : World.cell? w3 ⟨w.heap.size, 0, none⟩ = some (.int .u64 F) := Cb.get 0 rfl
    have Cf0 := Blk.frozen Cb 0
    have Cc1 : World.cell? w3 ⟨w.heap.size, 1, none⟩ = some (.int .u64 L) := Cb.get 1 rfl
    have Cf1 := Blk.frozen Cb 1
    have Cc2 : World.cell? w3 ⟨w.heap.size, 2, none⟩ = some (.int .u64 R) := Cb.get 2 rfl
    have Cf2 := Blk.frozen Cb 2
    have Cn := Blk.lt Cb
    have Dm : Blk w3 (w.heap.size + 1) 31 #[.int .u64 aX, .int .u64 aY, .int .u64 aT, .int .u64 aN] := Blk.next (by repeat (first | (with_reducible exact Db) | (refine Blk.new_at ?_; simp only [World.size_alloc]; done) | (with_reducible refine Blk.alloc ?_ _) | (with_reducible refine Blk.drewN ?_ _))) hb3
    clear Dn Db Dc0 Df0 Dc1 Df1 Dc2 Df2 Dc3 Df3
    have Db := Dm
    clear Dm
    have Dc0 : World.cell? w3 ⟨w.heap.size + 1, 0, none⟩ = some (.int .u64 aX) := Db.get 0 rfl
    have Df0 := Blk.frozen Db 0
    have Dc1 : World.cell? w3 ⟨w.heap.size + 1, 1, none⟩ = some (.int .u64 aY) := Db.get 1 rfl
    have Df1 := Blk.frozen Db 1
    have Dc2 : World.cell? w3 ⟨w.heap.size + 1, 2, none⟩ = some (.int .u64 aT) := Db.get 2 rfl
    have Df2 := Blk.frozen Db 2
    have Dc3 : World.cell? w3 ⟨w.heap.size + 1, 3, none⟩ = some (.int .u64 aN) := Db.get 3 rfl
    have Df3 := Blk.frozen Db 3
    have Dn := Blk.lt Db
    replace HQ := Lib.hid (HQ.out.next hb3)
    have B3 : Below w.heap.size w w3 := by first | with_reducible exact below_next B2 hb3 | exact below_step B2 (by go_grown) hb3
    clear hb3 B2
    go_wp2_with fail
    go_ret
    exact ⟨by simp, B3⟩
  have ha' : aX < 4611686018427387904 := by omega
  by_cases ht : 4611686018427387904 ≤ t
  · clear MD ha
    go_enter Try.func7, Try.ntmps7
    go_wp2_with fail
    with_reducible refine (AW.out _).mono ?_
    rintro e w1 ⟨rfl, hb1⟩
    have Cm : Blk w1 (w.heap.size) 24 #[.int .u64 F, .int .u64 L, .int .u64 R] := Blk.next (by repeat (first | (refine Blk.new_at ?_; simp only [World.size_alloc]; done) | (with_reducible refine Blk.alloc ?_ _) | (with_reducible refine Blk.drewN ?_ _))) hb1
    have Cb := Cm
    clear Cm
    have Cc0 : World.cell? w1 ⟨w.heap.size, 0, none⟩ = some (.int .u64 F) := Cb.get 0 rfl
    have Cf0 := Blk.frozen Cb 0
    have Cc1 : World.cell? w1 ⟨w.heap.size, 1, none⟩ = some (.int .u64 L) := Cb.get 1 rfl
    have Cf1 := Blk.frozen Cb 1
    have Cc2 : World.cell? w1 ⟨w.heap.size, 2, none⟩ = some (.int .u64 R) := Cb.get 2 rfl
    have Cf2 := Blk.frozen Cb 2
    have Cn := Blk.lt Cb
    have Dm : Blk w1 (w.heap.size + 1) 31 #[.int .u64 aX, .int .u64 aY, .int .u64 aT, .int .u64 aN] := Blk.next (by repeat (first | (refine Blk.new_at ?_; simp only [World.size_alloc]; done) | (with_reducible refine Blk.alloc ?_ _) | (with_reducible refine Blk.drewN ?_ _))) hb1
    have Db := Dm
    clear Dm
    have Dc0 : World.cell? w1 ⟨w.heap.size + 1, 0, none⟩ = some (.int .u64 aX) := Db.get 0 rfl
    have Df0 := Blk.frozen Db 0
    have Dc1 : World.cell? w1 ⟨w.heap.size + 1, 1, none⟩ = some (.int .u64 aY) := Db.get 1 rfl
    have Df1 := Blk.frozen Db 1
    have Dc2 : World.cell? w1 ⟨w.heap.size + 1, 2, none⟩ = some (.int .u64 aT) := Db.get 2 rfl
    have Df2 := Blk.frozen Db 2
    have Dc3 : World.cell? w1 ⟨w.heap.size + 1, 3, none⟩ = some (.int .u64 aN) := Db.get 3 rfl
    have Df3 := Blk.frozen Db 3
    have Dn := Blk.lt Db
    have B1 : Below w.heap.size w w1 := by first | with_reducible exact hb1 | exact Below.trans (by go_grown) (hb1.mono (by simp only [World.size_alloc]; omega))
    clear hb1
    go_wp2_with fail
    with_reducible refine (SM.out _ B1).mono ?_
    rintro e w2 ⟨p, rfl, hp, hq, hb2⟩
    have Cm : Blk w2 (w.heap.size) 24 #[.int .u64 F, .int .u64 L, .int .u64 R] := Blk.next (by repeat (first | (with_reducible exact Cb) | (refine Blk.new_at ?_; simp only [World.size_alloc]; done) | (with_reducible refine Blk.alloc ?_ _) | (with_reducible refine Blk.drewN ?_ _))) hb2
    clear Cn Cb Cc0 Cf0 Cc1 Cf1 Cc2 Cf2
    have Cb := Cm
    clear Cm
    have Cc0 : World.cell? w2 ⟨w.heap.size, 0, none⟩ = some (.int .u64 F) := Cb.get 0 rfl
    have Cf0 := Blk.frozen Cb 0
    have Cc1 : World.cell? w2 ⟨w.heap.size, 1, none⟩ = some (.int .u64 L) := Cb.get 1 rfl
    have Cf1 := Blk.frozen Cb 1
    have Cc2 : World.cell? w2 ⟨w.heap.size, 2, none⟩ = some (.int .u64 R) := Cb.get 2 rfl
    have Cf2 := Blk.frozen Cb 2
    have Cn := Blk.lt Cb
    have Dm : Blk w2 (w.heap.size + 1) 31 #[.int .u64 aX, .int .u64 aY, .int .u64 aT, .int .u64 aN] := Blk.next (by repeat (first | (with_reducible exact Db) | (refine Blk.new_at ?_; simp only [World.size_alloc]; done) | (with_reducible refine Blk.alloc ?_ _) | (with_reducible refine Blk.drewN ?_ _))) hb2
    clear Dn Db Dc0 Df0 Dc1 Df1 Dc2 Df2 Dc3 Df3
    have Db := Dm
    clear Dm
    have Dc0 : World.cell? w2 ⟨w.heap.size + 1, 0, none⟩ = some (.int .u64 aX) := Db.get 0 rfl
    have Df0 := Blk.frozen Db 0
    have Dc1 : World.cell? w2 ⟨w.heap.size + 1, 1, none⟩ = some (.int .u64 aY) := Db.get 1 rfl
    have Df1 := Blk.frozen Db 1
    have Dc2 : World.cell? w2 ⟨w.heap.size + 1, 2, none⟩ = some (.int .u64 aT) := Db.get 2 rfl
    have Df2 := Blk.frozen Db 2
    have Dc3 : World.cell? w2 ⟨w.heap.size + 1, 3, none⟩ = some (.int .u64 aN) := Db.get 3 rfl
    have Df3 := Blk.frozen Db 3
    have Dn := Blk.lt Db
    have B2 : Below w.heap.size w w2 := by first | with_reducible exact below_next B1 hb2 | exact below_step B1 (by go_grown) hb2
    clear hb2 B1
    have HQ := Lib.hid hq
    clear hq
    go_wp2_with fail
    with_reducible refine (LA.out _ _ HQ.out).mono ?_
    rintro e w3 ⟨rfl, hb3⟩
    have Cm : Blk w3 (w.heap.size) 24 #[.int .u64 F, .int .u64 L, .int .u64 R] := Blk.next (by repeat (first | (with_reducible exact Cb) | (refine Blk.new_at ?_; simp only [World.size_alloc]; done) | (with_reducible refine Blk.alloc ?_ _) | (with_reducible refine Blk.drewN ?_ _))) hb3
    clear Cn Cb Cc0 Cf0 Cc1 Cf1 Cc2 Cf2
    have Cb := Cm
    clear Cm
    have Cc0 : World.cell? w3 ⟨w.heap.size, 0, none⟩ = some (.int .u64 F) := Cb.get 0 rfl
    have Cf0 := Blk.frozen Cb 0
    have Cc1 : World.cell? w3 ⟨w.heap.size, 1, none⟩ = some (.int .u64 L) := Cb.get 1 rfl
    have Cf1 := Blk.frozen Cb 1
    have Cc2 : World.cell? w3 ⟨w.heap.size, 2, none⟩ = some (.int .u64 R) := Cb.get 2 rfl
    have Cf2 := Blk.frozen Cb 2
    have Cn := Blk.lt Cb
    have Dm : Blk w3 (w.heap.size + 1) 31 #[.int .u64 aX, .int .u64 aY, .int .u64 aT, .int .u64 aN] := Blk.next (by repeat (first | (with_reducible exact Db) | (refine Blk.new_at ?_; simp only [World.size_alloc]; done) | (with_reducible refine Blk.alloc ?_ _) | (with_reducible refine Blk.drewN ?_ _))) hb3
    clear Dn Db Dc0 Df0 Dc1 Df1 Dc2 Df2 Dc3 Df3
    have Db := Dm
    clear Dm
    have Dc0 : World.cell? w3 ⟨w.heap.size + 1, 0, none⟩ = some (.int .u64 aX) := Db.get 0 rfl
    have Df0 := Blk.frozen Db 0
    have Dc1 : World.cell? w3 ⟨w.heap.size + 1, 1, none⟩ = some (.int .u64 aY) := Db.get 1 rfl
    have Df1 := Blk.frozen Db 1
    have Dc2 : World.cell? w3 ⟨w.heap.size + 1, 2, none⟩ = some (.int .u64 aT) := Db.get 2 rfl
    have Df2 := Blk.frozen Db 2
    have Dc3 : World.cell? w3 ⟨w.heap.size + 1, 3, none⟩ = some (.int .u64 aN) := Db.get 3 rfl
    have Df3 := Blk.frozen Db 3
    have Dn := Blk.lt Db
    replace HQ := Lib.hid (HQ.out.next hb3)
    have B3 : Below w.heap.size w w3 := by first | with_reducible exact below_next B2 hb3 | exact below_step B2 (by go_grown) hb3
    clear hb3 B2
    go_wp2_with fail
    go_ret
    exact ⟨by simp, B3⟩
  have ht' : t < 4611686018427387904 := by omega
  clear ha ht
  have eX : nextX x aX = max aX x := by unfold nextX; omega
  have gx : x ≤ max aX x := by omega
  have gx1 : max aX x ≤ 9223372036854775808 := by omega
  have hO : 0 ≤ (F - R) * L := Int.mul_nonneg (by omega) my.l0
  have M1 := MD.next (X := aX) waY.1
  have tF := twice_same (x := x) (h := f) (X := aX) (Y := aY) n0 my.f0 (Int.le_refl 0) MD.f0 waY.1 hx1
  have tR := twice_same (x := x) (h := r) (X := aX) (Y := aY) n0 my.r0 hO MD.r0 waY.1 hx1
  have le1 := more_le (X := aX) (Y := aY) (t := max t (max aX x)) MD n0 waY.1 (by omega)
  have on := on_same (X := max aX x) MD n0 gx gx1
  have vb := has_bounds (x := x) (t := max aX x) my.f0 my.r0 MD.f0 MD.r0
  have le2 := more_le (X := max aX x) (Y := hasN F R x f r (max aX x)) (t := max t (max aX x)) MD n0 vb.1 (by rw [on.1]; omega)
  have M2 := MD.next (X := max aX x) (Y := hasN F R x f r (max aX x)) vb.1
  rw [eX] at M1 tF tR le1
  rw [on.1] at le2 M2
  obtain ⟨f1, ef1⟩ : ∃ z, nextH F 0 n x f aX aY = z := ⟨_, rfl⟩
  obtain ⟨r1, er1⟩ : ∃ z, nextH R ((F - R) * L) n x r aX aY = z := ⟨_, rfl⟩
  rw [ef1, er1] at M1 le1
  rw [ef1] at tF
  rw [er1] at tR
  obtain ⟨v, ev⟩ : ∃ z, hasN F R x f r (max aX x) = z := ⟨_, rfl⟩
  rw [ev] at on vb le2 M2
  obtain ⟨f2, ef2⟩ : ∃ z, nextH F 0 n x f (max aX x) v = z := ⟨_, rfl⟩
  obtain ⟨r2, er2⟩ : ∃ z, nextH R ((F - R) * L) n x r (max aX x) v = z := ⟨_, rfl⟩
  rw [ef2, er2] at on le2 M2
  have CB := Lib.hid (fun q w h => bcopy_made q F L R n x f r w h)
  have S1 := Lib.hid (fun q w h => bstart_val q F L R n x f r aX aY (n + 1) (max aX x) f1 r1 w h MD (by omega) waX waY rfl eX ef1 er1)
  have CM := Lib.hid (fun q w h => bcopy_made q F L R (n + 1) (max aX x) f1 r1 w h)
  have S2 := Lib.hid (fun q w h => bstart_val q F L R (n + 1) (max aX x) f1 r1 aX aY (n + 2) (max aX x) f1 r1 w h M1 (by omega) waX waY (by omega) tF.1 tF.2 tR.2)
  have S3 := Lib.hid (fun q w h => bstart_val q F L R n x f r (max aX x) v (n + 1) (max aX x) f2 r2 w h MD (by omega) ⟨by omega, by omega⟩ ⟨by omega, by omega⟩ rfl on.1 ef2 er2)
  have M3 : Made F L R (n + 2) (max aX x) f1 r1 := by
    have := M1.next (X := aX) waY.1
    rw [tF.1, tF.2, tR.2] at this
    rw [show (n : Int) + 2 = (n : Int) + 1 + 1 by omega]; exact this
  obtain ⟨vt, evt⟩ : ∃ z, hasN F R x f r (max t (max aX x)) = z := ⟨_, rfl⟩
  obtain ⟨vm, evm⟩ : ∃ z, hasN F R (max aX x) f1 r1 (max t (max aX x)) = z := ⟨_, rfl⟩
  obtain ⟨vo, evo⟩ : ∃ z, hasN F R (max aX x) f2 r2 (max t (max aX x)) = z := ⟨_, rfl⟩
  rw [evt, evm] at le1
  rw [evt, evo] at le2
  have wtt : Word (max t (max aX x)) := ⟨by omega, by omega⟩
  have Ab := Lib.hid (fun q w h => bat_m q F L R n x f r (max t (max aX x)) vt w h MD n0 wtt evt)
  have Am := Lib.hid (fun q w h => bat_m q F L R (n + 1) (max aX x) f1 r1 (max t (max aX x)) vm w h M1 (by omega) wtt evm)
  have At := Lib.hid (fun q w h => bat_m q F L R (n + 2) (max aX x) f1 r1 (max t (max aX x)) vm w h M3 (by omega) wtt evm)
  have Ao := Lib.hid (fun q w h => bat_m q F L R (n + 1) (max aX x) f2 r2 (max t (max aX x)) vo w h M2 (by omega) wtt evo)
  have Xb := Lib.hid (fun q w h => bat_m q F L R n x f r (max aX x) v w h MD n0 ⟨by omega, by omega⟩ ev)
  have Xo := Lib.hid (fun q w h => bat_m q F L R (n + 1) (max aX x) f2 r2 (max aX x) v w h M2 (by omega) ⟨by omega, by omega⟩ on.2)
  have Nm := Lib.hid (fun q w h => starts_b q F L R (n + 1) (max aX x) f1 r1 w h (by omega))
  have Nt := Lib.hid (fun q w h => starts_b q F L R (n + 2) (max aX x) f1 r1 w h (by omega))
  have le1' : ¬ vt < vm := by omega
  have ne : ((n : Int) + 2 != (n : Int) + 1 + 1) = false := by simp; omega
  have vv : (v == v) = true := by simp
  have vm' : (vm != vm) = false := by simp
  clear eX gx gx1 hO M1 M2 M3 MD tF tR on vb ef1 er1 ev ef2 er2 evt evm evo wtt
  go_enter Try.func7, Try.ntmps7
  go_wp2_with fail
  with_reducible refine (AW.out _).mono ?_
  rintro e w1 ⟨rfl, hb1⟩
  have Cm : Blk w1 (w.heap.size) 24 #[.int .u64 F, .int .u64 L, .int .u64 R] := Blk.next (by repeat (first | (refine Blk.new_at ?_; simp only [World.size_alloc]; done) | (with_reducible refine Blk.alloc ?_ _) | (with_reducible refine Blk.drewN ?_ _))) hb1
  have Cb := Cm
  clear Cm
  have Cc0 : World.cell? w1 ⟨w.heap.size, 0, none⟩ = some (.int .u64 F) := Cb.get 0 rfl
  have Cf0 := Blk.frozen Cb 0
  have Cc1 : World.cell? w1 ⟨w.heap.size, 1, none⟩ = some (.int .u64 L) := Cb.get 1 rfl
  have Cf1 := Blk.frozen Cb 1
  have Cc2 : World.cell? w1 ⟨w.heap.size, 2, none⟩ = some (.int .u64 R) := Cb.get 2 rfl
  have Cf2 := Blk.frozen Cb 2
  have Cn := Blk.lt Cb
  have Dm : Blk w1 (w.heap.size + 1) 31 #[.int .u64 aX, .int .u64 aY, .int .u64 aT, .int .u64 aN] := Blk.next (by repeat (first | (refine Blk.new_at ?_; simp only [World.size_alloc]; done) | (with_reducible refine Blk.alloc ?_ _) | (with_reducible refine Blk.drewN ?_ _))) hb1
  have Db := Dm
  clear Dm
  have Dc0 : World.cell? w1 ⟨w.heap.size + 1, 0, none⟩ = some (.int .u64 aX) := Db.get 0 rfl
  have Df0 := Blk.frozen Db 0
  have Dc1 : World.cell? w1 ⟨w.heap.size + 1, 1, none⟩ = some (.int .u64 aY) := Db.get 1 rfl
  have Df1 := Blk.frozen Db 1
  have Dc2 : World.cell? w1 ⟨w.heap.size + 1, 2, none⟩ = some (.int .u64 aT) := Db.get 2 rfl
  have Df2 := Blk.frozen Db 2
  have Dc3 : World.cell? w1 ⟨w.heap.size + 1, 3, none⟩ = some (.int .u64 aN) := Db.get 3 rfl
  have Df3 := Blk.frozen Db 3
  have Dn := Blk.lt Db
  have B1 : Below w.heap.size w w1 := by first | with_reducible exact hb1 | exact Below.trans (by go_grown) (hb1.mono (by simp only [World.size_alloc]; omega))
  clear hb1
  have z1 := Dn
  go_wp2_with fail
  with_reducible refine (SM.out _ B1).mono ?_
  rintro e w2 ⟨p, rfl, hp, hq, hb2⟩
  have Cm : Blk w2 (w.heap.size) 24 #[.int .u64 F, .int .u64 L, .int .u64 R] := Blk.next (by repeat (first | (with_reducible exact Cb) | (refine Blk.new_at ?_; simp only [World.size_alloc]; done) | (with_reducible refine Blk.alloc ?_ _) | (with_reducible refine Blk.drewN ?_ _))) hb2
  clear Cn Cb Cc0 Cf0 Cc1 Cf1 Cc2 Cf2
  have Cb := Cm
  clear Cm
  have Cc0 : World.cell? w2 ⟨w.heap.size, 0, none⟩ = some (.int .u64 F) := Cb.get 0 rfl
  have Cf0 := Blk.frozen Cb 0
  have Cc1 : World.cell? w2 ⟨w.heap.size, 1, none⟩ = some (.int .u64 L) := Cb.get 1 rfl
  have Cf1 := Blk.frozen Cb 1
  have Cc2 : World.cell? w2 ⟨w.heap.size, 2, none⟩ = some (.int .u64 R) := Cb.get 2 rfl
  have Cf2 := Blk.frozen Cb 2
  have Cn := Blk.lt Cb
  have Dm : Blk w2 (w.heap.size + 1) 31 #[.int .u64 aX, .int .u64 aY, .int .u64 aT, .int .u64 aN] := Blk.next (by repeat (first | (with_reducible exact Db) | (refine Blk.new_at ?_; simp only [World.size_alloc]; done) | (with_reducible refine Blk.alloc ?_ _) | (with_reducible refine Blk.drewN ?_ _))) hb2
  clear Dn Db Dc0 Df0 Dc1 Df1 Dc2 Df2 Dc3 Df3
  have Db := Dm
  clear Dm
  have Dc0 : World.cell? w2 ⟨w.heap.size + 1, 0, none⟩ = some (.int .u64 aX) := Db.get 0 rfl
  have Df0 := Blk.frozen Db 0
  have Dc1 : World.cell? w2 ⟨w.heap.size + 1, 1, none⟩ = some (.int .u64 aY) := Db.get 1 rfl
  have Df1 := Blk.frozen Db 1
  have Dc2 : World.cell? w2 ⟨w.heap.size + 1, 2, none⟩ = some (.int .u64 aT) := Db.get 2 rfl
  have Df2 := Blk.frozen Db 2
  have Dc3 : World.cell? w2 ⟨w.heap.size + 1, 3, none⟩ = some (.int .u64 aN) := Db.get 3 rfl
  have Df3 := Blk.frozen Db 3
  have Dn := Blk.lt Db
  have B2 : Below w.heap.size w w2 := by first | with_reducible exact below_next B1 hb2 | exact below_step B1 (by go_grown) hb2
  clear hb2 B1
  have HQ := Lib.hid hq
  have zp := HQ.out.lt
  have zp1 : w.heap.size + 1 < p := by omega
  clear hq hp z1
  go_wp2_with fail
  with_reducible refine (LA.out _ _ HQ.out).mono ?_
  rintro e w3 ⟨rfl, hb3⟩
  have Cm : Blk w3 (w.heap.size) 24 #[.int .u64 F, .int .u64 L, .int .u64 R] := Blk.next (by repeat (first | (with_reducible exact Cb) | (refine Blk.new_at ?_; simp only [World.size_alloc]; done) | (with_reducible refine Blk.alloc ?_ _) | (with_reducible refine Blk.drewN ?_ _))) hb3
  clear Cn Cb Cc0 Cf0 Cc1 Cf1 Cc2 Cf2
  have Cb := Cm
  clear Cm
  have Cc0 : World.cell? w3 ⟨w.heap.size, 0, none⟩ = some (.int .u64 F) := Cb.get 0 rfl
  have Cf0 := Blk.frozen Cb 0
  have Cc1 : World.cell? w3 ⟨w.heap.size, 1, none⟩ = some (.int .u64 L) := Cb.get 1 rfl
  have Cf1 := Blk.frozen Cb 1
  have Cc2 : World.cell? w3 ⟨w.heap.size, 2, none⟩ = some (.int .u64 R) := Cb.get 2 rfl
  have Cf2 := Blk.frozen Cb 2
  have Cn := Blk.lt Cb
  have Dm : Blk w3 (w.heap.size + 1) 31 #[.int .u64 aX, .int .u64 aY, .int .u64 aT, .int .u64 aN] := Blk.next (by repeat (first | (with_reducible exact Db) | (refine Blk.new_at ?_; simp only [World.size_alloc]; done) | (with_reducible refine Blk.alloc ?_ _) | (with_reducible refine Blk.drewN ?_ _))) hb3
  clear Dn Db Dc0 Df0 Dc1 Df1 Dc2 Df2 Dc3 Df3
  have Db := Dm
  clear Dm
  have Dc0 : World.cell? w3 ⟨w.heap.size + 1, 0, none⟩ = some (.int .u64 aX) := Db.get 0 rfl
  have Df0 := Blk.frozen Db 0
  have Dc1 : World.cell? w3 ⟨w.heap.size + 1, 1, none⟩ = some (.int .u64 aY) := Db.get 1 rfl
  have Df1 := Blk.frozen Db 1
  have Dc2 : World.cell? w3 ⟨w.heap.size + 1, 2, none⟩ = some (.int .u64 aT) := Db.get 2 rfl
  have Df2 := Blk.frozen Db 2
  have Dc3 : World.cell? w3 ⟨w.heap.size + 1, 3, none⟩ = some (.int .u64 aN) := Db.get 3 rfl
  have Df3 := Blk.frozen Db 3
  have Dn := Blk.lt Db
  replace HQ := Lib.hid (HQ.out.next hb3)
  have B3 : Below w.heap.size w w3 := by first | with_reducible exact below_next B2 hb3 | exact below_step B2 (by go_grown) hb3
  clear hb3 B2
  have zp2 := HQ.out.lt
  go_wp2_with fail
  with_reducible refine (CB.out _ _ HQ.out).mono ?_
  rintro e w4 ⟨p2, rfl, hp2, hq2, hb4⟩
  have Cm : Blk w4 (w.heap.size) 24 #[.int .u64 F, .int .u64 L, .int .u64 R] := Blk.next (by repeat (first | (with_reducible exact Cb) | (refine Blk.new_at ?_; simp only [World.size_alloc]; done) | (with_reducible refine Blk.alloc ?_ _) | (with_reducible refine Blk.drewN ?_ _))) hb4
  clear Cn Cb Cc0 Cf0 Cc1 Cf1 Cc2 Cf2
  have Cb := Cm
  clear Cm
  have Cc0 : World.cell? w4 ⟨w.heap.size, 0, none⟩ = some (.int .u64 F) := Cb.get 0 rfl
  have Cf0 := Blk.frozen Cb 0
  have Cc1 : World.cell? w4 ⟨w.heap.size, 1, none⟩ = some (.int .u64 L) := Cb.get 1 rfl
  have Cf1 := Blk.frozen Cb 1
  have Cc2 : World.cell? w4 ⟨w.heap.size, 2, none⟩ = some (.int .u64 R) := Cb.get 2 rfl
  have Cf2 := Blk.frozen Cb 2
  have Cn := Blk.lt Cb
  have Dm : Blk w4 (w.heap.size + 1) 31 #[.int .u64 aX, .int .u64 aY, .int .u64 aT, .int .u64 aN] := Blk.next (by repeat (first | (with_reducible exact Db) | (refine Blk.new_at ?_; simp only [World.size_alloc]; done) | (with_reducible refine Blk.alloc ?_ _) | (with_reducible refine Blk.drewN ?_ _))) hb4
  clear Dn Db Dc0 Df0 Dc1 Df1 Dc2 Df2 Dc3 Df3
  have Db := Dm
  clear Dm
  have Dc0 : World.cell? w4 ⟨w.heap.size + 1, 0, none⟩ = some (.int .u64 aX) := Db.get 0 rfl
  have Df0 := Blk.frozen Db 0
  have Dc1 : World.cell? w4 ⟨w.heap.size + 1, 1, none⟩ = some (.int .u64 aY) := Db.get 1 rfl
  have Df1 := Blk.frozen Db 1
  have Dc2 : World.cell? w4 ⟨w.heap.size + 1, 2, none⟩ = some (.int .u64 aT) := Db.get 2 rfl
  have Df2 := Blk.frozen Db 2
  have Dc3 : World.cell? w4 ⟨w.heap.size + 1, 3, none⟩ = some (.int .u64 aN) := Db.get 3 rfl
  have Df3 := Blk.frozen Db 3
  have Dn := Blk.lt Db
  replace HQ := Lib.hid (HQ.out.next hb4)
  have B4 : Below w.heap.size w w4 := by first | with_reducible exact below_next B3 hb4 | exact below_step B3 (by go_grown) hb4
  clear hb4 B3
  have HM := Lib.hid hq2
  have zm : p < p2 := by omega
  have zm1 := HM.out.lt
  clear hq2 zp zp2 hp2
  go_wp2_with fail
  with_reducible refine (S1.out _ _ HM.out).mono ?_
  rintro e w5 ⟨rfl, hq3, hf5⟩
  have Cm : Blk w5 (w.heap.size) 24 #[.int .u64 F, .int .u64 L, .int .u64 R] := Blk.fr Cb hf5 (by show ¬ _ = _; omega)
  clear Cn Cb Cc0 Cf0 Cc1 Cf1 Cc2 Cf2
  have Cb := Cm
  clear Cm
  have Cc0 : World.cell? w5 ⟨w.heap.size, 0, none⟩ = some (.int .u64 F) := Cb.get 0 rfl
  have Cf0 := Blk.frozen Cb 0
  have Cc1 : World.cell? w5 ⟨w.heap.size, 1, none⟩ = some (.int .u64 L) := Cb.get 1 rfl
  have Cf1 := Blk.frozen Cb 1
  have Cc2 : World.cell? w5 ⟨w.heap.size, 2, none⟩ = some (.int .u64 R) := Cb.get 2 rfl
  have Cf2 := Blk.frozen Cb 2
  have Cn := Blk.lt Cb
  have Dm : Blk w5 (w.heap.size + 1) 31 #[.int .u64 aX, .int .u64 aY, .int .u64 aT, .int .u64 aN] := Blk.fr Db hf5 (by show ¬ _ = _; omega)
  clear Dn Db Dc0 Df0 Dc1 Df1 Dc2 Df2 Dc3 Df3
  have Db := Dm
  clear Dm
  have Dc0 : World.cell? w5 ⟨w.heap.size + 1, 0, none⟩ = some (.int .u64 aX) := Db.get 0 rfl
  have Df0 := Blk.frozen Db 0
  have Dc1 : World.cell? w5 ⟨w.heap.size + 1, 1, none⟩ = some (.int .u64 aY) := Db.get 1 rfl
  have Df1 := Blk.frozen Db 1
  have Dc2 : World.cell? w5 ⟨w.heap.size + 1, 2, none⟩ = some (.int .u64 aT) := Db.get 2 rfl
  have Df2 := Blk.frozen Db 2
  have Dc3 : World.cell? w5 ⟨w.heap.size + 1, 3, none⟩ = some (.int .u64 aN) := Db.get 3 rfl
  have Df3 := Blk.frozen Db 3
  have Dn := Blk.lt Db
  replace HQ := Lib.hid (HQ.out.fr hf5 (by show ¬ _ = _; omega))
  have B5 : Below w.heap.size w w5 := B4.trans (hf5.below (B := w.heap.size) B4.size (fun k hk e => by omega))
  clear hf5 B4
  replace HM := Lib.hid hq3
  clear hq3
  have zm2 := HM.out.lt
  go_wp2_with fail
  with_reducible refine (CM.out _ _ HM.out).mono ?_
  rintro e w6 ⟨p3, rfl, hp3, hq3, hb6⟩
  have Cm : Blk w6 (w.heap.size) 24 #[.int .u64 F, .int .u64 L, .int .u64 R] := Blk.next (by repeat (first | (with_reducible exact Cb) | (refine Blk.new_at ?_; simp only [World.size_alloc]; done) | (with_reducible refine Blk.alloc ?_ _) | (with_reducible refine Blk.drewN ?_ _))) hb6
  clear Cn Cb Cc0 Cf0 Cc1 Cf1 Cc2 Cf2
  have Cb := Cm
  clear Cm
  have Cc0 : World.cell? w6 ⟨w.heap.size, 0, none⟩ = some (.int .u64 F) := Cb.get 0 rfl
  have Cf0 := Blk.frozen Cb 0
  have Cc1 : World.cell? w6 ⟨w.heap.size, 1, none⟩ = some (.int .u64 L) := Cb.get 1 rfl
  have Cf1 := Blk.frozen Cb 1
  have Cc2 : World.cell? w6 ⟨w.heap.size, 2, none⟩ = some (.int .u64 R) := Cb.get 2 rfl
  have Cf2 := Blk.frozen Cb 2
  have Cn := Blk.lt Cb
  have Dm : Blk w6 (w.heap.size + 1) 31 #[.int .u64 aX, .int .u64 aY, .int .u64 aT, .int .u64 aN] := Blk.next (by repeat (first | (with_reducible exact Db) | (refine Blk.new_at ?_; simp only [World.size_alloc]; done) | (with_reducible refine Blk.alloc ?_ _) | (with_reducible refine Blk.drewN ?_ _))) hb6
  clear Dn Db Dc0 Df0 Dc1 Df1 Dc2 Df2 Dc3 Df3
  have Db := Dm
  clear Dm
  have Dc0 : World.cell? w6 ⟨w.heap.size + 1, 0, none⟩ = some (.int .u64 aX) := Db.get 0 rfl
  have Df0 := Blk.frozen Db 0
  have Dc1 : World.cell? w6 ⟨w.heap.size + 1, 1, none⟩ = some (.int .u64 aY) := Db.get 1 rfl
  have Df1 := Blk.frozen Db 1
  have Dc2 : World.cell? w6 ⟨w.heap.size + 1, 2, none⟩ = some (.int .u64 aT) := Db.get 2 rfl
  have Df2 := Blk.frozen Db 2
  have Dc3 : World.cell? w6 ⟨w.heap.size + 1, 3, none⟩ = some (.int .u64 aN) := Db.get 3 rfl
  have Df3 := Blk.frozen Db 3
  have Dn := Blk.lt Db
  replace HQ := Lib.hid (HQ.out.next hb6)
  replace HM := Lib.hid (HM.out.next hb6)
  have B6 : Below w.heap.size w w6 := by first | with_reducible exact below_next B5 hb6 | exact below_step B5 (by go_grown) hb6
  clear hb6 B5
  have HT := Lib.hid hq3
  have zt : p2 < p3 := by omega
  clear hq3 zm1 zm2 hp3
  go_wp2_with fail
  with_reducible refine (S2.out _ _ HT.out).mono ?_
  rintro e w7 ⟨rfl, hq4, hf7⟩
  have Cm : Blk w7 (w.heap.size) 24 #[.int .u64 F, .int .u64 L, .int .u64 R] := Blk.fr Cb hf7 (by show ¬ _ = _; omega)
  clear Cn Cb Cc0 Cf0 Cc1 Cf1 Cc2 Cf2
  have Cb := Cm
  clear Cm
  have Cc0 : World.cell? w7 ⟨w.heap.size, 0, none⟩ = some (.int .u64 F) := Cb.get 0 rfl
  have Cf0 := Blk.frozen Cb 0
  have Cc1 : World.cell? w7 ⟨w.heap.size, 1, none⟩ = some (.int .u64 L) := Cb.get 1 rfl
  have Cf1 := Blk.frozen Cb 1
  have Cc2 : World.cell? w7 ⟨w.heap.size, 2, none⟩ = some (.int .u64 R) := Cb.get 2 rfl
  have Cf2 := Blk.frozen Cb 2
  have Cn := Blk.lt Cb
  have Dm : Blk w7 (w.heap.size + 1) 31 #[.int .u64 aX, .int .u64 aY, .int .u64 aT, .int .u64 aN] := Blk.fr Db hf7 (by show ¬ _ = _; omega)
  clear Dn Db Dc0 Df0 Dc1 Df1 Dc2 Df2 Dc3 Df3
  have Db := Dm
  clear Dm
  have Dc0 : World.cell? w7 ⟨w.heap.size + 1, 0, none⟩ = some (.int .u64 aX) := Db.get 0 rfl
  have Df0 := Blk.frozen Db 0
  have Dc1 : World.cell? w7 ⟨w.heap.size + 1, 1, none⟩ = some (.int .u64 aY) := Db.get 1 rfl
  have Df1 := Blk.frozen Db 1
  have Dc2 : World.cell? w7 ⟨w.heap.size + 1, 2, none⟩ = some (.int .u64 aT) := Db.get 2 rfl
  have Df2 := Blk.frozen Db 2
  have Dc3 : World.cell? w7 ⟨w.heap.size + 1, 3, none⟩ = some (.int .u64 aN) := Db.get 3 rfl
  have Df3 := Blk.frozen Db 3
  have Dn := Blk.lt Db
  replace HQ := Lib.hid (HQ.out.fr hf7 (by show ¬ _ = _; omega))
  replace HM := Lib.hid (HM.out.fr hf7 (by show ¬ _ = _; omega))
  have B7 : Below w.heap.size w w7 := B6.trans (hf7.below (B := w.heap.size) B6.size (fun k hk e => by omega))
  clear hf7 B6
  replace HT := Lib.hid hq4
  clear hq4
  go_wp2_with fail
  with_reducible refine (Am.out _ _ HM.out).mono ?_
  rintro e w8 ⟨rfl, hb8⟩
  have Cm : Blk w8 (w.heap.size) 24 #[.int .u64 F, .int .u64 L, .int .u64 R] := Blk.next (by repeat (first | (with_reducible exact Cb) | (refine Blk.new_at ?_; simp only [World.size_alloc]; done) | (with_reducible refine Blk.alloc ?_ _) | (with_reducible refine Blk.drewN ?_ _))) hb8
  clear Cn Cb Cc0 Cf0 Cc1 Cf1 Cc2 Cf2
  have Cb := Cm
  clear Cm
  have Cc0 : World.cell? w8 ⟨w.heap.size, 0, none⟩ = some (.int .u64 F) := Cb.get 0 rfl
  have Cf0 := Blk.frozen Cb 0
  have Cc1 : World.cell? w8 ⟨w.heap.size, 1, none⟩ = some (.int .u64 L) := Cb.get 1 rfl
  have Cf1 := Blk.frozen Cb 1
  have Cc2 : World.cell? w8 ⟨w.heap.size, 2, none⟩ = some (.int .u64 R) := Cb.get 2 rfl
  have Cf2 := Blk.frozen Cb 2
  have Cn := Blk.lt Cb
  have Dm : Blk w8 (w.heap.size + 1) 31 #[.int .u64 aX, .int .u64 aY, .int .u64 aT, .int .u64 aN] := Blk.next (by repeat (first | (with_reducible exact Db) | (refine Blk.new_at ?_; simp only [World.size_alloc]; done) | (with_reducible refine Blk.alloc ?_ _) | (with_reducible refine Blk.drewN ?_ _))) hb8
  clear Dn Db Dc0 Df0 Dc1 Df1 Dc2 Df2 Dc3 Df3
  have Db := Dm
  clear Dm
  have Dc0 : World.cell? w8 ⟨w.heap.size + 1, 0, none⟩ = some (.int .u64 aX) := Db.get 0 rfl
  have Df0 := Blk.frozen Db 0
  have Dc1 : World.cell? w8 ⟨w.heap.size + 1, 1, none⟩ = some (.int .u64 aY) := Db.get 1 rfl
  have Df1 := Blk.frozen Db 1
  have Dc2 : World.cell? w8 ⟨w.heap.size + 1, 2, none⟩ = some (.int .u64 aT) := Db.get 2 rfl
  have Df2 := Blk.frozen Db 2
  have Dc3 : World.cell? w8 ⟨w.heap.size + 1, 3, none⟩ = some (.int .u64 aN) := Db.get 3 rfl
  have Df3 := Blk.frozen Db 3
  have Dn := Blk.lt Db
  replace HQ := Lib.hid (HQ.out.next hb8)
  replace HM := Lib.hid (HM.out.next hb8)
  replace HT := Lib.hid (HT.out.next hb8)
  have B8 : Below w.heap.size w w8 := by first | with_reducible exact below_next B7 hb8 | exact below_step B7 (by go_grown) hb8
  clear hb8 B7
  go_wp2_with fail
  with_reducible refine (Ab.out _ _ HQ.out).mono ?_
  rintro e w9 ⟨rfl, hb9⟩
  have Cm : Blk w9 (w.heap.size) 24 #[.int .u64 F, .int .u64 L, .int .u64 R] := Blk.next (by repeat (first | (with_reducible exact Cb) | (refine Blk.new_at ?_; simp only [World.size_alloc]; done) | (with_reducible refine Blk.alloc ?_ _) | (with_reducible refine Blk.drewN ?_ _))) hb9
  clear Cn Cb Cc0 Cf0 Cc1 Cf1 Cc2 Cf2
  have Cb := Cm
  clear Cm
  have Cc0 : World.cell? w9 ⟨w.heap.size, 0, none⟩ = some (.int .u64 F) := Cb.get 0 rfl
  have Cf0 := Blk.frozen Cb 0
  have Cc1 : World.cell? w9 ⟨w.heap.size, 1, none⟩ = some (.int .u64 L) := Cb.get 1 rfl
  have Cf1 := Blk.frozen Cb 1
  have Cc2 : World.cell? w9 ⟨w.heap.size, 2, none⟩ = some (.int .u64 R) := Cb.get 2 rfl
  have Cf2 := Blk.frozen Cb 2
  have Cn := Blk.lt Cb
  have Dm : Blk w9 (w.heap.size + 1) 31 #[.int .u64 aX, .int .u64 aY, .int .u64 aT, .int .u64 aN] := Blk.next (by repeat (first | (with_reducible exact Db) | (refine Blk.new_at ?_; simp only [World.size_alloc]; done) | (with_reducible refine Blk.alloc ?_ _) | (with_reducible refine Blk.drewN ?_ _))) hb9
  clear Dn Db Dc0 Df0 Dc1 Df1 Dc2 Df2 Dc3 Df3
  have Db := Dm
  clear Dm
  have Dc0 : World.cell? w9 ⟨w.heap.size + 1, 0, none⟩ = some (.int .u64 aX) := Db.get 0 rfl
  have Df0 := Blk.frozen Db 0
  have Dc1 : World.cell? w9 ⟨w.heap.size + 1, 1, none⟩ = some (.int .u64 aY) := Db.get 1 rfl
  have Df1 := Blk.frozen Db 1
  have Dc2 : World.cell? w9 ⟨w.heap.size + 1, 2, none⟩ = some (.int .u64 aT) := Db.get 2 rfl
  have Df2 := Blk.frozen Db 2
  have Dc3 : World.cell? w9 ⟨w.heap.size + 1, 3, none⟩ = some (.int .u64 aN) := Db.get 3 rfl
  have Df3 := Blk.frozen Db 3
  have Dn := Blk.lt Db
  replace HQ := Lib.hid (HQ.out.next hb9)
  replace HM := Lib.hid (HM.out.next hb9)
  replace HT := Lib.hid (HT.out.next hb9)
  have B9 : Below w.heap.size w w9 := by first | with_reducible exact below_next B8 hb9 | exact below_step B8 (by go_grown) hb9
  clear hb9 B8
  go_wp2_with fail
  with_reducible refine (At.out _ _ HT.out).mono ?_
  rintro e w10 ⟨rfl, hb10⟩
  have Cm : Blk w10 (w.heap.size) 24 #[.int .u64 F, .int .u64 L, .int .u64 R] := Blk.next (by repeat (first | (with_reducible exact Cb) | (refine Blk.new_at ?_; simp only [World.size_alloc]; done) | (with_reducible refine Blk.alloc ?_ _) | (with_reducible refine Blk.drewN ?_ _))) hb10
  clear Cn Cb Cc0 Cf0 Cc1 Cf1 Cc2 Cf2
  have Cb := Cm
  clear Cm
  have Cc0 : World.cell? w10 ⟨w.heap.size, 0, none⟩ = some (.int .u64 F) := Cb.get 0 rfl
  have Cf0 := Blk.frozen Cb 0
  have Cc1 : World.cell? w10 ⟨w.heap.size, 1, none⟩ = some (.int .u64 L) := Cb.get 1 rfl
  have Cf1 := Blk.frozen Cb 1
  have Cc2 : World.cell? w10 ⟨w.heap.size, 2, none⟩ = some (.int .u64 R) := Cb.get 2 rfl
  have Cf2 := Blk.frozen Cb 2
  have Cn := Blk.lt Cb
  have Dm : Blk w10 (w.heap.size + 1) 31 #[.int .u64 aX, .int .u64 aY, .int .u64 aT, .int .u64 aN] := Blk.next (by repeat (first | (with_reducible exact Db) | (refine Blk.new_at ?_; simp only [World.size_alloc]; done) | (with_reducible refine Blk.alloc ?_ _) | (with_reducible refine Blk.drewN ?_ _))) hb10
  clear Dn Db Dc0 Df0 Dc1 Df1 Dc2 Df2 Dc3 Df3
  have Db := Dm
  clear Dm
  have Dc0 : World.cell? w10 ⟨w.heap.size + 1, 0, none⟩ = some (.int .u64 aX) := Db.get 0 rfl
  have Df0 := Blk.frozen Db 0
  have Dc1 : World.cell? w10 ⟨w.heap.size + 1, 1, none⟩ = some (.int .u64 aY) := Db.get 1 rfl
  have Df1 := Blk.frozen Db 1
  have Dc2 : World.cell? w10 ⟨w.heap.size + 1, 2, none⟩ = some (.int .u64 aT) := Db.get 2 rfl
  have Df2 := Blk.frozen Db 2
  have Dc3 : World.cell? w10 ⟨w.heap.size + 1, 3, none⟩ = some (.int .u64 aN) := Db.get 3 rfl
  have Df3 := Blk.frozen Db 3
  have Dn := Blk.lt Db
  replace HQ := Lib.hid (HQ.out.next hb10)
  replace HM := Lib.hid (HM.out.next hb10)
  replace HT := Lib.hid (HT.out.next hb10)
  have B10 : Below w.heap.size w w10 := by first | with_reducible exact below_next B9 hb10 | exact below_step B9 (by go_grown) hb10
  clear hb10 B9
  go_wp2_with fail
  with_reducible refine (Am.out _ _ HM.out).mono ?_
  rintro e w11 ⟨rfl, hb11⟩
  have Cm : Blk w11 (w.heap.size) 24 #[.int .u64 F, .int .u64 L, .int .u64 R] := Blk.next (by repeat (first | (with_reducible exact Cb) | (refine Blk.new_at ?_; simp only [World.size_alloc]; done) | (with_reducible refine Blk.alloc ?_ _) | (with_reducible refine Blk.drewN ?_ _))) hb11
  clear Cn Cb Cc0 Cf0 Cc1 Cf1 Cc2 Cf2
  have Cb := Cm
  clear Cm
  have Cc0 : World.cell? w11 ⟨w.heap.size, 0, none⟩ = some (.int .u64 F) := Cb.get 0 rfl
  have Cf0 := Blk.frozen Cb 0
  have Cc1 : World.cell? w11 ⟨w.heap.size, 1, none⟩ = some (.int .u64 L) := Cb.get 1 rfl
  have Cf1 := Blk.frozen Cb 1
  have Cc2 : World.cell? w11 ⟨w.heap.size, 2, none⟩ = some (.int .u64 R) := Cb.get 2 rfl
  have Cf2 := Blk.frozen Cb 2
  have Cn := Blk.lt Cb
  have Dm : Blk w11 (w.heap.size + 1) 31 #[.int .u64 aX, .int .u64 aY, .int .u64 aT, .int .u64 aN] := Blk.next (by repeat (first | (with_reducible exact Db) | (refine Blk.new_at ?_; simp only [World.size_alloc]; done) | (with_reducible refine Blk.alloc ?_ _) | (with_reducible refine Blk.drewN ?_ _))) hb11
  clear Dn Db Dc0 Df0 Dc1 Df1 Dc2 Df2 Dc3 Df3
  have Db := Dm
  clear Dm
  have Dc0 : World.cell? w11 ⟨w.heap.size + 1, 0, none⟩ = some (.int .u64 aX) := Db.get 0 rfl
  have Df0 := Blk.frozen Db 0
  have Dc1 : World.cell? w11 ⟨w.heap.size + 1, 1, none⟩ = some (.int .u64 aY) := Db.get 1 rfl
  have Df1 := Blk.frozen Db 1
  have Dc2 : World.cell? w11 ⟨w.heap.size + 1, 2, none⟩ = some (.int .u64 aT) := Db.get 2 rfl
  have Df2 := Blk.frozen Db 2
  have Dc3 : World.cell? w11 ⟨w.heap.size + 1, 3, none⟩ = some (.int .u64 aN) := Db.get 3 rfl
  have Df3 := Blk.frozen Db 3
  have Dn := Blk.lt Db
  replace HQ := Lib.hid (HQ.out.next hb11)
  replace HM := Lib.hid (HM.out.next hb11)
  replace HT := Lib.hid (HT.out.next hb11)
  have B11 : Below w.heap.size w w11 := by first | with_reducible exact below_next B10 hb11 | exact below_step B10 (by go_grown) hb11
  clear hb11 B10
  go_wp2_with fail
  with_reducible refine (Nt.out _ _ HT.out).mono ?_
  rintro e w12 ⟨rfl, hb12⟩
  have Cm : Blk w12 (w.heap.size) 24 #[.int .u64 F, .int .u64 L, .int .u64 R] := Blk.next (by repeat (first | (with_reducible exact Cb) | (refine Blk.new_at ?_; simp only [World.size_alloc]; done) | (with_reducible refine Blk.alloc ?_ _) | (with_reducible refine Blk.drewN ?_ _))) hb12
  clear Cn Cb Cc0 Cf0 Cc1 Cf1 Cc2 Cf2
  have Cb := Cm
  clear Cm
  have Cc0 : World.cell? w12 ⟨w.heap.size, 0, none⟩ = some (.int .u64 F) := Cb.get 0 rfl
  have Cf0 := Blk.frozen Cb 0
  have Cc1 : World.cell? w12 ⟨w.heap.size, 1, none⟩ = some (.int .u64 L) := Cb.get 1 rfl
  have Cf1 := Blk.frozen Cb 1
  have Cc2 : World.cell? w12 ⟨w.heap.size, 2, none⟩ = some (.int .u64 R) := Cb.get 2 rfl
  have Cf2 := Blk.frozen Cb 2
  have Cn := Blk.lt Cb
  have Dm : Blk w12 (w.heap.size + 1) 31 #[.int .u64 aX, .int .u64 aY, .int .u64 aT, .int .u64 aN] := Blk.next (by repeat (first | (with_reducible exact Db) | (refine Blk.new_at ?_; simp only [World.size_alloc]; done) | (with_reducible refine Blk.alloc ?_ _) | (with_reducible refine Blk.drewN ?_ _))) hb12
  clear Dn Db Dc0 Df0 Dc1 Df1 Dc2 Df2 Dc3 Df3
  have Db := Dm
  clear Dm
  have Dc0 : World.cell? w12 ⟨w.heap.size + 1, 0, none⟩ = some (.int .u64 aX) := Db.get 0 rfl
  have Df0 := Blk.frozen Db 0
  have Dc1 : World.cell? w12 ⟨w.heap.size + 1, 1, none⟩ = some (.int .u64 aY) := Db.get 1 rfl
  have Df1 := Blk.frozen Db 1
  have Dc2 : World.cell? w12 ⟨w.heap.size + 1, 2, none⟩ = some (.int .u64 aT) := Db.get 2 rfl
  have Df2 := Blk.frozen Db 2
  have Dc3 : World.cell? w12 ⟨w.heap.size + 1, 3, none⟩ = some (.int .u64 aN) := Db.get 3 rfl
  have Df3 := Blk.frozen Db 3
  have Dn := Blk.lt Db
  replace HQ := Lib.hid (HQ.out.next hb12)
  replace HM := Lib.hid (HM.out.next hb12)
  replace HT := Lib.hid (HT.out.next hb12)
  have B12 : Below w.heap.size w w12 := by first | with_reducible exact below_next B11 hb12 | exact below_step B11 (by go_grown) hb12
  clear hb12 B11
  go_wp2_with fail
  with_reducible refine (Nm.out _ _ HM.out).mono ?_
  rintro e w13 ⟨rfl, hb13⟩
  have Cm : Blk w13 (w.heap.size) 24 #[.int .u64 F, .int .u64 L, .int .u64 R] := Blk.next (by repeat (first | (with_reducible exact Cb) | (refine Blk.new_at ?_; simp only [World.size_alloc]; done) | (with_reducible refine Blk.alloc ?_ _) | (with_reducible refine Blk.drewN ?_ _))) hb13
  clear Cn Cb Cc0 Cf0 Cc1 Cf1 Cc2 Cf2
  have Cb := Cm
  clear Cm
  have Cc0 : World.cell? w13 ⟨w.heap.size, 0, none⟩ = some (.int .u64 F) := Cb.get 0 rfl
  have Cf0 := Blk.frozen Cb 0
  have Cc1 : World.cell? w13 ⟨w.heap.size, 1, none⟩ = some (.int .u64 L) := Cb.get 1 rfl
  have Cf1 := Blk.frozen Cb 1
  have Cc2 : World.cell? w13 ⟨w.heap.size, 2, none⟩ = some (.int .u64 R) := Cb.get 2 rfl
  have Cf2 := Blk.frozen Cb 2
  have Cn := Blk.lt Cb
  have Dm : Blk w13 (w.heap.size + 1) 31 #[.int .u64 aX, .int .u64 aY, .int .u64 aT, .int .u64 aN] := Blk.next (by repeat (first | (with_reducible exact Db) | (refine Blk.new_at ?_; simp only [World.size_alloc]; done) | (with_reducible refine Blk.alloc ?_ _) | (with_reducible refine Blk.drewN ?_ _))) hb13
  clear Dn Db Dc0 Df0 Dc1 Df1 Dc2 Df2 Dc3 Df3
  have Db := Dm
  clear Dm
  have Dc0 : World.cell? w13 ⟨w.heap.size + 1, 0, none⟩ = some (.int .u64 aX) := Db.get 0 rfl
  have Df0 := Blk.frozen Db 0
  have Dc1 : World.cell? w13 ⟨w.heap.size + 1, 1, none⟩ = some (.int .u64 aY) := Db.get 1 rfl
  have Df1 := Blk.frozen Db 1
  have Dc2 : World.cell? w13 ⟨w.heap.size + 1, 2, none⟩ = some (.int .u64 aT) := Db.get 2 rfl
  have Df2 := Blk.frozen Db 2
  have Dc3 : World.cell? w13 ⟨w.heap.size + 1, 3, none⟩ = some (.int .u64 aN) := Db.get 3 rfl
  have Df3 := Blk.frozen Db 3
  have Dn := Blk.lt Db
  replace HQ := Lib.hid (HQ.out.next hb13)
  replace HM := Lib.hid (HM.out.next hb13)
  replace HT := Lib.hid (HT.out.next hb13)
  have B13 : Below w.heap.size w w13 := by first | with_reducible exact below_next B12 hb13 | exact below_step B12 (by go_grown) hb13
  clear hb13 B12
  have zq := HT.out.lt
  go_wp2_with fail
  with_reducible refine (CB.out _ _ HQ.out).mono ?_
  rintro e w14 ⟨p4, rfl, hp4, hq4, hb14⟩
  have Cm : Blk w14 (w.heap.size) 24 #[.int .u64 F, .int .u64 L, .int .u64 R] := Blk.next (by repeat (first | (with_reducible exact Cb) | (refine Blk.new_at ?_; simp only [World.size_alloc]; done) | (with_reducible refine Blk.alloc ?_ _) | (with_reducible refine Blk.drewN ?_ _))) hb14
  clear Cn Cb Cc0 Cf0 Cc1 Cf1 Cc2 Cf2
  have Cb := Cm
  clear Cm
  have Cc0 : World.cell? w14 ⟨w.heap.size, 0, none⟩ = some (.int .u64 F) := Cb.get 0 rfl
  have Cf0 := Blk.frozen Cb 0
  have Cc1 : World.cell? w14 ⟨w.heap.size, 1, none⟩ = some (.int .u64 L) := Cb.get 1 rfl
  have Cf1 := Blk.frozen Cb 1
  have Cc2 : World.cell? w14 ⟨w.heap.size, 2, none⟩ = some (.int .u64 R) := Cb.get 2 rfl
  have Cf2 := Blk.frozen Cb 2
  have Cn := Blk.lt Cb
  have Dm : Blk w14 (w.heap.size + 1) 31 #[.int .u64 aX, .int .u64 aY, .int .u64 aT, .int .u64 aN] := Blk.next (by repeat (first | (with_reducible exact Db) | (refine Blk.new_at ?_; simp only [World.size_alloc]; done) | (with_reducible refine Blk.alloc ?_ _) | (with_reducible refine Blk.drewN ?_ _))) hb14
  clear Dn Db Dc0 Df0 Dc1 Df1 Dc2 Df2 Dc3 Df3
  have Db := Dm
  clear Dm
  have Dc0 : World.cell? w14 ⟨w.heap.size + 1, 0, none⟩ = some (.int .u64 aX) := Db.get 0 rfl
  have Df0 := Blk.frozen Db 0
  have Dc1 : World.cell? w14 ⟨w.heap.size + 1, 1, none⟩ = some (.int .u64 aY) := Db.get 1 rfl
  have Df1 := Blk.frozen Db 1
  have Dc2 : World.cell? w14 ⟨w.heap.size + 1, 2, none⟩ = some (.int .u64 aT) := Db.get 2 rfl
  have Df2 := Blk.frozen Db 2
  have Dc3 : World.cell? w14 ⟨w.heap.size + 1, 3, none⟩ = some (.int .u64 aN) := Db.get 3 rfl
  have Df3 := Blk.frozen Db 3
  have Dn := Blk.lt Db
  replace HQ := Lib.hid (HQ.out.next hb14)
  replace HM := Lib.hid (HM.out.next hb14)
  replace HT := Lib.hid (HT.out.next hb14)
  have B14 : Below w.heap.size w w14 := by first | with_reducible exact below_next B13 hb14 | exact below_step B13 (by go_grown) hb14
  clear hb14 B13
  have HO := Lib.hid hq4
  have zo : p3 < p4 := by omega
  clear hq4 zq hp4
  go_wp2_with fail
  with_reducible refine (Xb.out _ _ HQ.out).mono ?_
  rintro e w15 ⟨rfl, hb15⟩
  have Cm : Blk w15 (w.heap.size) 24 #[.int .u64 F, .int .u64 L, .int .u64 R] := Blk.next (by repeat (first | (with_reducible exact Cb) | (refine Blk.new_at ?_; simp only [World.size_alloc]; done) | (with_reducible refine Blk.alloc ?_ _) | (with_reducible refine Blk.drewN ?_ _))) hb15
  clear Cn Cb Cc0 Cf0 Cc1 Cf1 Cc2 Cf2
  have Cb := Cm
  clear Cm
  have Cc0 : World.cell? w15 ⟨w.heap.size, 0, none⟩ = some (.int .u64 F) := Cb.get 0 rfl
  have Cf0 := Blk.frozen Cb 0
  have Cc1 : World.cell? w15 ⟨w.heap.size, 1, none⟩ = some (.int .u64 L) := Cb.get 1 rfl
  have Cf1 := Blk.frozen Cb 1
  have Cc2 : World.cell? w15 ⟨w.heap.size, 2, none⟩ = some (.int .u64 R) := Cb.get 2 rfl
  have Cf2 := Blk.frozen Cb 2
  have Cn := Blk.lt Cb
  have Dm : Blk w15 (w.heap.size + 1) 31 #[.int .u64 aX, .int .u64 aY, .int .u64 aT, .int .u64 aN] := Blk.next (by repeat (first | (with_reducible exact Db) | (refine Blk.new_at ?_; simp only [World.size_alloc]; done) | (with_reducible refine Blk.alloc ?_ _) | (with_reducible refine Blk.drewN ?_ _))) hb15
  clear Dn Db Dc0 Df0 Dc1 Df1 Dc2 Df2 Dc3 Df3
  have Db := Dm
  clear Dm
  have Dc0 : World.cell? w15 ⟨w.heap.size + 1, 0, none⟩ = some (.int .u64 aX) := Db.get 0 rfl
  have Df0 := Blk.frozen Db 0
  have Dc1 : World.cell? w15 ⟨w.heap.size + 1, 1, none⟩ = some (.int .u64 aY) := Db.get 1 rfl
  have Df1 := Blk.frozen Db 1
  have Dc2 : World.cell? w15 ⟨w.heap.size + 1, 2, none⟩ = some (.int .u64 aT) := Db.get 2 rfl
  have Df2 := Blk.frozen Db 2
  have Dc3 : World.cell? w15 ⟨w.heap.size + 1, 3, none⟩ = some (.int .u64 aN) := Db.get 3 rfl
  have Df3 := Blk.frozen Db 3
  have Dn := Blk.lt Db
  replace HQ := Lib.hid (HQ.out.next hb15)
  replace HM := Lib.hid (HM.out.next hb15)
  replace HT := Lib.hid (HT.out.next hb15)
  replace HO := Lib.hid (HO.out.next hb15)
  have B15 : Below w.heap.size w w15 := by first | with_reducible exact below_next B14 hb15 | exact below_step B14 (by go_grown) hb15
  clear hb15 B14
  go_wp2_with fail
  with_reducible refine (S3.out _ _ HO.out).mono ?_
  rintro e w16 ⟨rfl, hq5, hf16⟩
  have Cm : Blk w16 (w.heap.size) 24 #[.int .u64 F, .int .u64 L, .int .u64 R] := Blk.fr Cb hf16 (by show ¬ _ = _; omega)
  clear Cn Cb Cc0 Cf0 Cc1 Cf1 Cc2 Cf2
  have Cb := Cm
  clear Cm
  have Cc0 : World.cell? w16 ⟨w.heap.size, 0, none⟩ = some (.int .u64 F) := Cb.get 0 rfl
  have Cf0 := Blk.frozen Cb 0
  have Cc1 : World.cell? w16 ⟨w.heap.size, 1, none⟩ = some (.int .u64 L) := Cb.get 1 rfl
  have Cf1 := Blk.frozen Cb 1
  have Cc2 : World.cell? w16 ⟨w.heap.size, 2, none⟩ = some (.int .u64 R) := Cb.get 2 rfl
  have Cf2 := Blk.frozen Cb 2
  have Cn := Blk.lt Cb
  have Dm : Blk w16 (w.heap.size + 1) 31 #[.int .u64 aX, .int .u64 aY, .int .u64 aT, .int .u64 aN] := Blk.fr Db hf16 (by show ¬ _ = _; omega)
  clear Dn Db Dc0 Df0 Dc1 Df1 Dc2 Df2 Dc3 Df3
  have Db := Dm
  clear Dm
  have Dc0 : World.cell? w16 ⟨w.heap.size + 1, 0, none⟩ = some (.int .u64 aX) := Db.get 0 rfl
  have Df0 := Blk.frozen Db 0
  have Dc1 : World.cell? w16 ⟨w.heap.size + 1, 1, none⟩ = some (.int .u64 aY) := Db.get 1 rfl
  have Df1 := Blk.frozen Db 1
  have Dc2 : World.cell? w16 ⟨w.heap.size + 1, 2, none⟩ = some (.int .u64 aT) := Db.get 2 rfl
  have Df2 := Blk.frozen Db 2
  have Dc3 : World.cell? w16 ⟨w.heap.size + 1, 3, none⟩ = some (.int .u64 aN) := Db.get 3 rfl
  have Df3 := Blk.frozen Db 3
  have Dn := Blk.lt Db
  replace HQ := Lib.hid (HQ.out.fr hf16 (by show ¬ _ = _; omega))
  replace HM := Lib.hid (HM.out.fr hf16 (by show ¬ _ = _; omega))
  replace HT := Lib.hid (HT.out.fr hf16 (by show ¬ _ = _; omega))
  have B16 : Below w.heap.size w w16 := B15.trans (hf16.below (B := w.heap.size) B15.size (fun k hk e => by omega))
  clear hf16 B15
  replace HO := Lib.hid hq5
  clear hq5
  go_wp2_with fail
  with_reducible refine (Xo.out _ _ HO.out).mono ?_
  rintro e w17 ⟨rfl, hb17⟩
  have Cm : Blk w17 (w.heap.size) 24 #[.int .u64 F, .int .u64 L, .int .u64 R] := Blk.next (by repeat (first | (with_reducible exact Cb) | (refine Blk.new_at ?_; simp only [World.size_alloc]; done) | (with_reducible refine Blk.alloc ?_ _) | (with_reducible refine Blk.drewN ?_ _))) hb17
  clear Cn Cb Cc0 Cf0 Cc1 Cf1 Cc2 Cf2
  have Cb := Cm
  clear Cm
  have Cc0 : World.cell? w17 ⟨w.heap.size, 0, none⟩ = some (.int .u64 F) := Cb.get 0 rfl
  have Cf0 := Blk.frozen Cb 0
  have Cc1 : World.cell? w17 ⟨w.heap.size, 1, none⟩ = some (.int .u64 L) := Cb.get 1 rfl
  have Cf1 := Blk.frozen Cb 1
  have Cc2 : World.cell? w17 ⟨w.heap.size, 2, none⟩ = some (.int .u64 R) := Cb.get 2 rfl
  have Cf2 := Blk.frozen Cb 2
  have Cn := Blk.lt Cb
  have Dm : Blk w17 (w.heap.size + 1) 31 #[.int .u64 aX, .int .u64 aY, .int .u64 aT, .int .u64 aN] := Blk.next (by repeat (first | (with_reducible exact Db) | (refine Blk.new_at ?_; simp only [World.size_alloc]; done) | (with_reducible refine Blk.alloc ?_ _) | (with_reducible refine Blk.drewN ?_ _))) hb17
  clear Dn Db Dc0 Df0 Dc1 Df1 Dc2 Df2 Dc3 Df3
  have Db := Dm
  clear Dm
  have Dc0 : World.cell? w17 ⟨w.heap.size + 1, 0, none⟩ = some (.int .u64 aX) := Db.get 0 rfl
  have Df0 := Blk.frozen Db 0
  have Dc1 : World.cell? w17 ⟨w.heap.size + 1, 1, none⟩ = some (.int .u64 aY) := Db.get 1 rfl
  have Df1 := Blk.frozen Db 1
  have Dc2 : World.cell? w17 ⟨w.heap.size + 1, 2, none⟩ = some (.int .u64 aT) := Db.get 2 rfl
  have Df2 := Blk.frozen Db 2
  have Dc3 : World.cell? w17 ⟨w.heap.size + 1, 3, none⟩ = some (.int .u64 aN) := Db.get 3 rfl
  have Df3 := Blk.frozen Db 3
  have Dn := Blk.lt Db
  replace HQ := Lib.hid (HQ.out.next hb17)
  replace HO := Lib.hid (HO.out.next hb17)
  have B17 : Below w.heap.size w w17 := by first | with_reducible exact below_next B16 hb17 | exact below_step B16 (by go_grown) hb17
  clear hb17 B16
  go_wp2_with fail
  with_reducible refine (Xb.out _ _ HQ.out).mono ?_
  rintro e w18 ⟨rfl, hb18⟩
  have Cm : Blk w18 (w.heap.size) 24 #[.int .u64 F, .int .u64 L, .int .u64 R] := Blk.next (by repeat (first | (with_reducible exact Cb) | (refine Blk.new_at ?_; simp only [World.size_alloc]; done) | (with_reducible refine Blk.alloc ?_ _) | (with_reducible refine Blk.drewN ?_ _))) hb18
  clear Cn Cb Cc0 Cf0 Cc1 Cf1 Cc2 Cf2
  have Cb := Cm
  clear Cm
  have Cc0 : World.cell? w18 ⟨w.heap.size, 0, none⟩ = some (.int .u64 F) := Cb.get 0 rfl
  have Cf0 := Blk.frozen Cb 0
  have Cc1 : World.cell? w18 ⟨w.heap.size, 1, none⟩ = some (.int .u64 L) := Cb.get 1 rfl
  have Cf1 := Blk.frozen Cb 1
  have Cc2 : World.cell? w18 ⟨w.heap.size, 2, none⟩ = some (.int .u64 R) := Cb.get 2 rfl
  have Cf2 := Blk.frozen Cb 2
  have Cn := Blk.lt Cb
  have Dm : Blk w18 (w.heap.size + 1) 31 #[.int .u64 aX, .int .u64 aY, .int .u64 aT, .int .u64 aN] := Blk.next (by repeat (first | (with_reducible exact Db) | (refine Blk.new_at ?_; simp only [World.size_alloc]; done) | (with_reducible refine Blk.alloc ?_ _) | (with_reducible refine Blk.drewN ?_ _))) hb18
  clear Dn Db Dc0 Df0 Dc1 Df1 Dc2 Df2 Dc3 Df3
  have Db := Dm
  clear Dm
  have Dc0 : World.cell? w18 ⟨w.heap.size + 1, 0, none⟩ = some (.int .u64 aX) := Db.get 0 rfl
  have Df0 := Blk.frozen Db 0
  have Dc1 : World.cell? w18 ⟨w.heap.size + 1, 1, none⟩ = some (.int .u64 aY) := Db.get 1 rfl
  have Df1 := Blk.frozen Db 1
  have Dc2 : World.cell? w18 ⟨w.heap.size + 1, 2, none⟩ = some (.int .u64 aT) := Db.get 2 rfl
  have Df2 := Blk.frozen Db 2
  have Dc3 : World.cell? w18 ⟨w.heap.size + 1, 3, none⟩ = some (.int .u64 aN) := Db.get 3 rfl
  have Df3 := Blk.frozen Db 3
  have Dn := Blk.lt Db
  replace HQ := Lib.hid (HQ.out.next hb18)
  replace HO := Lib.hid (HO.out.next hb18)
  have B18 : Below w.heap.size w w18 := by first | with_reducible exact below_next B17 hb18 | exact below_step B17 (by go_grown) hb18
  clear hb18 B17
  go_wp2_with fail
  with_reducible refine (Ao.out _ _ HO.out).mono ?_
  rintro e w19 ⟨rfl, hb19⟩
  have Cm : Blk w19 (w.heap.size) 24 #[.int .u64 F, .int .u64 L, .int .u64 R] := Blk.next (by repeat (first | (with_reducible exact Cb) | (refine Blk.new_at ?_; simp only [World.size_alloc]; done) | (with_reducible refine Blk.alloc ?_ _) | (with_reducible refine Blk.drewN ?_ _))) hb19
  clear Cn Cb Cc0 Cf0 Cc1 Cf1 Cc2 Cf2
  have Cb := Cm
  clear Cm
  have Cc0 : World.cell? w19 ⟨w.heap.size, 0, none⟩ = some (.int .u64 F) := Cb.get 0 rfl
  have Cf0 := Blk.frozen Cb 0
  have Cc1 : World.cell? w19 ⟨w.heap.size, 1, none⟩ = some (.int .u64 L) := Cb.get 1 rfl
  have Cf1 := Blk.frozen Cb 1
  have Cc2 : World.cell? w19 ⟨w.heap.size, 2, none⟩ = some (.int .u64 R) := Cb.get 2 rfl
  have Cf2 := Blk.frozen Cb 2
  have Cn := Blk.lt Cb
  have Dm : Blk w19 (w.heap.size + 1) 31 #[.int .u64 aX, .int .u64 aY, .int .u64 aT, .int .u64 aN] := Blk.next (by repeat (first | (with_reducible exact Db) | (refine Blk.new_at ?_; simp only [World.size_alloc]; done) | (with_reducible refine Blk.alloc ?_ _) | (with_reducible refine Blk.drewN ?_ _))) hb19
  clear Dn Db Dc0 Df0 Dc1 Df1 Dc2 Df2 Dc3 Df3
  have Db := Dm
  clear Dm
  have Dc0 : World.cell? w19 ⟨w.heap.size + 1, 0, none⟩ = some (.int .u64 aX) := Db.get 0 rfl
  have Df0 := Blk.frozen Db 0
  have Dc1 : World.cell? w19 ⟨w.heap.size + 1, 1, none⟩ = some (.int .u64 aY) := Db.get 1 rfl
  have Df1 := Blk.frozen Db 1
  have Dc2 : World.cell? w19 ⟨w.heap.size + 1, 2, none⟩ = some (.int .u64 aT) := Db.get 2 rfl
  have Df2 := Blk.frozen Db 2
  have Dc3 : World.cell? w19 ⟨w.heap.size + 1, 3, none⟩ = some (.int .u64 aN) := Db.get 3 rfl
  have Df3 := Blk.frozen Db 3
  have Dn := Blk.lt Db
  replace HQ := Lib.hid (HQ.out.next hb19)
  replace HO := Lib.hid (HO.out.next hb19)
  have B19 : Below w.heap.size w w19 := by first | with_reducible exact below_next B18 hb19 | exact below_step B18 (by go_grown) hb19
  clear hb19 B18
  go_wp2_with fail
  with_reducible refine (Ab.out _ _ HQ.out).mono ?_
  rintro e w20 ⟨rfl, hb20⟩
  have Cm : Blk w20 (w.heap.size) 24 #[.int .u64 F, .int .u64 L, .int .u64 R] := Blk.next (by repeat (first | (with_reducible exact Cb) | (refine Blk.new_at ?_; simp only [World.size_alloc]; done) | (with_reducible refine Blk.alloc ?_ _) | (with_reducible refine Blk.drewN ?_ _))) hb20
  clear Cn Cb Cc0 Cf0 Cc1 Cf1 Cc2 Cf2
  have Cb := Cm
  clear Cm
  have Cc0 : World.cell? w20 ⟨w.heap.size, 0, none⟩ = some (.int .u64 F) := Cb.get 0 rfl
  have Cf0 := Blk.frozen Cb 0
  have Cc1 : World.cell? w20 ⟨w.heap.size, 1, none⟩ = some (.int .u64 L) := Cb.get 1 rfl
  have Cf1 := Blk.frozen Cb 1
  have Cc2 : World.cell? w20 ⟨w.heap.size, 2, none⟩ = some (.int .u64 R) := Cb.get 2 rfl
  have Cf2 := Blk.frozen Cb 2
  have Cn := Blk.lt Cb
  have Dm : Blk w20 (w.heap.size + 1) 31 #[.int .u64 aX, .int .u64 aY, .int .u64 aT, .int .u64 aN] := Blk.next (by repeat (first | (with_reducible exact Db) | (refine Blk.new_at ?_; simp only [World.size_alloc]; done) | (with_reducible refine Blk.alloc ?_ _) | (with_reducible refine Blk.drewN ?_ _))) hb20
  clear Dn Db Dc0 Df0 Dc1 Df1 Dc2 Df2 Dc3 Df3
  have Db := Dm
  clear Dm
  have Dc0 : World.cell? w20 ⟨w.heap.size + 1, 0, none⟩ = some (.int .u64 aX) := Db.get 0 rfl
  have Df0 := Blk.frozen Db 0
  have Dc1 : World.cell? w20 ⟨w.heap.size + 1, 1, none⟩ = some (.int .u64 aY) := Db.get 1 rfl
  have Df1 := Blk.frozen Db 1
  have Dc2 : World.cell? w20 ⟨w.heap.size + 1, 2, none⟩ = some (.int .u64 aT) := Db.get 2 rfl
  have Df2 := Blk.frozen Db 2
  have Dc3 : World.cell? w20 ⟨w.heap.size + 1, 3, none⟩ = some (.int .u64 aN) := Db.get 3 rfl
  have Df3 := Blk.frozen Db 3
  have Dn := Blk.lt Db
  replace HQ := Lib.hid (HQ.out.next hb20)
  replace HO := Lib.hid (HO.out.next hb20)
  have B20 : Below w.heap.size w w20 := by first | with_reducible exact below_next B19 hb20 | exact below_step B19 (by go_grown) hb20
  clear hb20 B19
  go_wp2_with fail
  go_ret
  exact ⟨by simp, B20⟩

end Go.Proofs.Ytdkeoanlcninkaa
