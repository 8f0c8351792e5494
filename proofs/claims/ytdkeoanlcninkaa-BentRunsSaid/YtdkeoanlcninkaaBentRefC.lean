/-
  The document's run of a bent curve: what it has, and when it reaches an amount.
-/
import Derived.Test.YtdkeoanlcninkaaBentRefB
namespace Go.Proofs.Ytdkeoanlcninkaa
set_option linter.unusedVariables false
set_option linter.unusedSimpArgs false
set_option maxRecDepth 100000
open Go.RowKit Go.Shelf

theorem minG_succ {G : Nat → Int} {k : Nat} (hk : 1 ≤ k) : minG G k = min (minG G (k - 1)) (G k) := by
  obtain ⟨j, rfl⟩ : ∃ j, k = j + 1 := ⟨k - 1, by omega⟩
  rfl

set_option maxHeartbeats 4000000 in
theorem rwide_any (q : Nat) (F L R : Int) (m : Nat) (X Y G : Nat → Int) (t V : Int) (w : World) (h : IsCop w q F L R (m + 1) X Y) (my : May F L R) (hm : m + 1 ≤ 1000000) (hx : ∀ i, i ≤ m → 0 ≤ X i ∧ X i ≤ t) (wt : Word t) (hy : ∀ i, i ≤ m → 0 ≤ Y i ∧ Y i ≤ 4611686018427387904)
    (hG : ∀ i, i ≤ m → rawN F L R (t - X i) + Y i = G i) (hV : minG G m = V) :
    Calls Try.prog 51 #[.pointer (some ⟨q, 0, none⟩), .int .u64 t] w fun e w' => e = .returned (.agg #[.int .u64 (hiW V), .int .u64 (loW V)]) ∧ Below w.heap.size w w' := by
  have ON := Lib.hid (fun i kk w (hi : i ≤ m) (hk : (i : Int) = kk) hI => rone_any q F L R (m + 1) i X Y kk t (G i) w hI my (by omega) hk hm (hx i hi).1 (hx i hi).2 wt (hy i hi).1 (hy i hi).2 (hG i hi))
  have HI := Lib.hid h
  obtain ⟨A, cA, D, cD, Qb, -, -, -, -⟩ := h.open
  have HQ := Lib.hid Qb
  have hqn := Lib.hid (Blk.lt Qb)
  have HV := Lib.hid hV
  clear h my hx wt hy hG hV Qb
  go_enter Try.func51, Try.ntmps51
  go_wp2_with fail
  with_reducible refine (ON.out 0 0 _ (Nat.zero_le _) rfl (HI.out.next ((Below.refl _ _).alloc (Nat.le_refl _) _))).mono ?_
  rintro e w1 ⟨rfl, hb1⟩
  have RSm : Blk w1 (w.heap.size) 75 #[.int .u64 0, .int .u64 0] := Blk.next (by repeat (first | (refine Blk.new_at ?_; simp only [World.size_alloc]; done) | (with_reducible refine Blk.alloc ?_ _) | (with_reducible refine Blk.drewN ?_ _))) hb1
  have RSb := RSm
  clear RSm
  have RSc0 : World.cell? w1 ⟨w.heap.size, 0, none⟩ = some (.int .u64 0) := RSb.get 0 rfl
  have RSf0 := Blk.frozen RSb 0
  have RSc1 : World.cell? w1 ⟨w.heap.size, 1, none⟩ = some (.int .u64 0) := RSb.get 1 rfl
  have RSf1 := Blk.frozen RSb 1
  have RSn := Blk.lt RSb
  have B1 : Below w.heap.size w w1 := by first | with_reducible exact hb1 | exact Below.trans (by go_grown) (hb1.mono (by simp only [World.size_alloc]; omega))
  clear hb1
  have HB := Lib.hid B1
  have HR := Lib.hid RSb
  have hs1 := Lib.hid RSn
  go_wp2_with fail
  clear RSb RSc0 RSc1 RSf0 RSf1 RSn B1
  go_loopg [6] m (fun gk ix wr => ∃ k : Nat, 1 ≤ k ∧ k + gk = m + 1 ∧ ix = .int .i64 k ∧ Blk wr w1.heap.size 75 #[.int .u64 (hiW (minG G (k - 1))), .int .u64 (loW (minG G (k - 1)))] ∧ Blk wr w.heap.size 75 #[.int .u64 0, .int .u64 0] ∧ Below w.heap.size w wr)
  case atStart => exact ⟨1, Nat.le_refl _, by omega, rfl, Blk.new w1 _ _, HR.out.alloc _, HB.out.alloc HB.out.size _⟩
  case round =>
    obtain ⟨k, hk1, hk, rfl, Sb, Rb, B0⟩ := hrel
    clear HR HB
    have Qw := Blk.below HQ.out B0 hqn.out
    have Qc3 : World.cell? wr ⟨q, 3, none⟩ = some (.slice A (m + 1) cA) := Qw.get 3 rfl
    have HS := Lib.hid Sb
    have HR := Lib.hid Rb
    have HB := Lib.hid B0
    have k1 : (1 : Int) ≤ (k : Int) := by omega
    have m0 : (m : Int) + 1 ≤ 1000000 := by omega
    clear Sb Rb B0 Qw
    by_cases hlt : k < m + 1
    · obtain ⟨gm, rfl⟩ : ∃ gm, gk = gm + 1 := ⟨gk - 1, by omega⟩
      have hlt' : (k : Int) < (m : Int) + 1 := by omega
      have EM := Lib.hid (show minG G (k + 1 - 1) = min (minG G (k - 1)) (G k) from by rw [Nat.add_sub_cancel]; exact minG_succ hk1)
      have O1 := Lib.hid (fun w hI => ON.out k k w (by omega) rfl hI)
      obtain ⟨a, ea⟩ : ∃ z, minG G (k - 1) = z := ⟨_, rfl⟩
      obtain ⟨b, eb⟩ : ∃ z, G k = z := ⟨_, rfl⟩
      rw [ea] at EM HS
      rw [eb] at EM O1
      have HIw := Lib.hid (HI.out.fr (Fr.of_below HB.out) (fun j _ hj => by omega))
      obtain ⟨h1, e1⟩ : ∃ z, hiW a = z := ⟨_, rfl⟩
      obtain ⟨l1, e2⟩ : ∃ z, loW a = z := ⟨_, rfl⟩
      obtain ⟨h2, e3⟩ : ∃ z, hiW b = z := ⟨_, rfl⟩
      obtain ⟨l2, e4⟩ : ∃ z, loW b = z := ⟨_, rfl⟩
      rw [e1, e2] at HS
      rw [e3, e4] at O1
      have CM := Lib.hid (fun k w hk => refcmp_w b a k w hk)
      rw [e1, e2, e3, e4] at CM
      clear ea eb hlt
      by_cases hab : b < a
      · have C1 := Lib.hid (fun w => CM.out (-1) w (cmpN_lt hab))
        have EM2 : Hid (minG G (k + 1 - 1) = b) := by unfold Hid; rw [EM.out]; exact Int.min_eq_right (by omega)
        clear hab EM CM
        have Sb : Blk wr (w1.heap.size) 75 #[.int .u64 h1, .int .u64 l1] := HS.out
        have Sc0 : World.cell? wr ⟨w1.heap.size, 0, none⟩ = some (.int .u64 h1) := Sb.get 0 rfl
        have Sf0 := Blk.frozen Sb 0
        have Sc1 : World.cell? wr ⟨w1.heap.size, 1, none⟩ = some (.int .u64 l1) := Sb.get 1 rfl
        have Sf1 := Blk.frozen Sb 1
        have Sn := Blk.lt Sb
        have B10 : Below wr.heap.size wr wr := Below.refl _ _
        go_wp2_with fail
        with_reducible refine (O1.out _ HIw.out).mono ?_
        rintro e w11 ⟨rfl, hb11⟩
        have Sm : Blk w11 (w1.heap.size) 75 #[.int .u64 h1, .int .u64 l1] := Blk.next (by repeat (first | (with_reducible exact Sb) | (refine Blk.new_at ?_; simp only [World.size_alloc]; done) | (with_reducible refine Blk.alloc ?_ _) | (with_reducible refine Blk.drewN ?_ _))) hb11
        clear Sn Sb Sc0 Sf0 Sc1 Sf1
        have Sb := Sm
        clear Sm
        have Sc0 : World.cell? w11 ⟨w1.heap.size, 0, none⟩ = some (.int .u64 h1) := Sb.get 0 rfl
        have Sf0 := Blk.frozen Sb 0
        have Sc1 : World.cell? w11 ⟨w1.heap.size, 1, none⟩ = some (.int .u64 l1) := Sb.get 1 rfl
        have Sf1 := Blk.frozen Sb 1
        have Sn := Blk.lt Sb
        have B11 : Below wr.heap.size wr w11 := by first | with_reducible exact below_next B10 hb11 | exact below_step B10 (by go_grown) hb11
        clear hb11 B10
        go_wp2_with fail
        with_reducible refine (C1.out _).mono ?_
        rintro e w12 ⟨rfl, hb12⟩
        have Sm : Blk w12 (w1.heap.size) 75 #[.int .u64 h1, .int .u64 l1] := Blk.next (by repeat (first | (with_reducible exact Sb) | (refine Blk.new_at ?_; simp only [World.size_alloc]; done) | (with_reducible refine Blk.alloc ?_ _) | (with_reducible refine Blk.drewN ?_ _))) hb12
        clear Sn Sb Sc0 Sf0 Sc1 Sf1
        have Sb := Sm
        clear Sm
        have Sc0 : World.cell? w12 ⟨w1.heap.size, 0, none⟩ = some (.int .u64 h1) := Sb.get 0 rfl
        have Sf0 := Blk.frozen Sb 0
        have Sc1 : World.cell? w12 ⟨w1.heap.size, 1, none⟩ = some (.int .u64 l1) := Sb.get 1 rfl
        have Sf1 := Blk.frozen Sb 1
        have Sn := Blk.lt Sb
        have Zm : Blk w12 (w11.heap.size) 75 #[.int .u64 h2, .int .u64 l2] := Blk.next (by repeat (first | (refine Blk.new_at ?_; simp only [World.size_alloc]; done) | (with_reducible refine Blk.alloc ?_ _) | (with_reducible refine Blk.drewN ?_ _))) hb12
        have Zb := Zm
        clear Zm
        have Zc0 : World.cell? w12 ⟨w11.heap.size, 0, none⟩ = some (.int .u64 h2) := Zb.get 0 rfl
        have Zf0 := Blk.frozen Zb 0
        have Zc1 : World.cell? w12 ⟨w11.heap.size, 1, none⟩ = some (.int .u64 l2) := Zb.get 1 rfl
        have Zf1 := Blk.frozen Zb 1
        have Zn := Blk.lt Zb
        have B12 : Below wr.heap.size wr w12 := by first | with_reducible exact below_next B11 hb12 | exact below_step B11 (by go_grown) hb12
        clear hb12 B11
        obtain ⟨P0, P1, P2⟩ := Blk.puts Sb (.int .u64 h2) (.int .u64 l2)
        have HP := Lib.hid P2
        have hsz := Lib.hid B12.size
        clear P2
        go_wp2_with fail
        go_roundg gm
        case rel =>
          refine ⟨k + 1, by omega, by omega, by go_num, ?_, ?_, ?_⟩
          · rw [EM2.out, e3, e4]; exact HP.out
          · exact Blk.far (Blk.far (HR.out.next B12) (p := ⟨w1.heap.size, 0, none⟩) (show w.heap.size ≠ w1.heap.size by have := hs1.out; omega) _) (p := ⟨w1.heap.size, 1, none⟩) (show w.heap.size ≠ w1.heap.size by have := hs1.out; omega) _
          · exact ((below_next HB.out B12).setCell (p := ⟨w1.heap.size, 0, none⟩) (show w.heap.size ≤ w1.heap.size by have := hs1.out; omega) _).setCell (p := ⟨w1.heap.size, 1, none⟩) (show w.heap.size ≤ w1.heap.size by have := hs1.out; omega) _
        case measure => omega
      · have c0 : 0 ≤ cmpN b a := by unfold cmpN; rw [if_neg hab]; split <;> omega
        obtain ⟨c, ec⟩ : ∃ c, cmpN b a = c := ⟨_, rfl⟩
        rw [ec] at c0
        have c1 : decide (c < 0) = false := decide_eq_false (by omega)
        clear c0
        have C1 := Lib.hid (fun w => CM.out c w ec)
        have EM2 : Hid (minG G (k + 1 - 1) = a) := by unfold Hid; rw [EM.out]; exact Int.min_eq_left (by omega)
        clear hab EM CM ec
        have Sb : Blk wr (w1.heap.size) 75 #[.int .u64 h1, .int .u64 l1] := HS.out
        have Sc0 : World.cell? wr ⟨w1.heap.size, 0, none⟩ = some (.int .u64 h1) := Sb.get 0 rfl
        have Sf0 := Blk.frozen Sb 0
        have Sc1 : World.cell? wr ⟨w1.heap.size, 1, none⟩ = some (.int .u64 l1) := Sb.get 1 rfl
        have Sf1 := Blk.frozen Sb 1
        have Sn := Blk.lt Sb
        have B10 : Below wr.heap.size wr wr := Below.refl _ _
        go_wp2_with fail
        with_reducible refine (O1.out _ HIw.out).mono ?_
        rintro e w11 ⟨rfl, hb11⟩
        have Sm : Blk w11 (w1.heap.size) 75 #[.int .u64 h1, .int .u64 l1] := Blk.next (by repeat (first | (with_reducible exact Sb) | (refine Blk.new_at ?_; simp only [World.size_alloc]; done) | (with_reducible refine Blk.alloc ?_ _) | (with_reducible refine Blk.drewN ?_ _))) hb11
        clear Sn Sb Sc0 Sf0 Sc1 Sf1
        have Sb := Sm
        clear Sm
        have Sc0 : World.cell? w11 ⟨w1.heap.size, 0, none⟩ = some (.int .u64 h1) := Sb.get 0 rfl
        have Sf0 := Blk.frozen Sb 0
        have Sc1 : World.cell? w11 ⟨w1.heap.size, 1, none⟩ = some (.int .u64 l1) := Sb.get 1 rfl
        have Sf1 := Blk.frozen Sb 1
        have Sn := Blk.lt Sb
        have B11 : Below wr.heap.size wr w11 := by first | with_reducible exact below_next B10 hb11 | exact below_step B10 (by go_grown) hb11
        clear hb11 B10
        go_wp2_with fail
        with_reducible refine (C1.out _).mono ?_
        rintro e w12 ⟨rfl, hb12⟩
        have Sm : Blk w12 (w1.heap.size) 75 #[.int .u64 h1, .int .u64 l1] := Blk.next (by repeat (first | (with_reducible exact Sb) | (refine Blk.new_at ?_; simp only [World.size_alloc]; done) | (with_reducible refine Blk.alloc ?_ _) | (with_reducible refine Blk.drewN ?_ _))) hb12
        clear Sn Sb Sc0 Sf0 Sc1 Sf1
        have Sb := Sm
        clear Sm
        have Sc0 : World.cell? w12 ⟨w1.heap.size, 0, none⟩ = some (.int .u64 h1) := Sb.get 0 rfl
        have Sf0 := Blk.frozen Sb 0
        have Sc1 : World.cell? w12 ⟨w1.heap.size, 1, none⟩ = some (.int .u64 l1) := Sb.get 1 rfl
        have Sf1 := Blk.frozen Sb 1
        have Sn := Blk.lt Sb
        have Zm : Blk w12 (w11.heap.size) 75 #[.int .u64 h2, .int .u64 l2] := Blk.next (by repeat (first | (refine Blk.new_at ?_; simp only [World.size_alloc]; done) | (with_reducible refine Blk.alloc ?_ _) | (with_reducible refine Blk.drewN ?_ _))) hb12
        have Zb := Zm
        clear Zm
        have Zc0 : World.cell? w12 ⟨w11.heap.size, 0, none⟩ = some (.int .u64 h2) := Zb.get 0 rfl
        have Zf0 := Blk.frozen Zb 0
        have Zc1 : World.cell? w12 ⟨w11.heap.size, 1, none⟩ = some (.int .u64 l2) := Zb.get 1 rfl
        have Zf1 := Blk.frozen Zb 1
        have Zn := Blk.lt Zb
        have B12 : Below wr.heap.size wr w12 := by first | with_reducible exact below_next B11 hb12 | exact below_step B11 (by go_grown) hb12
        clear hb12 B11
        have HP := Lib.hid Sb
        go_wp2_with fail
        go_roundg gm
        case rel => exact ⟨k + 1, by omega, by omega, by go_num, by rw [EM2.out, e1, e2]; exact HP.out, HR.out.next B12, below_next HB.out B12⟩
        case measure => omega
    · obtain rfl : gk = 0 := by omega
      obtain rfl : k = m + 1 := by omega
      have e0 : minG G (m + 1 - 1) = V := HV.out
      rw [e0] at HS
      have Sc0 : World.cell? wr ⟨w1.heap.size, 0, none⟩ = some (.int .u64 (hiW V)) := HS.out.get 0 rfl
      have Sc1 : World.cell? wr ⟨w1.heap.size, 1, none⟩ = some (.int .u64 (loW V)) := HS.out.get 1 rfl
      have Rc0 : World.cell? wr ⟨w.heap.size, 0, none⟩ = some (.int .u64 0) := HR.out.get 0 rfl
      have Rc1 : World.cell? wr ⟨w.heap.size, 1, none⟩ = some (.int .u64 0) := HR.out.get 1 rfl
      have Rf0 := HR.out.frozen 0
      have Rf1 := HR.out.frozen 1
      obtain ⟨P0, P1, P2⟩ := Blk.puts HR.out (.int .u64 (hiW V)) (.int .u64 (loW V))
      clear e0 P2
      go_wp2_with fail
      refine bodyPost_ret (by simp [results, Try.results51, go_sem, P0, P1]; try rfl) rfl ?_
      exact ⟨rfl, (HB.out.setCell (p := ⟨w.heap.size, 0, none⟩) (Nat.le_refl _) _).setCell (p := ⟨w.heap.size, 1, none⟩) (Nat.le_refl _) _⟩

theorem rat_none (q : Nat) (F L R : Int) (X Y : Nat → Int) (t : Int) (w : World) (h : IsCop w q F L R 0 X Y) :
    Calls Try.prog 41 #[.pointer (some ⟨q, 0, none⟩), .int .u64 t] w fun e w' => e = .returned (.int .u64 0) ∧ Below w.heap.size w w' := by
  obtain ⟨A, cA, D, cD, Qb, -, -, -, -⟩ := h.open
  have Qc3 : World.cell? w ⟨q, 3, none⟩ = some (.slice A 0 cA) := Qb.get 3 rfl
  clear Qb h
  go_enter Try.func41, Try.ntmps41
  go_wp2_with fail
  go_ret
  exact ⟨rfl, Below.refl _ _⟩
theorem rat_any (q : Nat) (F L R : Int) (m : Nat) (X Y : Nat → Int) (t V s : Int) (w : World) (h : IsCop w q F L R (m + 1) X Y) (my : May F L R) (hm : m + 1 ≤ 1000000) (hx : ∀ i, i ≤ m → 0 ≤ X i ∧ X i ≤ X m) (hx1 : X m ≤ 9223372036854775808) (wt : Word t) (hy : ∀ i, i ≤ m → 0 ≤ Y i ∧ Y i ≤ 4611686018427387904)
    (hV : minG (fun i => rawN F L R (max t (X m) - X i) + Y i) m = V) (hs : stopN V = s) :
    Calls Try.prog 41 #[.pointer (some ⟨q, 0, none⟩), .int .u64 t] w fun e w' => e = .returned (.int .u64 s) ∧ Below w.heap.size w w' := by
  have wt1 := wt.1
  have wt2 := wt.2
  have V0 : 0 ≤ V := by
    obtain ⟨i, hi, e⟩ := minG_is (fun i => rawN F L R (max t (X m) - X i) + Y i) m
    have := hx i hi
    have := raw_nonneg (t := max t (X m) - X i) my.f0 my.l0 my.r0 (by omega)
    have := (hy i hi).1
    rw [hV] at e
    try simp only at e
    omega
  have LA := Lib.hid (fun w hI => rlast_any q F L R (m + 1) X Y (X m) w hI hm rfl)
  have WI := Lib.hid (fun w hI => rwide_any q F L R m X Y _ (max t (X m)) V w hI my hm (fun i hi => ⟨(hx i hi).1, by have := (hx i hi).2; omega⟩) ⟨by omega, by omega⟩ hy (fun i _ => rfl) hV)
  have ST := Lib.hid (fun w => refstop_w V s w V0 hs)
  have HI := Lib.hid h
  obtain ⟨A, cA, D, cD, Qb, -, -, -, -⟩ := h.open
  have Qc3 : World.cell? w ⟨q, 3, none⟩ = some (.slice A (m + 1) cA) := Qb.get 3 rfl
  have e0 : ((m : Int) + 1 == 0) = false := beq_eq_false_iff_ne.2 (by omega)
  have m1 : (m : Int) + 1 ≤ 1000000 := by omega
  clear h my hx wt hy hV hs Qb V0
  go_enter Try.func41, Try.ntmps41
  go_wp2_with fail
  with_reducible refine (LA.out _ HI.out).mono ?_
  rintro e w1 ⟨rfl, hb1⟩
  replace HI := Lib.hid (HI.out.next hb1)
  have B1 : Below w.heap.size w w1 := by first | with_reducible exact hb1 | exact Below.trans (by go_grown) (hb1.mono (by simp only [World.size_alloc]; omega))
  clear hb1
  go_wp2_with fail
  with_reducible refine (WI.out _ HI.out).mono ?_
  rintro e w2 ⟨rfl, hb2⟩
  replace HI := Lib.hid (HI.out.next hb2)
  have B2 : Below w.heap.size w w2 := by first | with_reducible exact below_next B1 hb2 | exact below_step B1 (by go_grown) hb2
  clear hb2 B1
  go_wp2_with fail
  with_reducible refine (ST.out _).mono ?_
  rintro e w3 ⟨rfl, hb3⟩
  replace HI := Lib.hid (HI.out.next hb3)
  have B3 : Below w.heap.size w w3 := by first | with_reducible exact below_next B2 hb3 | exact below_step B2 (by go_grown) hb3
  clear hb3 B2
  go_wp2_with fail
  go_ret
  exact ⟨by simp, B3⟩

set_option maxHeartbeats 4000000 in
/-- Found by halves. -/
theorem rreach_any (q : Nat) (F L R : Int) (m : Nat) (X Y : Nat → Int) (y r : Int) (f : Int → Int) (w : World) (h : IsCop w q F L R (m + 1) X Y) (hm : m + 1 ≤ 1000000) (wy : Word y) (hx0 : 0 ≤ X m) (hx1 : X m ≤ 9223372036854775808)
    (hat : ∀ w t, IsCop w q F L R (m + 1) X Y → Word t → Calls Try.prog 41 #[.pointer (some ⟨q, 0, none⟩), .int .u64 t] w fun e w' => e = .returned (.int .u64 (f t)) ∧ Below w.heap.size w w')
    (hr0 : X m ≤ r) (hr1 : r ≤ 9223372036854775808) (hr : ∀ t, X m ≤ t → t < 9223372036854775808 → (y ≤ f t ↔ r ≤ t)) (hn : X m = 9223372036854775808 → r = 9223372036854775808) :
    Calls Try.prog 42 #[.pointer (some ⟨q, 0, none⟩), .int .u64 y] w fun e w' => e = .returned (.int .u64 r) ∧ Below w.heap.size w w' := by
  have LA := Lib.hid (fun w hI => rlast_any q F L R (m + 1) X Y (X m) w hI hm rfl)
  have AT := Lib.hid hat
  have A0 := Lib.hid (fun w hI => hat w 9223372036854775807 hI ⟨by decide, by decide⟩)
  have HI := Lib.hid h
  obtain ⟨A, cA, D, cD, Qb, -, -, -, -⟩ := h.open
  have Qc3 : World.cell? w ⟨q, 3, none⟩ = some (.slice A (m + 1) cA) := Qb.get 3 rfl
  have e0 : ((m : Int) + 1 == 0) = false := beq_eq_false_iff_ne.2 (by omega)
  have m1 : (m : Int) + 1 ≤ 1000000 := by omega
  have hq := Lib.hid (Blk.lt Qb)
  have HR := Lib.hid hr
  have HN := Lib.hid hn
  have h0 := hr 9223372036854775807
  obtain ⟨v0, ev0⟩ : ∃ v, f 9223372036854775807 = v := ⟨_, rfl⟩
  rw [ev0] at A0 h0
  obtain ⟨x, ex⟩ : ∃ x, X m = x := ⟨_, rfl⟩
  rw [ex] at LA HR HN h0 hr0 hx0 hx1
  clear h hat hr hn Qb ev0 ex
  by_cases hv : v0 < y
  · have er : r = 9223372036854775808 := by
      rcases Int.lt_or_le x 9223372036854775808 with c | c
      · have := h0 (by omega) (by omega); omega
      · exact HN.out (by omega)
    have ER := Lib.hid er
    clear h0 er HR HN
    go_enter Try.func42, Try.ntmps42
    go_wp2_with fail
    with_reducible refine (A0.out _ HI.out).mono ?_
    rintro e w1 ⟨rfl, hb1⟩
    replace HI := Lib.hid (HI.out.next hb1)
    have B1 : Below w.heap.size w w1 := by first | with_reducible exact hb1 | exact Below.trans (by go_grown) (hb1.mono (by simp only [World.size_alloc]; omega))
    clear hb1
    go_wp2_with fail
    go_ret
    exact ⟨by simp [ER.out], B1⟩
  · have hv' : y ≤ v0 := by omega
    have hvb : decide (v0 < y) = false := decide_eq_false hv
    have h1 : r ≤ 9223372036854775807 ∨ x = 9223372036854775808 := by
      rcases Int.lt_or_le x 9223372036854775808 with c | c
      · left; exact (h0 (by omega) (by omega)).1 (by omega)
      · right; omega
    clear h0 hv hv'
    by_cases hxn : x = 9223372036854775808
    · have ER := Lib.hid (HN.out hxn)
      have hx2 : decide (x < 9223372036854775807) = false := decide_eq_false (by omega)
      have EX := Lib.hid hxn
      clear h1 HR HN hxn
      go_enter Try.func42, Try.ntmps42
      go_wp2_with fail
      with_reducible refine (A0.out _ HI.out).mono ?_
      rintro e w1 ⟨rfl, hb1⟩
      replace HI := Lib.hid (HI.out.next hb1)
      have B1 : Below w.heap.size w w1 := by first | with_reducible exact hb1 | exact Below.trans (by go_grown) (hb1.mono (by simp only [World.size_alloc]; omega))
      clear hb1
      go_wp2_with fail
      with_reducible refine (LA.out _ HI.out).mono ?_
      rintro e w2 ⟨rfl, hb2⟩
      replace HI := Lib.hid (HI.out.next hb2)
      have B2 : Below w.heap.size w w2 := by first | with_reducible exact below_next B1 hb2 | exact below_step B1 (by go_grown) hb2
      clear hb2 B1
      have HB := Lib.hid B2
      clear B2
      go_wp2_with fail
      go_loopg [5, 6] 0 (fun gk lo hi wr => gk = 0 ∧ lo = .int .u64 x ∧ hi = .int .u64 9223372036854775807 ∧ Below w.heap.size w wr)
      case atStart => exact ⟨rfl, rfl, rfl, HB.out⟩
      case round =>
        obtain ⟨rfl, rfl, rfl, B0⟩ := hrel
        have HB0 := Lib.hid B0
        clear B0 HB
        go_wp2_with fail
        go_ret
        exact ⟨by simp [ER.out, EX.out], HB0.out⟩
    · have hr2 : r ≤ 9223372036854775807 := h1.resolve_right hxn
      clear h1 HN hxn
      go_enter Try.func42, Try.ntmps42
      go_wp2_with fail
      with_reducible refine (A0.out _ HI.out).mono ?_
      rintro e w1 ⟨rfl, hb1⟩
      replace HI := Lib.hid (HI.out.next hb1)
      have B1 : Below w.heap.size w w1 := by first | with_reducible exact hb1 | exact Below.trans (by go_grown) (hb1.mono (by simp only [World.size_alloc]; omega))
      clear hb1
      go_wp2_with fail
      with_reducible refine (LA.out _ HI.out).mono ?_
      rintro e w2 ⟨rfl, hb2⟩
      replace HI := Lib.hid (HI.out.next hb2)
      have B2 : Below w.heap.size w w2 := by first | with_reducible exact below_next B1 hb2 | exact below_step B1 (by go_grown) hb2
      clear hb2 B1
      have HB := Lib.hid B2
      clear B2 A0 LA
      go_wp2_with fail
      go_loopg [5, 6] (9223372036854775807 - x).toNat (fun gk lo hi wr => ∃ a b : Int, (b - a).toNat = gk ∧ lo = .int .u64 a ∧ hi = .int .u64 b ∧ x ≤ a ∧ a ≤ r ∧ r ≤ b ∧ b ≤ 9223372036854775807 ∧ IsCop wr q F L R (m + 1) X Y ∧ Below w.heap.size w wr)
      case atStart => exact ⟨x, _, rfl, rfl, rfl, by omega, by omega, hr2, by omega, HI.out, HB.out⟩
      case round =>
        obtain ⟨a, b, hgk, rfl, rfl, g1, g2, g3, g4, hI, B0⟩ := hrel
        clear HI HB
        have HI := Lib.hid hI
        have HB := Lib.hid B0
        have HG := Lib.hid hgk
        clear hI B0 hgk
        by_cases hab : a < b
        · have d0 : 0 ≤ (b - a) / 2 := by omega
          obtain ⟨mid, emid⟩ : ∃ z, a + (b - a) / 2 = z := ⟨_, rfl⟩
          have q1 : a ≤ mid := by omega
          have q2 : mid < b := by omega
          have A1 := Lib.hid (fun w hI => AT.out w mid hI ⟨by omega, by omega⟩)
          have hmid := HR.out mid (by omega) (by omega)
          obtain ⟨v, ev⟩ : ∃ v, f mid = v := ⟨_, rfl⟩
          rw [ev] at A1 hmid
          clear ev
          by_cases hyv : y ≤ v
          · have q3 := hmid.1 hyv
            clear hmid
            have B10 : Below wr.heap.size wr wr := Below.refl _ _
            go_wp2_with fail
            with_reducible refine (A1.out _ HI.out).mono ?_
            rintro e w11 ⟨rfl, hb11⟩
            replace HI := Lib.hid (HI.out.next hb11)
            have B11 : Below wr.heap.size wr w11 := by first | with_reducible exact below_next B10 hb11 | exact below_step B10 (by go_grown) hb11
            clear hb11 B10
            go_wp2_with fail
            go_roundg (mid - a).toNat
            case rel => exact ⟨a, mid, rfl, rfl, rfl, g1, g2, q3, by omega, HI.out, below_next HB.out B11⟩
            case measure => have := HG.out; omega
          · have q3 : mid < r := by omega
            have hyv' : decide (y ≤ v) = false := decide_eq_false hyv
            clear hmid hyv
            have B10 : Below wr.heap.size wr wr := Below.refl _ _
            go_wp2_with fail
            with_reducible refine (A1.out _ HI.out).mono ?_
            rintro e w11 ⟨rfl, hb11⟩
            replace HI := Lib.hid (HI.out.next hb11)
            have B11 : Below wr.heap.size wr w11 := by first | with_reducible exact below_next B10 hb11 | exact below_step B10 (by go_grown) hb11
            clear hb11 B10
            go_wp2_with fail
            go_roundg (b - (mid + 1)).toNat
            case rel => exact ⟨mid + 1, b, rfl, rfl, rfl, by omega, by omega, g3, g4, HI.out, below_next HB.out B11⟩
            case measure => have := HG.out; omega
        · obtain rfl : a = r := by omega
          have hba : decide (a < b) = false := decide_eq_false hab
          clear hab
          go_wp2_with fail
          go_ret
          exact ⟨rfl, HB.out⟩

end Go.Proofs.Ytdkeoanlcninkaa
