/-
  The walk of the law WideDivides: a wide number is its quotient times what it was divided by, and the rest.
-/
import Derived.Test.YtafhdpldkbhdcaaProg
import Derived.Test.YtafhdpldkbhdcaaWideAwake
namespace Go.Proofs.Ytafhdpldkbhdcaa
set_option linter.unusedVariables false
set_option linter.unusedSimpArgs false
open Go.RowKit Go.Shelf

set_option maxHeartbeats 2000000 in
theorem wideDivides_walk (w : World) (h : Int) (x1 : (Lit.int .u64 h).wf = true) (l : Int) (y1 : (Lit.int .u64 l).wf = true) (n : Int) (hn : (Lit.int .u64 n).wf = true) :
    Calls Try.prog 7 #[.agg #[.int .u64 h, .int .u64 l], .int .u64 n] w fun e w' => e = .returned (.bool true) ∧ Below w.heap.size w w' := by
  have a1 := word_of_wf x1
  have a2 := word_of_wf y1
  have a3 := word_of_wf hn
  clear x1 y1 hn
  have AW := Lib.hid (fun w => awake01 w)
  have n0 := a3.1
  by_cases hz : n = 0
  · subst hz
    have D := Lib.hid (fun w => wdiv_val h l 0 0 0 2 w a1 a2 a3 (by unfold divQ divE; simp) (by unfold divR divE; simp) (by unfold divE; simp))
    go_enter Try.func7, Try.ntmps7
    go_wp2_with fail
    with_reducible refine (AW.out _).mono ?_
    rintro e w1 ⟨rfl, hb1⟩
    have K0m : Blk w1 (w.heap.size) 25 #[.int .u64 h, .int .u64 l] := Blk.next (by repeat (first | (refine Blk.new_at ?_; simp only [World.size_alloc]; done) | (with_reducible refine Blk.alloc ?_ _) | (with_reducible refine Blk.drewN ?_ _))) hb1
    have K0b := K0m
    clear K0m
    have K0c0 : World.cell? w1 ⟨w.heap.size, 0, none⟩ = some (.int .u64 h) := K0b.get 0 rfl
    have K0f0 := Blk.frozen K0b 0
    have K0c1 : World.cell? w1 ⟨w.heap.size, 1, none⟩ = some (.int .u64 l) := K0b.get 1 rfl
    have K0f1 := Blk.frozen K0b 1
    have K0n := Blk.lt K0b
    have B1 : Below w.heap.size w w1 := by first | with_reducible exact hb1 | exact Below.trans (by go_grown) (hb1.mono (by simp only [World.size_alloc]; omega))
    clear hb1
    go_wp2_with fail
    with_reducible refine (D.out _).mono ?_
    rintro e w2 ⟨rfl, hb2⟩
    have K0m : Blk w2 (w.heap.size) 25 #[.int .u64 h, .int .u64 l] := Blk.next (by repeat (first | (with_reducible exact K0b) | (refine Blk.new_at ?_; simp only [World.size_alloc]; done) | (with_reducible refine Blk.alloc ?_ _) | (with_reducible refine Blk.drewN ?_ _))) hb2
    clear K0n K0b K0c0 K0f0 K0c1 K0f1
    have K0b := K0m
    clear K0m
    have K0c0 : World.cell? w2 ⟨w.heap.size, 0, none⟩ = some (.int .u64 h) := K0b.get 0 rfl
    have K0f0 := Blk.frozen K0b 0
    have K0c1 : World.cell? w2 ⟨w.heap.size, 1, none⟩ = some (.int .u64 l) := K0b.get 1 rfl
    have K0f1 := Blk.frozen K0b 1
    have K0n := Blk.lt K0b
    have B2 : Below w.heap.size w w2 := by first | with_reducible exact below_next B1 hb2 | exact below_step B1 (by go_grown) hb2
    clear hb2 B1
    go_wp2_with fail
    go_ret
    exact ⟨by simp, B2⟩
  have nz : (n == 0) = false := beq_eq_false_iff_ne.2 hz
  have np : 0 < n := by omega
  by_cases hh : n ≤ h
  · have E : divE h n = 10 := by unfold divE; rw [if_neg hz, if_pos hh]
    have D := Lib.hid (fun w => wdiv_val h l n 0 0 10 w a1 a2 a3 (by unfold divQ; rw [E]; rfl) (by unfold divR; rw [E]; rfl) E)
    clear E
    go_enter Try.func7, Try.ntmps7
    go_wp2_with fail
    with_reducible refine (AW.out _).mono ?_
    rintro e w1 ⟨rfl, hb1⟩
    have K0m : Blk w1 (w.heap.size) 25 #[.int .u64 h, .int .u64 l] := Blk.next (by repeat (first | (refine Blk.new_at ?_; simp only [World.size_alloc]; done) | (with_reducible refine Blk.alloc ?_ _) | (with_reducible refine Blk.drewN ?_ _))) hb1
    have K0b := K0m
    clear K0m
    have K0c0 : World.cell? w1 ⟨w.heap.size, 0, none⟩ = some (.int .u64 h) := K0b.get 0 rfl
    have K0f0 := Blk.frozen K0b 0
    have K0c1 : World.cell? w1 ⟨w.heap.size, 1, none⟩ = some (.int .u64 l) := K0b.get 1 rfl
    have K0f1 := Blk.frozen K0b 1
    have K0n := Blk.lt K0b
    have B1 : Below w.heap.size w w1 := by first | with_reducible exact hb1 | exact Below.trans (by go_grown) (hb1.mono (by simp only [World.size_alloc]; omega))
    clear hb1
    go_wp2_with fail
    with_reducible refine (D.out _).mono ?_
    rintro e w2 ⟨rfl, hb2⟩
    have K0m : Blk w2 (w.heap.size) 25 #[.int .u64 h, .int .u64 l] := Blk.next (by repeat (first | (with_reducible exact K0b) | (refine Blk.new_at ?_; simp only [World.size_alloc]; done) | (with_reducible refine Blk.alloc ?_ _) | (with_reducible refine Blk.drewN ?_ _))) hb2
    clear K0n K0b K0c0 K0f0 K0c1 K0f1
    have K0b := K0m
    clear K0m
    have K0c0 : World.cell? w2 ⟨w.heap.size, 0, none⟩ = some (.int .u64 h) := K0b.get 0 rfl
    have K0f0 := Blk.frozen K0b 0
    have K0c1 : World.cell? w2 ⟨w.heap.size, 1, none⟩ = some (.int .u64 l) := K0b.get 1 rfl
    have K0f1 := Blk.frozen K0b 1
    have K0n := Blk.lt K0b
    have B2 : Below w.heap.size w w2 := by first | with_reducible exact below_next B1 hb2 | exact below_step B1 (by go_grown) hb2
    clear hb2 B1
    go_wp2_with fail
    go_ret
    exact ⟨by simp, B2⟩
  have hlt : h < n := by omega
  have E : divE h n = 0 := by unfold divE; rw [if_neg hz, if_neg hh]
  obtain ⟨q, eq⟩ : ∃ q, wv h l / n = q := ⟨_, rfl⟩
  obtain ⟨r, er⟩ : ∃ q, wv h l % n = q := ⟨_, rfl⟩
  have D := Lib.hid (fun w => wdiv_val h l n q r 0 w a1 a2 a3 (by unfold divQ; rw [E, if_pos rfl]; exact eq) (by unfold divR; rw [E, if_pos rfl]; exact er) E)
  have wq := quot_words a1.1 a2 hlt
  rw [eq, er] at wq
  obtain ⟨wq, r0, rn⟩ := wq
  have n9 := a3.2
  have wr : Word r := ⟨r0, by omega⟩
  have back : q * n + r = wv h l := by have := Int.mul_ediv_add_emod (wv h l) n; rw [eq, er, Int.mul_comm] at this; exact this
  obtain ⟨v1, v2, v3, v4⟩ := prod_words wq a3
  obtain ⟨h1, e1⟩ : ∃ x, q * n / 18446744073709551616 = x := ⟨_, rfl⟩
  obtain ⟨l1, e2⟩ : ∃ x, q * n % 18446744073709551616 = x := ⟨_, rfl⟩
  have M := Lib.hid (fun w => mul_hl q n h1 l1 w wq a3 e1 e2)
  rw [e1] at v1
  rw [e2] at v2
  rw [e1, e2] at v3
  have A2 := a2
  have A1 := a1
  have s : wv h1 l1 + r = wv h l := by omega
  have P := Lib.hid (fun w => wplus_val h1 l1 0 r h l 0 w v1 v2 word0 wr (by unfold plusH; unfold wv Word at *; split <;> omega) (by unfold plusL; unfold wv Word at *; split <;> omega) (by unfold plusE; unfold wv Word at *; split <;> omega))
  obtain ⟨u1, u2, u3, u4⟩ := prod_words a2 a3
  obtain ⟨h2, e3⟩ : ∃ x, l * n / 18446744073709551616 = x := ⟨_, rfl⟩
  obtain ⟨l2, e4⟩ : ∃ x, l * n % 18446744073709551616 = x := ⟨_, rfl⟩
  have M2 := Lib.hid (fun w => mul_hl l n h2 l2 w a2 a3 e3 e4)
  rw [e3, e4] at u3
  have h2n : h2 < n := by
    have : l * n ≤ 18446744073709551615 * n := Int.mul_le_mul_of_nonneg_right (by have := a2.2; omega) (by omega)
    omega
  rw [e3] at u1
  rw [e4] at u2
  have E2 : divE h2 n = 0 := by unfold divE; rw [if_neg hz, if_neg (by omega)]
  have D2 := Lib.hid (fun w => wdiv_val h2 l2 n l 0 0 w u1 u2 a3 (by unfold divQ; rw [E2, if_pos rfl, u3]; exact Int.mul_ediv_cancel _ hz) (by unfold divR; rw [E2, if_pos rfl, u3]; exact Int.mul_emod_left _ _) E2)
  clear E E2 e1 e2 e3 e4 u1 u2 u3 u4 v1 v2 v3 v4 s back eq er A1 A2 wq wr hh
  go_enter Try.func7, Try.ntmps7
  go_wp2_with fail
  with_reducible refine (AW.out _).mono ?_
  rintro e w1 ⟨rfl, hb1⟩
  have K0m : Blk w1 (w.heap.size) 25 #[.int .u64 h, .int .u64 l] := Blk.next (by repeat (first | (refine Blk.new_at ?_; simp only [World.size_alloc]; done) | (with_reducible refine Blk.alloc ?_ _) | (with_reducible refine Blk.drewN ?_ _))) hb1
  have K0b := K0m
  clear K0m
  have K0c0 : World.cell? w1 ⟨w.heap.size, 0, none⟩ = some (.int .u64 h) := K0b.get 0 rfl
  have K0f0 := Blk.frozen K0b 0
  have K0c1 : World.cell? w1 ⟨w.heap.size, 1, none⟩ = some (.int .u64 l) := K0b.get 1 rfl
  have K0f1 := Blk.frozen K0b 1
  have K0n := Blk.lt K0b
  have B1 : Below w.heap.size w w1 := by first | with_reducible exact hb1 | exact Below.trans (by go_grown) (hb1.mono (by simp only [World.size_alloc]; omega))
  clear hb1
  go_wp2_with fail
  with_reducible refine (D.out _).mono ?_
  rintro e w2 ⟨rfl, hb2⟩
  have K0m : Blk w2 (w.heap.size) 25 #[.int .u64 h, .int .u64 l] := Blk.next (by repeat (first | (with_reducible exact K0b) | (refine Blk.new_at ?_; simp only [World.size_alloc]; done) | (with_reducible refine Blk.alloc ?_ _) | (with_reducible refine Blk.drewN ?_ _))) hb2
  clear K0n K0b K0c0 K0f0 K0c1 K0f1
  have K0b := K0m
  clear K0m
  have K0c0 : World.cell? w2 ⟨w.heap.size, 0, none⟩ = some (.int .u64 h) := K0b.get 0 rfl
  have K0f0 := Blk.frozen K0b 0
  have K0c1 : World.cell? w2 ⟨w.heap.size, 1, none⟩ = some (.int .u64 l) := K0b.get 1 rfl
  have K0f1 := Blk.frozen K0b 1
  have K0n := Blk.lt K0b
  have B2 : Below w.heap.size w w2 := by first | with_reducible exact below_next B1 hb2 | exact below_step B1 (by go_grown) hb2
  clear hb2 B1
  go_wp2_with fail
  with_reducible refine (M.out _).mono ?_
  rintro e w3 ⟨rfl, hb3⟩
  have K0m : Blk w3 (w.heap.size) 25 #[.int .u64 h, .int .u64 l] := Blk.next (by repeat (first | (with_reducible exact K0b) | (refine Blk.new_at ?_; simp only [World.size_alloc]; done) | (with_reducible refine Blk.alloc ?_ _) | (with_reducible refine Blk.drewN ?_ _))) hb3
  clear K0n K0b K0c0 K0f0 K0c1 K0f1
  have K0b := K0m
  clear K0m
  have K0c0 : World.cell? w3 ⟨w.heap.size, 0, none⟩ = some (.int .u64 h) := K0b.get 0 rfl
  have K0f0 := Blk.frozen K0b 0
  have K0c1 : World.cell? w3 ⟨w.heap.size, 1, none⟩ = some (.int .u64 l) := K0b.get 1 rfl
  have K0f1 := Blk.frozen K0b 1
  have K0n := Blk.lt K0b
  have B3 : Below w.heap.size w w3 := by first | with_reducible exact below_next B2 hb3 | exact below_step B2 (by go_grown) hb3
  clear hb3 B2
  go_wp2_with fail
  with_reducible refine (P.out _).mono ?_
  rintro e w4 ⟨rfl, hb4⟩
  have K0m : Blk w4 (w.heap.size) 25 #[.int .u64 h, .int .u64 l] := Blk.next (by repeat (first | (with_reducible exact K0b) | (refine Blk.new_at ?_; simp only [World.size_alloc]; done) | (with_reducible refine Blk.alloc ?_ _) | (with_reducible refine Blk.drewN ?_ _))) hb4
  clear K0n K0b K0c0 K0f0 K0c1 K0f1
  have K0b := K0m
  clear K0m
  have K0c0 : World.cell? w4 ⟨w.heap.size, 0, none⟩ = some (.int .u64 h) := K0b.get 0 rfl
  have K0f0 := Blk.frozen K0b 0
  have K0c1 : World.cell? w4 ⟨w.heap.size, 1, none⟩ = some (.int .u64 l) := K0b.get 1 rfl
  have K0f1 := Blk.frozen K0b 1
  have K0n := Blk.lt K0b
  have B4 : Below w.heap.size w w4 := by first | with_reducible exact below_next B3 hb4 | exact below_step B3 (by go_grown) hb4
  clear hb4 B3
  go_wp2_with fail
  with_reducible refine (M2.out _).mono ?_
  rintro e w5 ⟨rfl, hb5⟩
  have K0m : Blk w5 (w.heap.size) 25 #[.int .u64 h, .int .u64 l] := Blk.next (by repeat (first | (with_reducible exact K0b) | (refine Blk.new_at ?_; simp only [World.size_alloc]; done) | (with_reducible refine Blk.alloc ?_ _) | (with_reducible refine Blk.drewN ?_ _))) hb5
  clear K0n K0b K0c0 K0f0 K0c1 K0f1
  have K0b := K0m
  clear K0m
  have K0c0 : World.cell? w5 ⟨w.heap.size, 0, none⟩ = some (.int .u64 h) := K0b.get 0 rfl
  have K0f0 := Blk.frozen K0b 0
  have K0c1 : World.cell? w5 ⟨w.heap.size, 1, none⟩ = some (.int .u64 l) := K0b.get 1 rfl
  have K0f1 := Blk.frozen K0b 1
  have K0n := Blk.lt K0b
  have KBm : Blk w5 (w4.heap.size) 25 #[.int .u64 h, .int .u64 l] := Blk.next (by repeat (first | (refine Blk.new_at ?_; simp only [World.size_alloc]; done) | (with_reducible refine Blk.alloc ?_ _) | (with_reducible refine Blk.drewN ?_ _))) hb5
  have KBb := KBm
  clear KBm
  have KBc0 : World.cell? w5 ⟨w4.heap.size, 0, none⟩ = some (.int .u64 h) := KBb.get 0 rfl
  have KBf0 := Blk.frozen KBb 0
  have KBc1 : World.cell? w5 ⟨w4.heap.size, 1, none⟩ = some (.int .u64 l) := KBb.get 1 rfl
  have KBf1 := Blk.frozen KBb 1
  have KBn := Blk.lt KBb
  have B5 : Below w.heap.size w w5 := by first | with_reducible exact below_next B4 hb5 | exact below_step B4 (by go_grown) hb5
  clear hb5 B4
  go_wp2_with fail
  with_reducible refine (D2.out _).mono ?_
  rintro e w6 ⟨rfl, hb6⟩
  have K0m : Blk w6 (w.heap.size) 25 #[.int .u64 h, .int .u64 l] := Blk.next (by repeat (first | (with_reducible exact K0b) | (refine Blk.new_at ?_; simp only [World.size_alloc]; done) | (with_reducible refine Blk.alloc ?_ _) | (with_reducible refine Blk.drewN ?_ _))) hb6
  clear K0n K0b K0c0 K0f0 K0c1 K0f1
  have K0b := K0m
  clear K0m
  have K0c0 : World.cell? w6 ⟨w.heap.size, 0, none⟩ = some (.int .u64 h) := K0b.get 0 rfl
  have K0f0 := Blk.frozen K0b 0
  have K0c1 : World.cell? w6 ⟨w.heap.size, 1, none⟩ = some (.int .u64 l) := K0b.get 1 rfl
  have K0f1 := Blk.frozen K0b 1
  have K0n := Blk.lt K0b
  have KBm : Blk w6 (w4.heap.size) 25 #[.int .u64 h, .int .u64 l] := Blk.next (by repeat (first | (with_reducible exact KBb) | (refine Blk.new_at ?_; simp only [World.size_alloc]; done) | (with_reducible refine Blk.alloc ?_ _) | (with_reducible refine Blk.drewN ?_ _))) hb6
  clear KBn KBb KBc0 KBf0 KBc1 KBf1
  have KBb := KBm
  clear KBm
  have KBc0 : World.cell? w6 ⟨w4.heap.size, 0, none⟩ = some (.int .u64 h) := KBb.get 0 rfl
  have KBf0 := Blk.frozen KBb 0
  have KBc1 : World.cell? w6 ⟨w4.heap.size, 1, none⟩ = some (.int .u64 l) := KBb.get 1 rfl
  have KBf1 := Blk.frozen KBb 1
  have KBn := Blk.lt KBb
  have B6 : Below w.heap.size w w6 := by first | with_reducible exact below_next B5 hb6 | exact below_step B5 (by go_grown) hb6
  clear hb6 B5
  go_wp2_with fail
  go_ret
  exact ⟨by simp, B6⟩

end Go.Proofs.Ytafhdpldkbhdcaa
