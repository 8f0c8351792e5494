/-
  The walk of the law WideSums: sums, differences, quotients of wide numbers are the document's.
-/
import Derived.Test.YtafhdpldkbhdcaaProg
import Derived.Test.YtafhdpldkbhdcaaWideRef
namespace Go.Proofs.Ytafhdpldkbhdcaa
set_option linter.unusedVariables false
set_option linter.unusedSimpArgs false
open Go.RowKit Go.Shelf

set_option maxHeartbeats 2000000 in
theorem wideSums_walk (w : World) (h1 : Int) (x1 : (Lit.int .u64 h1).wf = true) (l1 : Int) (y1 : (Lit.int .u64 l1).wf = true) (h2 : Int) (x2 : (Lit.int .u64 h2).wf = true) (l2 : Int) (y2 : (Lit.int .u64 l2).wf = true) (n : Int) (hn : (Lit.int .u64 n).wf = true) :
    Calls Try.prog 5 #[.agg #[.int .u64 h1, .int .u64 l1], .agg #[.int .u64 h2, .int .u64 l2], .int .u64 n] w fun e w' => e = .returned (.bool true) ∧ Below w.heap.size w w' := by
  have a1 := word_of_wf x1
  have a2 := word_of_wf y1
  have a3 := word_of_wf x2
  have a4 := word_of_wf y2
  have a5 := word_of_wf hn
  clear x1 y1 x2 y2 hn
  have F1 := Lib.hid (fun w => wplus_any h1 l1 h2 l2 w a1 a2 a3 a4)
  have F2 := Lib.hid (fun w => refplus_any h1 l1 h2 l2 w a1 a2 a3 a4)
  have F3 := Lib.hid (fun w => wminus_any h1 l1 h2 l2 w a1 a2 a3 a4)
  have F4 := Lib.hid (fun w => refminus_any h1 l1 h2 l2 w a1 a2 a3 a4)
  have F5 := Lib.hid (fun w => wdivs_any h1 l1 n w a1 a2 a5)
  have F6 := Lib.hid (fun w => refdivs_any h1 l1 n w a1 a2 a5)
  have F7 := Lib.hid (fun w => cmp_any h1 l1 h2 l2 w)
  have F8 := Lib.hid (fun w => refcmp_any h1 l1 h2 l2 w)
  obtain ⟨p1, q1⟩ : ∃ x, plusH h1 l1 h2 l2 = x := ⟨_, rfl⟩
  obtain ⟨p2, q2⟩ : ∃ x, plusL h1 l1 h2 l2 = x := ⟨_, rfl⟩
  obtain ⟨p3, q3⟩ : ∃ x, plusE h1 l1 h2 l2 = x := ⟨_, rfl⟩
  obtain ⟨p4, q4⟩ : ∃ x, lessH h1 l1 h2 l2 = x := ⟨_, rfl⟩
  obtain ⟨p5, q5⟩ : ∃ x, lessL h1 l1 h2 l2 = x := ⟨_, rfl⟩
  obtain ⟨p6, q6⟩ : ∃ x, lessE h1 l1 h2 l2 = x := ⟨_, rfl⟩
  obtain ⟨p7, q7⟩ : ∃ x, divQ h1 l1 n = x := ⟨_, rfl⟩
  obtain ⟨p8, q8⟩ : ∃ x, divR h1 l1 n = x := ⟨_, rfl⟩
  obtain ⟨p9, q9⟩ : ∃ x, divE h1 n = x := ⟨_, rfl⟩
  obtain ⟨p10, q10⟩ : ∃ x, cmpW h1 l1 h2 l2 = x := ⟨_, rfl⟩
  rw [q1, q2, q3] at F1 F2
  rw [q4, q5, q6] at F3 F4
  rw [q7, q8, q9] at F5 F6
  rw [q10] at F7 F8
  clear q1 q2 q3 q4 q5 q6 q7 q8 q9 q10
  go_enter Try.func5, Try.ntmps5
  go_wp2_with fail
  with_reducible refine (F1.out _).mono ?_
  rintro e w1 ⟨rfl, hb1⟩
  have K0m : Blk w1 (w.heap.size) 25 #[.int .u64 h1, .int .u64 l1] := Blk.next (by repeat (first | (refine Blk.new_at ?_; simp only [World.size_alloc]; done) | (with_reducible refine Blk.alloc ?_ _) | (with_reducible refine Blk.drewN ?_ _))) hb1
  have K0b := K0m
  clear K0m
  have K0c0 : World.cell? w1 ⟨w.heap.size, 0, none⟩ = some (.int .u64 h1) := K0b.get 0 rfl
  have K0f0 := Blk.frozen K0b 0
  have K0c1 : World.cell? w1 ⟨w.heap.size, 1, none⟩ = some (.int .u64 l1) := K0b.get 1 rfl
  have K0f1 := Blk.frozen K0b 1
  have K0n := Blk.lt K0b
  have K1m : Blk w1 (w.heap.size + 1) 25 #[.int .u64 h2, .int .u64 l2] := Blk.next (by repeat (first | (refine Blk.new_at ?_; simp only [World.size_alloc]; done) | (with_reducible refine Blk.alloc ?_ _) | (with_reducible refine Blk.drewN ?_ _))) hb1
  have K1b := K1m
  clear K1m
  have K1c0 : World.cell? w1 ⟨w.heap.size + 1, 0, none⟩ = some (.int .u64 h2) := K1b.get 0 rfl
  have K1f0 := Blk.frozen K1b 0
  have K1c1 : World.cell? w1 ⟨w.heap.size + 1, 1, none⟩ = some (.int .u64 l2) := K1b.get 1 rfl
  have K1f1 := Blk.frozen K1b 1
  have K1n := Blk.lt K1b
  have B1 : Below w.heap.size w w1 := by first | with_reducible exact hb1 | exact Below.trans (by go_grown) (hb1.mono (by simp only [World.size_alloc]; omega))
  clear hb1
  go_wp2_with fail
  with_reducible refine (F2.out _).mono ?_
  rintro e w2 ⟨rfl, hb2⟩
  have K0m : Blk w2 (w.heap.size) 25 #[.int .u64 h1, .int .u64 l1] := Blk.next (by repeat (first | (with_reducible exact K0b) | (refine Blk.new_at ?_; simp only [World.size_alloc]; done) | (with_reducible refine Blk.alloc ?_ _) | (with_reducible refine Blk.drewN ?_ _))) hb2
  clear K0n K0b K0c0 K0f0 K0c1 K0f1
  have K0b := K0m
  clear K0m
  have K0c0 : World.cell? w2 ⟨w.heap.size, 0, none⟩ = some (.int .u64 h1) := K0b.get 0 rfl
  have K0f0 := Blk.frozen K0b 0
  have K0c1 : World.cell? w2 ⟨w.heap.size, 1, none⟩ = some (.int .u64 l1) := K0b.get 1 rfl
  have K0f1 := Blk.frozen K0b 1
  have K0n := Blk.lt K0b
  have K1m : Blk w2 (w.heap.size + 1) 25 #[.int .u64 h2, .int .u64 l2] := Blk.next (by repeat (first | (with_reducible exact K1b) | (refine Blk.new_at ?_; simp only [World.size_alloc]; done) | (with_reducible refine Blk.alloc ?_ _) | (with_reducible refine Blk.drewN ?_ _))) hb2
  clear K1n K1b K1c0 K1f0 K1c1 K1f1
  have K1b := K1m
  clear K1m
  have K1c0 : World.cell? w2 ⟨w.heap.size + 1, 0, none⟩ = some (.int .u64 h2) := K1b.get 0 rfl
  have K1f0 := Blk.frozen K1b 0
  have K1c1 : World.cell? w2 ⟨w.heap.size + 1, 1, none⟩ = some (.int .u64 l2) := K1b.get 1 rfl
  have K1f1 := Blk.frozen K1b 1
  have K1n := Blk.lt K1b
  have KAm : Blk w2 (w1.heap.size) 25 #[.int .u64 p1, .int .u64 p2] := Blk.next (by repeat (first | (refine Blk.new_at ?_; simp only [World.size_alloc]; done) | (with_reducible refine Blk.alloc ?_ _) | (with_reducible refine Blk.drewN ?_ _))) hb2
  have KAb := KAm
  clear KAm
  have KAc0 : World.cell? w2 ⟨w1.heap.size, 0, none⟩ = some (.int .u64 p1) := KAb.get 0 rfl
  have KAf0 := Blk.frozen KAb 0
  have KAc1 : World.cell? w2 ⟨w1.heap.size, 1, none⟩ = some (.int .u64 p2) := KAb.get 1 rfl
  have KAf1 := Blk.frozen KAb 1
  have KAn := Blk.lt KAb
  have B2 : Below w.heap.size w w2 := by first | with_reducible exact below_next B1 hb2 | exact below_step B1 (by go_grown) hb2
  clear hb2 B1
  go_wp2_with fail
  with_reducible refine (F3.out _).mono ?_
  rintro e w3 ⟨rfl, hb3⟩
  have K0m : Blk w3 (w.heap.size) 25 #[.int .u64 h1, .int .u64 l1] := Blk.next (by repeat (first | (with_reducible exact K0b) | (refine Blk.new_at ?_; simp only [World.size_alloc]; done) | (with_reducible refine Blk.alloc ?_ _) | (with_reducible refine Blk.drewN ?_ _))) hb3
  clear K0n K0b K0c0 K0f0 K0c1 K0f1
  have K0b := K0m
  clear K0m
  have K0c0 : World.cell? w3 ⟨w.heap.size, 0, none⟩ = some (.int .u64 h1) := K0b.get 0 rfl
  have K0f0 := Blk.frozen K0b 0
  have K0c1 : World.cell? w3 ⟨w.heap.size, 1, none⟩ = some (.int .u64 l1) := K0b.get 1 rfl
  have K0f1 := Blk.frozen K0b 1
  have K0n := Blk.lt K0b
  have K1m : Blk w3 (w.heap.size + 1) 25 #[.int .u64 h2, .int .u64 l2] := Blk.next (by repeat (first | (with_reducible exact K1b) | (refine Blk.new_at ?_; simp only [World.size_alloc]; done) | (with_reducible refine Blk.alloc ?_ _) | (with_reducible refine Blk.drewN ?_ _))) hb3
  clear K1n K1b K1c0 K1f0 K1c1 K1f1
  have K1b := K1m
  clear K1m
  have K1c0 : World.cell? w3 ⟨w.heap.size + 1, 0, none⟩ = some (.int .u64 h2) := K1b.get 0 rfl
  have K1f0 := Blk.frozen K1b 0
  have K1c1 : World.cell? w3 ⟨w.heap.size + 1, 1, none⟩ = some (.int .u64 l2) := K1b.get 1 rfl
  have K1f1 := Blk.frozen K1b 1
  have K1n := Blk.lt K1b
  have KAm : Blk w3 (w1.heap.size) 25 #[.int .u64 p1, .int .u64 p2] := Blk.next (by repeat (first | (with_reducible exact KAb) | (refine Blk.new_at ?_; simp only [World.size_alloc]; done) | (with_reducible refine Blk.alloc ?_ _) | (with_reducible refine Blk.drewN ?_ _))) hb3
  clear KAn KAb KAc0 KAf0 KAc1 KAf1
  have KAb := KAm
  clear KAm
  have KAc0 : World.cell? w3 ⟨w1.heap.size, 0, none⟩ = some (.int .u64 p1) := KAb.get 0 rfl
  have KAf0 := Blk.frozen KAb 0
  have KAc1 : World.cell? w3 ⟨w1.heap.size, 1, none⟩ = some (.int .u64 p2) := KAb.get 1 rfl
  have KAf1 := Blk.frozen KAb 1
  have KAn := Blk.lt KAb
  have KBm : Blk w3 (w2.heap.size) 25 #[.int .u64 p1, .int .u64 p2] := Blk.next (by repeat (first | (refine Blk.new_at ?_; simp only [World.size_alloc]; done) | (with_reducible refine Blk.alloc ?_ _) | (with_reducible refine Blk.drewN ?_ _))) hb3
  have KBb := KBm
  clear KBm
  have KBc0 : World.cell? w3 ⟨w2.heap.size, 0, none⟩ = some (.int .u64 p1) := KBb.get 0 rfl
  have KBf0 := Blk.frozen KBb 0
  have KBc1 : World.cell? w3 ⟨w2.heap.size, 1, none⟩ = some (.int .u64 p2) := KBb.get 1 rfl
  have KBf1 := Blk.frozen KBb 1
  have KBn := Blk.lt KBb
  have B3 : Below w.heap.size w w3 := by first | with_reducible exact below_next B2 hb3 | exact below_step B2 (by go_grown) hb3
  clear hb3 B2
  go_wp2_with fail
  with_reducible refine (F4.out _).mono ?_
  rintro e w4 ⟨rfl, hb4⟩
  have K0m : Blk w4 (w.heap.size) 25 #[.int .u64 h1, .int .u64 l1] := Blk.next (by repeat (first | (with_reducible exact K0b) | (refine Blk.new_at ?_; simp only [World.size_alloc]; done) | (with_reducible refine Blk.alloc ?_ _) | (with_reducible refine Blk.drewN ?_ _))) hb4
  clear K0n K0b K0c0 K0f0 K0c1 K0f1
  have K0b := K0m
  clear K0m
  have K0c0 : World.cell? w4 ⟨w.heap.size, 0, none⟩ = some (.int .u64 h1) := K0b.get 0 rfl
  have K0f0 := Blk.frozen K0b 0
  have K0c1 : World.cell? w4 ⟨w.heap.size, 1, none⟩ = some (.int .u64 l1) := K0b.get 1 rfl
  have K0f1 := Blk.frozen K0b 1
  have K0n := Blk.lt K0b
  have K1m : Blk w4 (w.heap.size + 1) 25 #[.int .u64 h2, .int .u64 l2] := Blk.next (by repeat (first | (with_reducible exact K1b) | (refine Blk.new_at ?_; simp only [World.size_alloc]; done) | (with_reducible refine Blk.alloc ?_ _) | (with_reducible refine Blk.drewN ?_ _))) hb4
  clear K1n K1b K1c0 K1f0 K1c1 K1f1
  have K1b := K1m
  clear K1m
  have K1c0 : World.cell? w4 ⟨w.heap.size + 1, 0, none⟩ = some (.int .u64 h2) := K1b.get 0 rfl
  have K1f0 := Blk.frozen K1b 0
  have K1c1 : World.cell? w4 ⟨w.heap.size + 1, 1, none⟩ = some (.int .u64 l2) := K1b.get 1 rfl
  have K1f1 := Blk.frozen K1b 1
  have K1n := Blk.lt K1b
  have KAm : Blk w4 (w1.heap.size) 25 #[.int .u64 p1, .int .u64 p2] := Blk.next (by repeat (first | (with_reducible exact KAb) | (refine Blk.new_at ?_; simp only [World.size_alloc]; done) | (with_reducible refine Blk.alloc ?_ _) | (with_reducible refine Blk.drewN ?_ _))) hb4
  clear KAn KAb KAc0 KAf0 KAc1 KAf1
  have KAb := KAm
  clear KAm
  have KAc0 : World.cell? w4 ⟨w1.heap.size, 0, none⟩ = some (.int .u64 p1) := KAb.get 0 rfl
  have KAf0 := Blk.frozen KAb 0
  have KAc1 : World.cell? w4 ⟨w1.heap.size, 1, none⟩ = some (.int .u64 p2) := KAb.get 1 rfl
  have KAf1 := Blk.frozen KAb 1
  have KAn := Blk.lt KAb
  have KBm : Blk w4 (w2.heap.size) 25 #[.int .u64 p1, .int .u64 p2] := Blk.next (by repeat (first | (with_reducible exact KBb) | (refine Blk.new_at ?_; simp only [World.size_alloc]; done) | (with_reducible refine Blk.alloc ?_ _) | (with_reducible refine Blk.drewN ?_ _))) hb4
  clear KBn KBb KBc0 KBf0 KBc1 KBf1
  have KBb := KBm
  clear KBm
  have KBc0 : World.cell? w4 ⟨w2.heap.size, 0, none⟩ = some (.int .u64 p1) := KBb.get 0 rfl
  have KBf0 := Blk.frozen KBb 0
  have KBc1 : World.cell? w4 ⟨w2.heap.size, 1, none⟩ = some (.int .u64 p2) := KBb.get 1 rfl
  have KBf1 := Blk.frozen KBb 1
  have KBn := Blk.lt KBb
  have KCm : Blk w4 (w3.heap.size) 25 #[.int .u64 p4, .int .u64 p5] := Blk.next (by repeat (first | (refine Blk.new_at ?_; simp only [World.size_alloc]; done) | (with_reducible refine Blk.alloc ?_ _) | (with_reducible refine Blk.drewN ?_ _))) hb4
  have KCb := KCm
  clear KCm
  have KCc0 : World.cell? w4 ⟨w3.heap.size, 0, none⟩ = some (.int .u64 p4) := KCb.get 0 rfl
  have KCf0 := Blk.frozen KCb 0
  have KCc1 : World.cell? w4 ⟨w3.heap.size, 1, none⟩ = some (.int .u64 p5) := KCb.get 1 rfl
  have KCf1 := Blk.frozen KCb 1
  have KCn := Blk.lt KCb
  have B4 : Below w.heap.size w w4 := by first | with_reducible exact below_next B3 hb4 | exact below_step B3 (by go_grown) hb4
  clear hb4 B3
  go_wp2_with fail
  with_reducible refine (F5.out _).mono ?_
  rintro e w5 ⟨rfl, hb5⟩
  have K0m : Blk w5 (w.heap.size) 25 #[.int .u64 h1, .int .u64 l1] := Blk.next (by repeat (first | (with_reducible exact K0b) | (refine Blk.new_at ?_; simp only [World.size_alloc]; done) | (with_reducible refine Blk.alloc ?_ _) | (with_reducible refine Blk.drewN ?_ _))) hb5
  clear K0n K0b K0c0 K0f0 K0c1 K0f1
  have K0b := K0m
  clear K0m
  have K0c0 : World.cell? w5 ⟨w.heap.size, 0, none⟩ = some (.int .u64 h1) := K0b.get 0 rfl
  have K0f0 := Blk.frozen K0b 0
  have K0c1 : World.cell? w5 ⟨w.heap.size, 1, none⟩ = some (.int .u64 l1) := K0b.get 1 rfl
  have K0f1 := Blk.frozen K0b 1
  have K0n := Blk.lt K0b
  have K1m : Blk w5 (w.heap.size + 1) 25 #[.int .u64 h2, .int .u64 l2] := Blk.next (by repeat (first | (with_reducible exact K1b) | (refine Blk.new_at ?_; simp only [World.size_alloc]; done) | (with_reducible refine Blk.alloc ?_ _) | (with_reducible refine Blk.drewN ?_ _))) hb5
  clear K1n K1b K1c0 K1f0 K1c1 K1f1
  have K1b := K1m
  clear K1m
  have K1c0 : World.cell? w5 ⟨w.heap.size + 1, 0, none⟩ = some (.int .u64 h2) := K1b.get 0 rfl
  have K1f0 := Blk.frozen K1b 0
  have K1c1 : World.cell? w5 ⟨w.heap.size + 1, 1, none⟩ = some (.int .u64 l2) := K1b.get 1 rfl
  have K1f1 := Blk.frozen K1b 1
  have K1n := Blk.lt K1b
  have KAm : Blk w5 (w1.heap.size) 25 #[.int .u64 p1, .int .u64 p2] := Blk.next (by repeat (first | (with_reducible exact KAb) | (refine Blk.new_at ?_; simp only [World.size_alloc]; done) | (with_reducible refine Blk.alloc ?_ _) | (with_reducible refine Blk.drewN ?_ _))) hb5
  clear KAn KAb KAc0 KAf0 KAc1 KAf1
  have KAb := KAm
  clear KAm
  have KAc0 : World.cell? w5 ⟨w1.heap.size, 0, none⟩ = some (.int .u64 p1) := KAb.get 0 rfl
  have KAf0 := Blk.frozen KAb 0
  have KAc1 : World.cell? w5 ⟨w1.heap.size, 1, none⟩ = some (.int .u64 p2) := KAb.get 1 rfl
  have KAf1 := Blk.frozen KAb 1
  have KAn := Blk.lt KAb
  have KBm : Blk w5 (w2.heap.size) 25 #[.int .u64 p1, .int .u64 p2] := Blk.next (by repeat (first | (with_reducible exact KBb) | (refine Blk.new_at ?_; simp only [World.size_alloc]; done) | (with_reducible refine Blk.alloc ?_ _) | (with_reducible refine Blk.drewN ?_ _))) hb5
  clear KBn KBb KBc0 KBf0 KBc1 KBf1
  have KBb := KBm
  clear KBm
  have KBc0 : World.cell? w5 ⟨w2.heap.size, 0, none⟩ = some (.int .u64 p1) := KBb.get 0 rfl
  have KBf0 := Blk.frozen KBb 0
  have KBc1 : World.cell? w5 ⟨w2.heap.size, 1, none⟩ = some (.int .u64 p2) := KBb.get 1 rfl
  have KBf1 := Blk.frozen KBb 1
  have KBn := Blk.lt KBb
  have KCm : Blk w5 (w3.heap.size) 25 #[.int .u64 p4, .int .u64 p5] := Blk.next (by repeat (first | (with_reducible exact KCb) | (refine Blk.new_at ?_; simp only [World.size_alloc]; done) | (with_reducible refine Blk.alloc ?_ _) | (with_reducible refine Blk.drewN ?_ _))) hb5
  clear KCn KCb KCc0 KCf0 KCc1 KCf1
  have KCb := KCm
  clear KCm
  have KCc0 : World.cell? w5 ⟨w3.heap.size, 0, none⟩ = some (.int .u64 p4) := KCb.get 0 rfl
  have KCf0 := Blk.frozen KCb 0
  have KCc1 : World.cell? w5 ⟨w3.heap.size, 1, none⟩ = some (.int .u64 p5) := KCb.get 1 rfl
  have KCf1 := Blk.frozen KCb 1
  have KCn := Blk.lt KCb
  have KDm : Blk w5 (w4.heap.size) 25 #[.int .u64 p4, .int .u64 p5] := Blk.next (by repeat (first | (refine Blk.new_at ?_; simp only [World.size_alloc]; done) | (with_reducible refine Blk.alloc ?_ _) | (with_reducible refine Blk.drewN ?_ _))) hb5
  have KDb := KDm
  clear KDm
  have KDc0 : World.cell? w5 ⟨w4.heap.size, 0, none⟩ = some (.int .u64 p4) := KDb.get 0 rfl
  have KDf0 := Blk.frozen KDb 0
  have KDc1 : World.cell? w5 ⟨w4.heap.size, 1, none⟩ = some (.int .u64 p5) := KDb.get 1 rfl
  have KDf1 := Blk.frozen KDb 1
  have KDn := Blk.lt KDb
  have B5 : Below w.heap.size w w5 := by first | with_reducible exact below_next B4 hb5 | exact below_step B4 (by go_grown) hb5
  clear hb5 B4
  go_wp2_with fail
  with_reducible refine (F6.out _).mono ?_
  rintro e w6 ⟨rfl, hb6⟩
  have K0m : Blk w6 (w.heap.size) 25 #[.int .u64 h1, .int .u64 l1] := Blk.next (by repeat (first | (with_reducible exact K0b) | (refine Blk.new_at ?_; simp only [World.size_alloc]; done) | (with_reducible refine Blk.alloc ?_ _) | (with_reducible refine Blk.drewN ?_ _))) hb6
  clear K0n K0b K0c0 K0f0 K0c1 K0f1
  have K0b := K0m
  clear K0m
  have K0c0 : World.cell? w6 ⟨w.heap.size, 0, none⟩ = some (.int .u64 h1) := K0b.get 0 rfl
  have K0f0 := Blk.frozen K0b 0
  have K0c1 : World.cell? w6 ⟨w.heap.size, 1, none⟩ = some (.int .u64 l1) := K0b.get 1 rfl
  have K0f1 := Blk.frozen K0b 1
  have K0n := Blk.lt K0b
  have K1m : Blk w6 (w.heap.size + 1) 25 #[.int .u64 h2, .int .u64 l2] := Blk.next (by repeat (first | (with_reducible exact K1b) | (refine Blk.new_at ?_; simp only [World.size_alloc]; done) | (with_reducible refine Blk.alloc ?_ _) | (with_reducible refine Blk.drewN ?_ _))) hb6
  clear K1n K1b K1c0 K1f0 K1c1 K1f1
  have K1b := K1m
  clear K1m
  have K1c0 : World.cell? w6 ⟨w.heap.size + 1, 0, none⟩ = some (.int .u64 h2) := K1b.get 0 rfl
  have K1f0 := Blk.frozen K1b 0
  have K1c1 : World.cell? w6 ⟨w.heap.size + 1, 1, none⟩ = some (.int .u64 l2) := K1b.get 1 rfl
  have K1f1 := Blk.frozen K1b 1
  have K1n := Blk.lt K1b
  have KAm : Blk w6 (w1.heap.size) 25 #[.int .u64 p1, .int .u64 p2] := Blk.next (by repeat (first | (with_reducible exact KAb) | (refine Blk.new_at ?_; simp only [World.size_alloc]; done) | (with_reducible refine Blk.alloc ?_ _) | (with_reducible refine Blk.drewN ?_ _))) hb6
  clear KAn KAb KAc0 KAf0 KAc1 KAf1
  have KAb := KAm
  clear KAm
  have KAc0 : World.cell? w6 ⟨w1.heap.size, 0, none⟩ = some (.int .u64 p1) := KAb.get 0 rfl
  have KAf0 := Blk.frozen KAb 0
  have KAc1 : World.cell? w6 ⟨w1.heap.size, 1, none⟩ = some (.int .u64 p2) := KAb.get 1 rfl
  have KAf1 := Blk.frozen KAb 1
  have KAn := Blk.lt KAb
  have KBm : Blk w6 (w2.heap.size) 25 #[.int .u64 p1, .int .u64 p2] := Blk.next (by repeat (first | (with_reducible exact KBb) | (refine Blk.new_at ?_; simp only [World.size_alloc]; done) | (with_reducible refine Blk.alloc ?_ _) | (with_reducible refine Blk.drewN ?_ _))) hb6
  clear KBn KBb KBc0 KBf0 KBc1 KBf1
  have KBb := KBm
  clear KBm
  have KBc0 : World.cell? w6 ⟨w2.heap.size, 0, none⟩ = some (.int .u64 p1) := KBb.get 0 rfl
  have KBf0 := Blk.frozen KBb 0
  have KBc1 : World.cell? w6 ⟨w2.heap.size, 1, none⟩ = some (.int .u64 p2) := KBb.get 1 rfl
  have KBf1 := Blk.frozen KBb 1
  have KBn := Blk.lt KBb
  have KCm : Blk w6 (w3.heap.size) 25 #[.int .u64 p4, .int .u64 p5] := Blk.next (by repeat (first | (with_reducible exact KCb) | (refine Blk.new_at ?_; simp only [World.size_alloc]; done) | (with_reducible refine Blk.alloc ?_ _) | (with_reducible refine Blk.drewN ?_ _))) hb6
  clear KCn KCb KCc0 KCf0 KCc1 KCf1
  have KCb := KCm
  clear KCm
  have KCc0 : World.cell? w6 ⟨w3.heap.size, 0, none⟩ = some (.int .u64 p4) := KCb.get 0 rfl
  have KCf0 := Blk.frozen KCb 0
  have KCc1 : World.cell? w6 ⟨w3.heap.size, 1, none⟩ = some (.int .u64 p5) := KCb.get 1 rfl
  have KCf1 := Blk.frozen KCb 1
  have KCn := Blk.lt KCb
  have KDm : Blk w6 (w4.heap.size) 25 #[.int .u64 p4, .int .u64 p5] := Blk.next (by repeat (first | (with_reducible exact KDb) | (refine Blk.new_at ?_; simp only [World.size_alloc]; done) | (with_reducible refine Blk.alloc ?_ _) | (with_reducible refine Blk.drewN ?_ _))) hb6
  clear KDn KDb KDc0 KDf0 KDc1 KDf1
  have KDb := KDm
  clear KDm
  have KDc0 : World.cell? w6 ⟨w4.heap.size, 0, none⟩ = some (.int .u64 p4) := KDb.get 0 rfl
  have KDf0 := Blk.frozen KDb 0
  have KDc1 : World.cell? w6 ⟨w4.heap.size, 1, none⟩ = some (.int .u64 p5) := KDb.get 1 rfl
  have KDf1 := Blk.frozen KDb 1
  have KDn := Blk.lt KDb
  have B6 : Below w.heap.size w w6 := by first | with_reducible exact below_next B5 hb6 | exact below_step B5 (by go_grown) hb6
  clear hb6 B5
  go_wp2_with fail
  refine wp_region_noPanic ?_
  refine wp_region_held_drew (S := fun w' => (w'.cell? ⟨w.heap.size, 0, none⟩ = some (.int .u64 h1) ∧ w'.cell? ⟨w.heap.size, 1, none⟩ = some (.int .u64 l1) ∧ w'.cell? ⟨w.heap.size + 1, 0, none⟩ = some (.int .u64 h2) ∧ w'.cell? ⟨w.heap.size + 1, 1, none⟩ = some (.int .u64 l2) ∧ w'.cell? ⟨w1.heap.size, 0, none⟩ = some (.int .u64 p1) ∧ w'.cell? ⟨w1.heap.size, 1, none⟩ = some (.int .u64 p2) ∧ w'.cell? ⟨w2.heap.size, 0, none⟩ = some (.int .u64 p1) ∧ w'.cell? ⟨w2.heap.size, 1, none⟩ = some (.int .u64 p2) ∧ w'.cell? ⟨w3.heap.size, 0, none⟩ = some (.int .u64 p4) ∧ w'.cell? ⟨w3.heap.size, 1, none⟩ = some (.int .u64 p5) ∧ w'.cell? ⟨w4.heap.size, 0, none⟩ = some (.int .u64 p4) ∧ w'.cell? ⟨w4.heap.size, 1, none⟩ = some (.int .u64 p5)) ∧ (Blk w' (w.heap.size) 25 #[.int .u64 h1, .int .u64 l1] ∧ Blk w' (w.heap.size + 1) 25 #[.int .u64 h2, .int .u64 l2] ∧ Blk w' (w1.heap.size) 25 #[.int .u64 p1, .int .u64 p2] ∧ Blk w' (w2.heap.size) 25 #[.int .u64 p1, .int .u64 p2] ∧ Blk w' (w3.heap.size) 25 #[.int .u64 p4, .int .u64 p5] ∧ Blk w' (w4.heap.size) 25 #[.int .u64 p4, .int .u64 p5]) ∧ Below w.heap.size w w') (by kernel_rfl) ((fun (h : (Blk _ (w.heap.size) 25 #[.int .u64 h1, .int .u64 l1] ∧ Blk _ (w.heap.size + 1) 25 #[.int .u64 h2, .int .u64 l2] ∧ Blk _ (w1.heap.size) 25 #[.int .u64 p1, .int .u64 p2] ∧ Blk _ (w2.heap.size) 25 #[.int .u64 p1, .int .u64 p2] ∧ Blk _ (w3.heap.size) 25 #[.int .u64 p4, .int .u64 p5] ∧ Blk _ (w4.heap.size) 25 #[.int .u64 p4, .int .u64 p5]) ∧ Below w.heap.size w _) => ⟨⟨h.1.1.get 0 rfl, h.1.1.get 1 rfl, h.1.2.1.get 0 rfl, h.1.2.1.get 1 rfl, h.1.2.2.1.get 0 rfl, h.1.2.2.1.get 1 rfl, h.1.2.2.2.1.get 0 rfl, h.1.2.2.2.1.get 1 rfl, h.1.2.2.2.2.1.get 0 rfl, h.1.2.2.2.2.1.get 1 rfl, h.1.2.2.2.2.2.get 0 rfl, h.1.2.2.2.2.2.get 1 rfl⟩, h.1, h.2⟩) ⟨⟨(by repeat (first | (with_reducible exact K0b) | (refine Blk.new_at ?_; simp only [World.size_alloc]; done) | (with_reducible refine Blk.alloc ?_ _) | (with_reducible refine Blk.drew ?_) | (with_reducible refine Blk.drewN ?_ _))), (by repeat (first | (with_reducible exact K1b) | (refine Blk.new_at ?_; simp only [World.size_alloc]; done) | (with_reducible refine Blk.alloc ?_ _) | (with_reducible refine Blk.drew ?_) | (with_reducible refine Blk.drewN ?_ _))), (by repeat (first | (with_reducible exact KAb) | (refine Blk.new_at ?_; simp only [World.size_alloc]; done) | (with_reducible refine Blk.alloc ?_ _) | (with_reducible refine Blk.drew ?_) | (with_reducible refine Blk.drewN ?_ _))), (by repeat (first | (with_reducible exact KBb) | (refine Blk.new_at ?_; simp only [World.size_alloc]; done) | (with_reducible refine Blk.alloc ?_ _) | (with_reducible refine Blk.drew ?_) | (with_reducible refine Blk.drewN ?_ _))), (by repeat (first | (with_reducible exact KCb) | (refine Blk.new_at ?_; simp only [World.size_alloc]; done) | (with_reducible refine Blk.alloc ?_ _) | (with_reducible refine Blk.drew ?_) | (with_reducible refine Blk.drewN ?_ _))), (by repeat (first | (with_reducible exact KDb) | (refine Blk.new_at ?_; simp only [World.size_alloc]; done) | (with_reducible refine Blk.alloc ?_ _) | (with_reducible refine Blk.drew ?_) | (with_reducible refine Blk.drewN ?_ _)))⟩, (by first | (with_reducible exact below_of_drew B6) | exact below_next B6 (by go_grown))⟩) (fun hH => ?_)
  first | (refine wpAnyH_take (i := 0) (v := undef) rfl ?_ ?_ ?_ (fun _ _ _ h => h) ?_ ?_ ?_; kernel_rfl; kernel_rfl; kernel_rfl; exact Or.inr ⟨by rfl, rfl⟩; exact hH) | (refine wpAnyH_take (i := 0) (v := ?_) rfl ?_ ?_ ?_ (fun _ _ _ h => h) ?_ ?_ ?_; rotate_left; kernel_rfl; kernel_rfl; kernel_rfl; (focus (refine Or.inl ⟨by rfl, ?_⟩; intro w' hSw; (try dsimp only at hSw); go_simp)); exact hH) | (refine wpAnyH_take (i := 0) (v := ?_) rfl ?_ ?_ ?_ (fun _ _ _ h => h) ?_ ?_ ?_; rotate_left; kernel_rfl; kernel_rfl; kernel_rfl; (focus (refine Or.inl ⟨by rfl, ?_⟩; intro w' hSw; (try dsimp only at hSw); go_simp; with_reducible rfl)); exact hH)
  try simp only [Act.put, List.getElem_toArray, List.getElem_cons_succ, List.getElem_cons_zero, List.setIfInBounds_toArray, List.set_cons_zero, List.set_cons_succ]
  first | (refine wpAnyH_take (i := 1) (v := undef) rfl ?_ ?_ ?_ (fun _ _ _ h => h) ?_ ?_ ?_; kernel_rfl; kernel_rfl; kernel_rfl; exact Or.inr ⟨by rfl, rfl⟩; exact hH) | (refine wpAnyH_take (i := 1) (v := ?_) rfl ?_ ?_ ?_ (fun _ _ _ h => h) ?_ ?_ ?_; rotate_left; kernel_rfl; kernel_rfl; kernel_rfl; (focus (refine Or.inl ⟨by rfl, ?_⟩; intro w' hSw; (try dsimp only at hSw); go_simp)); exact hH) | (refine wpAnyH_take (i := 1) (v := ?_) rfl ?_ ?_ ?_ (fun _ _ _ h => h) ?_ ?_ ?_; rotate_left; kernel_rfl; kernel_rfl; kernel_rfl; (focus (refine Or.inl ⟨by rfl, ?_⟩; intro w' hSw; (try dsimp only at hSw); go_simp; with_reducible rfl)); exact hH)
  try simp only [Act.put, List.getElem_toArray, List.getElem_cons_succ, List.getElem_cons_zero, List.setIfInBounds_toArray, List.set_cons_zero, List.set_cons_succ]
  first | (refine wpAnyH_take (i := 2) (v := undef) rfl ?_ ?_ ?_ (fun _ _ _ h => h) ?_ ?_ ?_; kernel_rfl; kernel_rfl; kernel_rfl; exact Or.inr ⟨by rfl, rfl⟩; exact hH) | (refine wpAnyH_take (i := 2) (v := ?_) rfl ?_ ?_ ?_ (fun _ _ _ h => h) ?_ ?_ ?_; rotate_left; kernel_rfl; kernel_rfl; kernel_rfl; (focus (refine Or.inl ⟨by rfl, ?_⟩; intro w' hSw; (try dsimp only at hSw); go_simp)); exact hH) | (refine wpAnyH_take (i := 2) (v := ?_) rfl ?_ ?_ ?_ (fun _ _ _ h => h) ?_ ?_ ?_; rotate_left; kernel_rfl; kernel_rfl; kernel_rfl; (focus (refine Or.inl ⟨by rfl, ?_⟩; intro w' hSw; (try dsimp only at hSw); go_simp; with_reducible rfl)); exact hH)
  try simp only [Act.put, List.getElem_toArray, List.getElem_cons_succ, List.getElem_cons_zero, List.setIfInBounds_toArray, List.set_cons_zero, List.set_cons_succ]
  first | (refine wpAnyH_take (i := 3) (v := undef) rfl ?_ ?_ ?_ (fun _ _ _ h => h) ?_ ?_ ?_; kernel_rfl; kernel_rfl; kernel_rfl; exact Or.inr ⟨by rfl, rfl⟩; exact hH) | (refine wpAnyH_take (i := 3) (v := ?_) rfl ?_ ?_ ?_ (fun _ _ _ h => h) ?_ ?_ ?_; rotate_left; kernel_rfl; kernel_rfl; kernel_rfl; (focus (refine Or.inl ⟨by rfl, ?_⟩; intro w' hSw; (try dsimp only at hSw); go_simp)); exact hH) | (refine wpAnyH_take (i := 3) (v := ?_) rfl ?_ ?_ ?_ (fun _ _ _ h => h) ?_ ?_ ?_; rotate_left; kernel_rfl; kernel_rfl; kernel_rfl; (focus (refine Or.inl ⟨by rfl, ?_⟩; intro w' hSw; (try dsimp only at hSw); go_simp; with_reducible rfl)); exact hH)
  try simp only [Act.put, List.getElem_toArray, List.getElem_cons_succ, List.getElem_cons_zero, List.setIfInBounds_toArray, List.set_cons_zero, List.set_cons_succ]
  first | (refine wpAnyH_take (i := 4) (v := undef) rfl ?_ ?_ ?_ (fun _ _ _ h => h) ?_ ?_ ?_; kernel_rfl; kernel_rfl; kernel_rfl; exact Or.inr ⟨by rfl, rfl⟩; exact hH) | (refine wpAnyH_take (i := 4) (v := ?_) rfl ?_ ?_ ?_ (fun _ _ _ h => h) ?_ ?_ ?_; rotate_left; kernel_rfl; kernel_rfl; kernel_rfl; (focus (refine Or.inl ⟨by rfl, ?_⟩; intro w' hSw; (try dsimp only at hSw); go_simp)); exact hH) | (refine wpAnyH_take (i := 4) (v := ?_) rfl ?_ ?_ ?_ (fun _ _ _ h => h) ?_ ?_ ?_; rotate_left; kernel_rfl; kernel_rfl; kernel_rfl; (focus (refine Or.inl ⟨by rfl, ?_⟩; intro w' hSw; (try dsimp only at hSw); go_simp; with_reducible rfl)); exact hH)
  try simp only [Act.put, List.getElem_toArray, List.getElem_cons_succ, List.getElem_cons_zero, List.setIfInBounds_toArray, List.set_cons_zero, List.set_cons_succ]
  first | (refine wpAnyH_take (i := 5) (v := undef) rfl ?_ ?_ ?_ (fun _ _ _ h => h) ?_ ?_ ?_; kernel_rfl; kernel_rfl; kernel_rfl; exact Or.inr ⟨by rfl, rfl⟩; exact hH) | (refine wpAnyH_take (i := 5) (v := ?_) rfl ?_ ?_ ?_ (fun _ _ _ h => h) ?_ ?_ ?_; rotate_left; kernel_rfl; kernel_rfl; kernel_rfl; (focus (refine Or.inl ⟨by rfl, ?_⟩; intro w' hSw; (try dsimp only at hSw); go_simp)); exact hH) | (refine wpAnyH_take (i := 5) (v := ?_) rfl ?_ ?_ ?_ (fun _ _ _ h => h) ?_ ?_ ?_; rotate_left; kernel_rfl; kernel_rfl; kernel_rfl; (focus (refine Or.inl ⟨by rfl, ?_⟩; intro w' hSw; (try dsimp only at hSw); go_simp; with_reducible rfl)); exact hH)
  try simp only [Act.put, List.getElem_toArray, List.getElem_cons_succ, List.getElem_cons_zero, List.setIfInBounds_toArray, List.set_cons_zero, List.set_cons_succ]
  first | (refine wpAnyH_take (i := 6) (v := undef) rfl ?_ ?_ ?_ (fun _ _ _ h => h) ?_ ?_ ?_; kernel_rfl; kernel_rfl; kernel_rfl; exact Or.inr ⟨by rfl, rfl⟩; exact hH) | (refine wpAnyH_take (i := 6) (v := ?_) rfl ?_ ?_ ?_ (fun _ _ _ h => h) ?_ ?_ ?_; rotate_left; kernel_rfl; kernel_rfl; kernel_rfl; (focus (refine Or.inl ⟨by rfl, ?_⟩; intro w' hSw; (try dsimp only at hSw); go_simp)); exact hH) | (refine wpAnyH_take (i := 6) (v := ?_) rfl ?_ ?_ ?_ (fun _ _ _ h => h) ?_ ?_ ?_; rotate_left; kernel_rfl; kernel_rfl; kernel_rfl; (focus (refine Or.inl ⟨by rfl, ?_⟩; intro w' hSw; (try dsimp only at hSw); go_simp; with_reducible rfl)); exact hH)
  try simp only [Act.put, List.getElem_toArray, List.getElem_cons_succ, List.getElem_cons_zero, List.setIfInBounds_toArray, List.set_cons_zero, List.set_cons_succ]
  first | (refine wpAnyH_take (i := 7) (v := undef) rfl ?_ ?_ ?_ (fun _ _ _ h => h) ?_ ?_ ?_; kernel_rfl; kernel_rfl; kernel_rfl; exact Or.inr ⟨by rfl, rfl⟩; exact hH) | (refine wpAnyH_take (i := 7) (v := ?_) rfl ?_ ?_ ?_ (fun _ _ _ h => h) ?_ ?_ ?_; rotate_left; kernel_rfl; kernel_rfl; kernel_rfl; (focus (refine Or.inl ⟨by rfl, ?_⟩; intro w' hSw; (try dsimp only at hSw); go_simp)); exact hH) | (refine wpAnyH_take (i := 7) (v := ?_) rfl ?_ ?_ ?_ (fun _ _ _ h => h) ?_ ?_ ?_; rotate_left; kernel_rfl; kernel_rfl; kernel_rfl; (focus (refine Or.inl ⟨by rfl, ?_⟩; intro w' hSw; (try dsimp only at hSw); go_simp; with_reducible rfl)); exact hH)
  try simp only [Act.put, List.getElem_toArray, List.getElem_cons_succ, List.getElem_cons_zero, List.setIfInBounds_toArray, List.set_cons_zero, List.set_cons_succ]
  first | (refine wpAnyH_take (i := 8) (v := undef) rfl ?_ ?_ ?_ (fun _ _ _ h => h) ?_ ?_ ?_; kernel_rfl; kernel_rfl; kernel_rfl; exact Or.inr ⟨by rfl, rfl⟩; exact hH) | (refine wpAnyH_take (i := 8) (v := ?_) rfl ?_ ?_ ?_ (fun _ _ _ h => h) ?_ ?_ ?_; rotate_left; kernel_rfl; kernel_rfl; kernel_rfl; (focus (refine Or.inl ⟨by rfl, ?_⟩; intro w' hSw; (try dsimp only at hSw); go_simp)); exact hH) | (refine wpAnyH_take (i := 8) (v := ?_) rfl ?_ ?_ ?_ (fun _ _ _ h => h) ?_ ?_ ?_; rotate_left; kernel_rfl; kernel_rfl; kernel_rfl; (focus (refine Or.inl ⟨by rfl, ?_⟩; intro w' hSw; (try dsimp only at hSw); go_simp; with_reducible rfl)); exact hH)
  try simp only [Act.put, List.getElem_toArray, List.getElem_cons_succ, List.getElem_cons_zero, List.setIfInBounds_toArray, List.set_cons_zero, List.set_cons_succ]
  first | (refine wpAnyH_take (i := 9) (v := undef) rfl ?_ ?_ ?_ (fun _ _ _ h => h) ?_ ?_ ?_; kernel_rfl; kernel_rfl; kernel_rfl; exact Or.inr ⟨by rfl, rfl⟩; exact hH) | (refine wpAnyH_take (i := 9) (v := ?_) rfl ?_ ?_ ?_ (fun _ _ _ h => h) ?_ ?_ ?_; rotate_left; kernel_rfl; kernel_rfl; kernel_rfl; (focus (refine Or.inl ⟨by rfl, ?_⟩; intro w' hSw; (try dsimp only at hSw); go_simp)); exact hH) | (refine wpAnyH_take (i := 9) (v := ?_) rfl ?_ ?_ ?_ (fun _ _ _ h => h) ?_ ?_ ?_; rotate_left; kernel_rfl; kernel_rfl; kernel_rfl; (focus (refine Or.inl ⟨by rfl, ?_⟩; intro w' hSw; (try dsimp only at hSw); go_simp; with_reducible rfl)); exact hH)
  try simp only [Act.put, List.getElem_toArray, List.getElem_cons_succ, List.getElem_cons_zero, List.setIfInBounds_toArray, List.set_cons_zero, List.set_cons_succ]
  first | (refine wpAnyH_take (i := 10) (v := undef) rfl ?_ ?_ ?_ (fun _ _ _ h => h) ?_ ?_ ?_; kernel_rfl; kernel_rfl; kernel_rfl; exact Or.inr ⟨by rfl, rfl⟩; exact hH) | (refine wpAnyH_take (i := 10) (v := ?_) rfl ?_ ?_ ?_ (fun _ _ _ h => h) ?_ ?_ ?_; rotate_left; kernel_rfl; kernel_rfl; kernel_rfl; (focus (refine Or.inl ⟨by rfl, ?_⟩; intro w' hSw; (try dsimp only at hSw); go_simp)); exact hH) | (refine wpAnyH_take (i := 10) (v := ?_) rfl ?_ ?_ ?_ (fun _ _ _ h => h) ?_ ?_ ?_; rotate_left; kernel_rfl; kernel_rfl; kernel_rfl; (focus (refine Or.inl ⟨by rfl, ?_⟩; intro w' hSw; (try dsimp only at hSw); go_simp; with_reducible rfl)); exact hH)
  try simp only [Act.put, List.getElem_toArray, List.getElem_cons_succ, List.getElem_cons_zero, List.setIfInBounds_toArray, List.set_cons_zero, List.set_cons_succ]
  first | (refine wpAnyH_take (i := 11) (v := undef) rfl ?_ ?_ ?_ (fun _ _ _ h => h) ?_ ?_ ?_; kernel_rfl; kernel_rfl; kernel_rfl; exact Or.inr ⟨by rfl, rfl⟩; exact hH) | (refine wpAnyH_take (i := 11) (v := ?_) rfl ?_ ?_ ?_ (fun _ _ _ h => h) ?_ ?_ ?_; rotate_left; kernel_rfl; kernel_rfl; kernel_rfl; (focus (refine Or.inl ⟨by rfl, ?_⟩; intro w' hSw; (try dsimp only at hSw); go_simp)); exact hH) | (refine wpAnyH_take (i := 11) (v := ?_) rfl ?_ ?_ ?_ (fun _ _ _ h => h) ?_ ?_ ?_; rotate_left; kernel_rfl; kernel_rfl; kernel_rfl; (focus (refine Or.inl ⟨by rfl, ?_⟩; intro w' hSw; (try dsimp only at hSw); go_simp; with_reducible rfl)); exact hH)
  try simp only [Act.put, List.getElem_toArray, List.getElem_cons_succ, List.getElem_cons_zero, List.setIfInBounds_toArray, List.set_cons_zero, List.set_cons_succ]
  first | (refine wpAnyH_take (i := 12) (v := undef) rfl ?_ ?_ ?_ (fun _ _ _ h => h) ?_ ?_ ?_; kernel_rfl; kernel_rfl; kernel_rfl; exact Or.inr ⟨by rfl, rfl⟩; exact hH) | (refine wpAnyH_take (i := 12) (v := ?_) rfl ?_ ?_ ?_ (fun _ _ _ h => h) ?_ ?_ ?_; rotate_left; kernel_rfl; kernel_rfl; kernel_rfl; (focus (refine Or.inl ⟨by rfl, ?_⟩; intro w' hSw; (try dsimp only at hSw); go_simp)); exact hH) | (refine wpAnyH_take (i := 12) (v := ?_) rfl ?_ ?_ ?_ (fun _ _ _ h => h) ?_ ?_ ?_; rotate_left; kernel_rfl; kernel_rfl; kernel_rfl; (focus (refine Or.inl ⟨by rfl, ?_⟩; intro w' hSw; (try dsimp only at hSw); go_simp; with_reducible rfl)); exact hH)
  try simp only [Act.put, List.getElem_toArray, List.getElem_cons_succ, List.getElem_cons_zero, List.setIfInBounds_toArray, List.set_cons_zero, List.set_cons_succ]
  first | (refine wpAnyH_take (i := 13) (v := undef) rfl ?_ ?_ ?_ (fun _ _ _ h => h) ?_ ?_ ?_; kernel_rfl; kernel_rfl; kernel_rfl; exact Or.inr ⟨by rfl, rfl⟩; exact hH) | (refine wpAnyH_take (i := 13) (v := ?_) rfl ?_ ?_ ?_ (fun _ _ _ h => h) ?_ ?_ ?_; rotate_left; kernel_rfl; kernel_rfl; kernel_rfl; (focus (refine Or.inl ⟨by rfl, ?_⟩; intro w' hSw; (try dsimp only at hSw); go_simp)); exact hH) | (refine wpAnyH_take (i := 13) (v := ?_) rfl ?_ ?_ ?_ (fun _ _ _ h => h) ?_ ?_ ?_; rotate_left; kernel_rfl; kernel_rfl; kernel_rfl; (focus (refine Or.inl ⟨by rfl, ?_⟩; intro w' hSw; (try dsimp only at hSw); go_simp; with_reducible rfl)); exact hH)
  try simp only [Act.put, List.getElem_toArray, List.getElem_cons_succ, List.getElem_cons_zero, List.setIfInBounds_toArray, List.set_cons_zero, List.set_cons_succ]
  first | (refine wpAnyH_take (i := 14) (v := undef) rfl ?_ ?_ ?_ (fun _ _ _ h => h) ?_ ?_ ?_; kernel_rfl; kernel_rfl; kernel_rfl; exact Or.inr ⟨by rfl, rfl⟩; exact hH) | (refine wpAnyH_take (i := 14) (v := ?_) rfl ?_ ?_ ?_ (fun _ _ _ h => h) ?_ ?_ ?_; rotate_left; kernel_rfl; kernel_rfl; kernel_rfl; (focus (refine Or.inl ⟨by rfl, ?_⟩; intro w' hSw; (try dsimp only at hSw); go_simp)); exact hH) | (refine wpAnyH_take (i := 14) (v := ?_) rfl ?_ ?_ ?_ (fun _ _ _ h => h) ?_ ?_ ?_; rotate_left; kernel_rfl; kernel_rfl; kernel_rfl; (focus (refine Or.inl ⟨by rfl, ?_⟩; intro w' hSw; (try dsimp only at hSw); go_simp; with_reducible rfl)); exact hH)
  try simp only [Act.put, List.getElem_toArray, List.getElem_cons_succ, List.getElem_cons_zero, List.setIfInBounds_toArray, List.set_cons_zero, List.set_cons_succ]
  first | (refine wpAnyH_take (i := 15) (v := undef) rfl ?_ ?_ ?_ (fun _ _ _ h => h) ?_ ?_ ?_; kernel_rfl; kernel_rfl; kernel_rfl; exact Or.inr ⟨by rfl, rfl⟩; exact hH) | (refine wpAnyH_take (i := 15) (v := ?_) rfl ?_ ?_ ?_ (fun _ _ _ h => h) ?_ ?_ ?_; rotate_left; kernel_rfl; kernel_rfl; kernel_rfl; (focus (refine Or.inl ⟨by rfl, ?_⟩; intro w' hSw; (try dsimp only at hSw); go_simp)); exact hH) | (refine wpAnyH_take (i := 15) (v := ?_) rfl ?_ ?_ ?_ (fun _ _ _ h => h) ?_ ?_ ?_; rotate_left; kernel_rfl; kernel_rfl; kernel_rfl; (focus (refine Or.inl ⟨by rfl, ?_⟩; intro w' hSw; (try dsimp only at hSw); go_simp; with_reducible rfl)); exact hH)
  try simp only [Act.put, List.getElem_toArray, List.getElem_cons_succ, List.getElem_cons_zero, List.setIfInBounds_toArray, List.set_cons_zero, List.set_cons_succ]
  first | (refine wpAnyH_take (i := 16) (v := undef) rfl ?_ ?_ ?_ (fun _ _ _ h => h) ?_ ?_ ?_; kernel_rfl; kernel_rfl; kernel_rfl; exact Or.inr ⟨by rfl, rfl⟩; exact hH) | (refine wpAnyH_take (i := 16) (v := ?_) rfl ?_ ?_ ?_ (fun _ _ _ h => h) ?_ ?_ ?_; rotate_left; kernel_rfl; kernel_rfl; kernel_rfl; (focus (refine Or.inl ⟨by rfl, ?_⟩; intro w' hSw; (try dsimp only at hSw); go_simp)); exact hH) | (refine wpAnyH_take (i := 16) (v := ?_) rfl ?_ ?_ ?_ (fun _ _ _ h => h) ?_ ?_ ?_; rotate_left; kernel_rfl; kernel_rfl; kernel_rfl; (focus (refine Or.inl ⟨by rfl, ?_⟩; intro w' hSw; (try dsimp only at hSw); go_simp; with_reducible rfl)); exact hH)
  try simp only [Act.put, List.getElem_toArray, List.getElem_cons_succ, List.getElem_cons_zero, List.setIfInBounds_toArray, List.set_cons_zero, List.set_cons_succ]
  first | (refine wpAnyH_take (i := 17) (v := undef) rfl ?_ ?_ ?_ (fun _ _ _ h => h) ?_ ?_ ?_; kernel_rfl; kernel_rfl; kernel_rfl; exact Or.inr ⟨by rfl, rfl⟩; exact hH) | (refine wpAnyH_take (i := 17) (v := ?_) rfl ?_ ?_ ?_ (fun _ _ _ h => h) ?_ ?_ ?_; rotate_left; kernel_rfl; kernel_rfl; kernel_rfl; (focus (refine Or.inl ⟨by rfl, ?_⟩; intro w' hSw; (try dsimp only at hSw); go_simp)); exact hH) | (refine wpAnyH_take (i := 17) (v := ?_) rfl ?_ ?_ ?_ (fun _ _ _ h => h) ?_ ?_ ?_; rotate_left; kernel_rfl; kernel_rfl; kernel_rfl; (focus (refine Or.inl ⟨by rfl, ?_⟩; intro w' hSw; (try dsimp only at hSw); go_simp; with_reducible rfl)); exact hH)
  try simp only [Act.put, List.getElem_toArray, List.getElem_cons_succ, List.getElem_cons_zero, List.setIfInBounds_toArray, List.set_cons_zero, List.set_cons_succ]
  first | (refine wpAnyH_take (i := 18) (v := undef) rfl ?_ ?_ ?_ (fun _ _ _ h => h) ?_ ?_ ?_; kernel_rfl; kernel_rfl; kernel_rfl; exact Or.inr ⟨by rfl, rfl⟩; exact hH) | (refine wpAnyH_take (i := 18) (v := ?_) rfl ?_ ?_ ?_ (fun _ _ _ h => h) ?_ ?_ ?_; rotate_left; kernel_rfl; kernel_rfl; kernel_rfl; (focus (refine Or.inl ⟨by rfl, ?_⟩; intro w' hSw; (try dsimp only at hSw); go_simp)); exact hH) | (refine wpAnyH_take (i := 18) (v := ?_) rfl ?_ ?_ ?_ (fun _ _ _ h => h) ?_ ?_ ?_; rotate_left; kernel_rfl; kernel_rfl; kernel_rfl; (focus (refine Or.inl ⟨by rfl, ?_⟩; intro w' hSw; (try dsimp only at hSw); go_simp; with_reducible rfl)); exact hH)
  try simp only [Act.put, List.getElem_toArray, List.getElem_cons_succ, List.getElem_cons_zero, List.setIfInBounds_toArray, List.set_cons_zero, List.set_cons_succ]
  first | (refine wpAnyH_take (i := 19) (v := undef) rfl ?_ ?_ ?_ (fun _ _ _ h => h) ?_ ?_ ?_; kernel_rfl; kernel_rfl; kernel_rfl; exact Or.inr ⟨by rfl, rfl⟩; exact hH) | (refine wpAnyH_take (i := 19) (v := ?_) rfl ?_ ?_ ?_ (fun _ _ _ h => h) ?_ ?_ ?_; rotate_left; kernel_rfl; kernel_rfl; kernel_rfl; (focus (refine Or.inl ⟨by rfl, ?_⟩; intro w' hSw; (try dsimp only at hSw); go_simp)); exact hH) | (refine wpAnyH_take (i := 19) (v := ?_) rfl ?_ ?_ ?_ (fun _ _ _ h => h) ?_ ?_ ?_; rotate_left; kernel_rfl; kernel_rfl; kernel_rfl; (focus (refine Or.inl ⟨by rfl, ?_⟩; intro w' hSw; (try dsimp only at hSw); go_simp; with_reducible rfl)); exact hH)
  try simp only [Act.put, List.getElem_toArray, List.getElem_cons_succ, List.getElem_cons_zero, List.setIfInBounds_toArray, List.set_cons_zero, List.set_cons_succ]
  first | (refine wpAnyH_take (i := 20) (v := undef) rfl ?_ ?_ ?_ (fun _ _ _ h => h) ?_ ?_ ?_; kernel_rfl; kernel_rfl; kernel_rfl; exact Or.inr ⟨by rfl, rfl⟩; exact hH) | (refine wpAnyH_take (i := 20) (v := ?_) rfl ?_ ?_ ?_ (fun _ _ _ h => h) ?_ ?_ ?_; rotate_left; kernel_rfl; kernel_rfl; kernel_rfl; (focus (refine Or.inl ⟨by rfl, ?_⟩; intro w' hSw; (try dsimp only at hSw); go_simp)); exact hH) | (refine wpAnyH_take (i := 20) (v := ?_) rfl ?_ ?_ ?_ (fun _ _ _ h => h) ?_ ?_ ?_; rotate_left; kernel_rfl; kernel_rfl; kernel_rfl; (focus (refine Or.inl ⟨by rfl, ?_⟩; intro w' hSw; (try dsimp only at hSw); go_simp; with_reducible rfl)); exact hH)
  try simp only [Act.put, List.getElem_toArray, List.getElem_cons_succ, List.getElem_cons_zero, List.setIfInBounds_toArray, List.set_cons_zero, List.set_cons_succ]
  first | (refine wpAnyH_take (i := 22) (v := undef) rfl ?_ ?_ ?_ (fun _ _ _ h => h) ?_ ?_ ?_; kernel_rfl; kernel_rfl; kernel_rfl; exact Or.inr ⟨by rfl, rfl⟩; exact hH) | (refine wpAnyH_take (i := 22) (v := ?_) rfl ?_ ?_ ?_ (fun _ _ _ h => h) ?_ ?_ ?_; rotate_left; kernel_rfl; kernel_rfl; kernel_rfl; (focus (refine Or.inl ⟨by rfl, ?_⟩; intro w' hSw; (try dsimp only at hSw); go_simp)); exact hH) | (refine wpAnyH_take (i := 22) (v := ?_) rfl ?_ ?_ ?_ (fun _ _ _ h => h) ?_ ?_ ?_; rotate_left; kernel_rfl; kernel_rfl; kernel_rfl; (focus (refine Or.inl ⟨by rfl, ?_⟩; intro w' hSw; (try dsimp only at hSw); go_simp; with_reducible rfl)); exact hH)
  try simp only [Act.put, List.getElem_toArray, List.getElem_cons_succ, List.getElem_cons_zero, List.setIfInBounds_toArray, List.set_cons_zero, List.set_cons_succ]
  first | (refine wpAnyH_take (i := 23) (v := undef) rfl ?_ ?_ ?_ (fun _ _ _ h => h) ?_ ?_ ?_; kernel_rfl; kernel_rfl; kernel_rfl; exact Or.inr ⟨by rfl, rfl⟩; exact hH) | (refine wpAnyH_take (i := 23) (v := ?_) rfl ?_ ?_ ?_ (fun _ _ _ h => h) ?_ ?_ ?_; rotate_left; kernel_rfl; kernel_rfl; kernel_rfl; (focus (refine Or.inl ⟨by rfl, ?_⟩; intro w' hSw; (try dsimp only at hSw); go_simp)); exact hH) | (refine wpAnyH_take (i := 23) (v := ?_) rfl ?_ ?_ ?_ (fun _ _ _ h => h) ?_ ?_ ?_; rotate_left; kernel_rfl; kernel_rfl; kernel_rfl; (focus (refine Or.inl ⟨by rfl, ?_⟩; intro w' hSw; (try dsimp only at hSw); go_simp; with_reducible rfl)); exact hH)
  try simp only [Act.put, List.getElem_toArray, List.getElem_cons_succ, List.getElem_cons_zero, List.setIfInBounds_toArray, List.set_cons_zero, List.set_cons_succ]
  refine wpAnyH_ready (rs := [21]) (by kernel_rfl) (by simp) ?_
  refine AllReadyH.cons rfl (fun K hK => ?_) AllReadyH.nil
  go_simp
  with_reducible refine (F7.out _).mono ?_
  rintro e w7 ⟨rfl, hb7⟩
  try go_wp2_with fail
  refine hK.out _ _ ((fun h => ⟨⟨(Blk.next h.2.1.1 hb7).get 0 rfl, (Blk.next h.2.1.1 hb7).get 1 rfl, (Blk.next h.2.1.2.1 hb7).get 0 rfl, (Blk.next h.2.1.2.1 hb7).get 1 rfl, (Blk.next h.2.1.2.2.1 hb7).get 0 rfl, (Blk.next h.2.1.2.2.1 hb7).get 1 rfl, (Blk.next h.2.1.2.2.2.1 hb7).get 0 rfl, (Blk.next h.2.1.2.2.2.1 hb7).get 1 rfl, (Blk.next h.2.1.2.2.2.2.1 hb7).get 0 rfl, (Blk.next h.2.1.2.2.2.2.1 hb7).get 1 rfl, (Blk.next h.2.1.2.2.2.2.2 hb7).get 0 rfl, (Blk.next h.2.1.2.2.2.2.2 hb7).get 1 rfl⟩, ⟨Blk.next h.2.1.1 hb7, Blk.next h.2.1.2.1 hb7, Blk.next h.2.1.2.2.1 hb7, Blk.next h.2.1.2.2.2.1 hb7, Blk.next h.2.1.2.2.2.2.1 hb7, Blk.next h.2.1.2.2.2.2.2 hb7⟩, below_next h.2.2 hb7⟩) hH) (fun hH7 => ?_)
  clear hK K hH hb7
  have hH := hH7
  clear hH7
  try simp only [Act.put, List.getElem_toArray, List.getElem_cons_succ, List.getElem_cons_zero, List.setIfInBounds_toArray, List.set_cons_zero, List.set_cons_succ]
  refine wpAnyH_ready (rs := [24]) (by kernel_rfl) (by simp) ?_
  refine AllReadyH.cons rfl (fun K hK => ?_) AllReadyH.nil
  go_simp
  with_reducible refine (F8.out _).mono ?_
  rintro e w8 ⟨rfl, hb8⟩
  try go_wp2_with fail
  refine hK.out _ _ ((fun h => ⟨⟨(Blk.next h.2.1.1 hb8).get 0 rfl, (Blk.next h.2.1.1 hb8).get 1 rfl, (Blk.next h.2.1.2.1 hb8).get 0 rfl, (Blk.next h.2.1.2.1 hb8).get 1 rfl, (Blk.next h.2.1.2.2.1 hb8).get 0 rfl, (Blk.next h.2.1.2.2.1 hb8).get 1 rfl, (Blk.next h.2.1.2.2.2.1 hb8).get 0 rfl, (Blk.next h.2.1.2.2.2.1 hb8).get 1 rfl, (Blk.next h.2.1.2.2.2.2.1 hb8).get 0 rfl, (Blk.next h.2.1.2.2.2.2.1 hb8).get 1 rfl, (Blk.next h.2.1.2.2.2.2.2 hb8).get 0 rfl, (Blk.next h.2.1.2.2.2.2.2 hb8).get 1 rfl⟩, ⟨Blk.next h.2.1.1 hb8, Blk.next h.2.1.2.1 hb8, Blk.next h.2.1.2.2.1 hb8, Blk.next h.2.1.2.2.2.1 hb8, Blk.next h.2.1.2.2.2.2.1 hb8, Blk.next h.2.1.2.2.2.2.2 hb8⟩, below_next h.2.2 hb8⟩) hH) (fun hH8 => ?_)
  clear hK K hH hb8
  have hH := hH8
  clear hH8
  try simp only [Act.put, List.getElem_toArray, List.getElem_cons_succ, List.getElem_cons_zero, List.setIfInBounds_toArray, List.set_cons_zero, List.set_cons_succ]
  first | (refine wpAnyH_take (i := 25) (v := undef) rfl ?_ ?_ ?_ (fun _ _ _ h => h) ?_ ?_ ?_; kernel_rfl; kernel_rfl; kernel_rfl; exact Or.inr ⟨by rfl, rfl⟩; exact hH) | (refine wpAnyH_take (i := 25) (v := ?_) rfl ?_ ?_ ?_ (fun _ _ _ h => h) ?_ ?_ ?_; rotate_left; kernel_rfl; kernel_rfl; kernel_rfl; (focus (refine Or.inl ⟨by rfl, ?_⟩; intro w' hSw; (try dsimp only at hSw); go_simp)); exact hH) | (refine wpAnyH_take (i := 25) (v := ?_) rfl ?_ ?_ ?_ (fun _ _ _ h => h) ?_ ?_ ?_; rotate_left; kernel_rfl; kernel_rfl; kernel_rfl; (focus (refine Or.inl ⟨by rfl, ?_⟩; intro w' hSw; (try dsimp only at hSw); go_simp; with_reducible rfl)); exact hH)
  try simp only [Act.put, List.getElem_toArray, List.getElem_cons_succ, List.getElem_cons_zero, List.setIfInBounds_toArray, List.set_cons_zero, List.set_cons_succ]
  first | (refine wpAnyH_take (i := 26) (v := undef) rfl ?_ ?_ ?_ (fun _ _ _ h => h) ?_ ?_ ?_; kernel_rfl; kernel_rfl; kernel_rfl; exact Or.inr ⟨by rfl, rfl⟩; exact hH) | (refine wpAnyH_take (i := 26) (v := ?_) rfl ?_ ?_ ?_ (fun _ _ _ h => h) ?_ ?_ ?_; rotate_left; kernel_rfl; kernel_rfl; kernel_rfl; (focus (refine Or.inl ⟨by rfl, ?_⟩; intro w' hSw; (try dsimp only at hSw); go_simp)); exact hH) | (refine wpAnyH_take (i := 26) (v := ?_) rfl ?_ ?_ ?_ (fun _ _ _ h => h) ?_ ?_ ?_; rotate_left; kernel_rfl; kernel_rfl; kernel_rfl; (focus (refine Or.inl ⟨by rfl, ?_⟩; intro w' hSw; (try dsimp only at hSw); go_simp; with_reducible rfl)); exact hH)
  try simp only [Act.put, List.getElem_toArray, List.getElem_cons_succ, List.getElem_cons_zero, List.setIfInBounds_toArray, List.set_cons_zero, List.set_cons_succ]
  first | (refine wpAnyH_take (i := 27) (v := undef) rfl ?_ ?_ ?_ (fun _ _ _ h => h) ?_ ?_ ?_; kernel_rfl; kernel_rfl; kernel_rfl; exact Or.inr ⟨by rfl, rfl⟩; exact hH) | (refine wpAnyH_take (i := 27) (v := ?_) rfl ?_ ?_ ?_ (fun _ _ _ h => h) ?_ ?_ ?_; rotate_left; kernel_rfl; kernel_rfl; kernel_rfl; (focus (refine Or.inl ⟨by rfl, ?_⟩; intro w' hSw; (try dsimp only at hSw); go_simp)); exact hH) | (refine wpAnyH_take (i := 27) (v := ?_) rfl ?_ ?_ ?_ (fun _ _ _ h => h) ?_ ?_ ?_; rotate_left; kernel_rfl; kernel_rfl; kernel_rfl; (focus (refine Or.inl ⟨by rfl, ?_⟩; intro w' hSw; (try dsimp only at hSw); go_simp; with_reducible rfl)); exact hH)
  try simp only [Act.put, List.getElem_toArray, List.getElem_cons_succ, List.getElem_cons_zero, List.setIfInBounds_toArray, List.set_cons_zero, List.set_cons_succ]
  first | (refine wpAnyH_take (i := 28) (v := undef) rfl ?_ ?_ ?_ (fun _ _ _ h => h) ?_ ?_ ?_; kernel_rfl; kernel_rfl; kernel_rfl; exact Or.inr ⟨by rfl, rfl⟩; exact hH) | (refine wpAnyH_take (i := 28) (v := ?_) rfl ?_ ?_ ?_ (fun _ _ _ h => h) ?_ ?_ ?_; rotate_left; kernel_rfl; kernel_rfl; kernel_rfl; (focus (refine Or.inl ⟨by rfl, ?_⟩; intro w' hSw; (try dsimp only at hSw); go_simp)); exact hH) | (refine wpAnyH_take (i := 28) (v := ?_) rfl ?_ ?_ ?_ (fun _ _ _ h => h) ?_ ?_ ?_; rotate_left; kernel_rfl; kernel_rfl; kernel_rfl; (focus (refine Or.inl ⟨by rfl, ?_⟩; intro w' hSw; (try dsimp only at hSw); go_simp; with_reducible rfl)); exact hH)
  try simp only [Act.put, List.getElem_toArray, List.getElem_cons_succ, List.getElem_cons_zero, List.setIfInBounds_toArray, List.set_cons_zero, List.set_cons_succ]
  first | (refine wpAnyH_take (i := 29) (v := undef) rfl ?_ ?_ ?_ (fun _ _ _ h => h) ?_ ?_ ?_; kernel_rfl; kernel_rfl; kernel_rfl; exact Or.inr ⟨by rfl, rfl⟩; exact hH) | (refine wpAnyH_take (i := 29) (v := ?_) rfl ?_ ?_ ?_ (fun _ _ _ h => h) ?_ ?_ ?_; rotate_left; kernel_rfl; kernel_rfl; kernel_rfl; (focus (refine Or.inl ⟨by rfl, ?_⟩; intro w' hSw; (try dsimp only at hSw); go_simp)); exact hH) | (refine wpAnyH_take (i := 29) (v := ?_) rfl ?_ ?_ ?_ (fun _ _ _ h => h) ?_ ?_ ?_; rotate_left; kernel_rfl; kernel_rfl; kernel_rfl; (focus (refine Or.inl ⟨by rfl, ?_⟩; intro w' hSw; (try dsimp only at hSw); go_simp; with_reducible rfl)); exact hH)
  try simp only [Act.put, List.getElem_toArray, List.getElem_cons_succ, List.getElem_cons_zero, List.setIfInBounds_toArray, List.set_cons_zero, List.set_cons_succ]
  first | (refine wpAnyH_take (i := 30) (v := undef) rfl ?_ ?_ ?_ (fun _ _ _ h => h) ?_ ?_ ?_; kernel_rfl; kernel_rfl; kernel_rfl; exact Or.inr ⟨by rfl, rfl⟩; exact hH) | (refine wpAnyH_take (i := 30) (v := ?_) rfl ?_ ?_ ?_ (fun _ _ _ h => h) ?_ ?_ ?_; rotate_left; kernel_rfl; kernel_rfl; kernel_rfl; (focus (refine Or.inl ⟨by rfl, ?_⟩; intro w' hSw; (try dsimp only at hSw); go_simp)); exact hH) | (refine wpAnyH_take (i := 30) (v := ?_) rfl ?_ ?_ ?_ (fun _ _ _ h => h) ?_ ?_ ?_; rotate_left; kernel_rfl; kernel_rfl; kernel_rfl; (focus (refine Or.inl ⟨by rfl, ?_⟩; intro w' hSw; (try dsimp only at hSw); go_simp; with_reducible rfl)); exact hH)
  try simp only [Act.put, List.getElem_toArray, List.getElem_cons_succ, List.getElem_cons_zero, List.setIfInBounds_toArray, List.set_cons_zero, List.set_cons_succ]
  first | (refine wpAnyH_take (i := 31) (v := undef) rfl ?_ ?_ ?_ (fun _ _ _ h => h) ?_ ?_ ?_; kernel_rfl; kernel_rfl; kernel_rfl; exact Or.inr ⟨by rfl, rfl⟩; exact hH) | (refine wpAnyH_take (i := 31) (v := ?_) rfl ?_ ?_ ?_ (fun _ _ _ h => h) ?_ ?_ ?_; rotate_left; kernel_rfl; kernel_rfl; kernel_rfl; (focus (refine Or.inl ⟨by rfl, ?_⟩; intro w' hSw; (try dsimp only at hSw); go_simp)); exact hH) | (refine wpAnyH_take (i := 31) (v := ?_) rfl ?_ ?_ ?_ (fun _ _ _ h => h) ?_ ?_ ?_; rotate_left; kernel_rfl; kernel_rfl; kernel_rfl; (focus (refine Or.inl ⟨by rfl, ?_⟩; intro w' hSw; (try dsimp only at hSw); go_simp; with_reducible rfl)); exact hH)
  try simp only [Act.put, List.getElem_toArray, List.getElem_cons_succ, List.getElem_cons_zero, List.setIfInBounds_toArray, List.set_cons_zero, List.set_cons_succ]
  first | (refine wpAnyH_take (i := 32) (v := undef) rfl ?_ ?_ ?_ (fun _ _ _ h => h) ?_ ?_ ?_; kernel_rfl; kernel_rfl; kernel_rfl; exact Or.inr ⟨by rfl, rfl⟩; exact hH) | (refine wpAnyH_take (i := 32) (v := ?_) rfl ?_ ?_ ?_ (fun _ _ _ h => h) ?_ ?_ ?_; rotate_left; kernel_rfl; kernel_rfl; kernel_rfl; (focus (refine Or.inl ⟨by rfl, ?_⟩; intro w' hSw; (try dsimp only at hSw); go_simp)); exact hH) | (refine wpAnyH_take (i := 32) (v := ?_) rfl ?_ ?_ ?_ (fun _ _ _ h => h) ?_ ?_ ?_; rotate_left; kernel_rfl; kernel_rfl; kernel_rfl; (focus (refine Or.inl ⟨by rfl, ?_⟩; intro w' hSw; (try dsimp only at hSw); go_simp; with_reducible rfl)); exact hH)
  try simp only [Act.put, List.getElem_toArray, List.getElem_cons_succ, List.getElem_cons_zero, List.setIfInBounds_toArray, List.set_cons_zero, List.set_cons_succ]
  first | (refine wpAnyH_take (i := 33) (v := undef) rfl ?_ ?_ ?_ (fun _ _ _ h => h) ?_ ?_ ?_; kernel_rfl; kernel_rfl; kernel_rfl; exact Or.inr ⟨by rfl, rfl⟩; exact hH) | (refine wpAnyH_take (i := 33) (v := ?_) rfl ?_ ?_ ?_ (fun _ _ _ h => h) ?_ ?_ ?_; rotate_left; kernel_rfl; kernel_rfl; kernel_rfl; (focus (refine Or.inl ⟨by rfl, ?_⟩; intro w' hSw; (try dsimp only at hSw); go_simp)); exact hH) | (refine wpAnyH_take (i := 33) (v := ?_) rfl ?_ ?_ ?_ (fun _ _ _ h => h) ?_ ?_ ?_; rotate_left; kernel_rfl; kernel_rfl; kernel_rfl; (focus (refine Or.inl ⟨by rfl, ?_⟩; intro w' hSw; (try dsimp only at hSw); go_simp; with_reducible rfl)); exact hH)
  try simp only [Act.put, List.getElem_toArray, List.getElem_cons_succ, List.getElem_cons_zero, List.setIfInBounds_toArray, List.set_cons_zero, List.set_cons_succ]
  first | (refine wpAnyH_take (i := 34) (v := undef) rfl ?_ ?_ ?_ (fun _ _ _ h => h) ?_ ?_ ?_; kernel_rfl; kernel_rfl; kernel_rfl; exact Or.inr ⟨by rfl, rfl⟩; exact hH) | (refine wpAnyH_take (i := 34) (v := ?_) rfl ?_ ?_ ?_ (fun _ _ _ h => h) ?_ ?_ ?_; rotate_left; kernel_rfl; kernel_rfl; kernel_rfl; (focus (refine Or.inl ⟨by rfl, ?_⟩; intro w' hSw; (try dsimp only at hSw); go_simp)); exact hH) | (refine wpAnyH_take (i := 34) (v := ?_) rfl ?_ ?_ ?_ (fun _ _ _ h => h) ?_ ?_ ?_; rotate_left; kernel_rfl; kernel_rfl; kernel_rfl; (focus (refine Or.inl ⟨by rfl, ?_⟩; intro w' hSw; (try dsimp only at hSw); go_simp; with_reducible rfl)); exact hH)
  try simp only [Act.put, List.getElem_toArray, List.getElem_cons_succ, List.getElem_cons_zero, List.setIfInBounds_toArray, List.set_cons_zero, List.set_cons_succ]
  first | (refine wpAnyH_take (i := 35) (v := undef) rfl ?_ ?_ ?_ (fun _ _ _ h => h) ?_ ?_ ?_; kernel_rfl; kernel_rfl; kernel_rfl; exact Or.inr ⟨by rfl, rfl⟩; exact hH) | (refine wpAnyH_take (i := 35) (v := ?_) rfl ?_ ?_ ?_ (fun _ _ _ h => h) ?_ ?_ ?_; rotate_left; kernel_rfl; kernel_rfl; kernel_rfl; (focus (refine Or.inl ⟨by rfl, ?_⟩; intro w' hSw; (try dsimp only at hSw); go_simp)); exact hH) | (refine wpAnyH_take (i := 35) (v := ?_) rfl ?_ ?_ ?_ (fun _ _ _ h => h) ?_ ?_ ?_; rotate_left; kernel_rfl; kernel_rfl; kernel_rfl; (focus (refine Or.inl ⟨by rfl, ?_⟩; intro w' hSw; (try dsimp only at hSw); go_simp; with_reducible rfl)); exact hH)
  try simp only [Act.put, List.getElem_toArray, List.getElem_cons_succ, List.getElem_cons_zero, List.setIfInBounds_toArray, List.set_cons_zero, List.set_cons_succ]
  first | (refine wpAnyH_take (i := 36) (v := undef) rfl ?_ ?_ ?_ (fun _ _ _ h => h) ?_ ?_ ?_; kernel_rfl; kernel_rfl; kernel_rfl; exact Or.inr ⟨by rfl, rfl⟩; exact hH) | (refine wpAnyH_take (i := 36) (v := ?_) rfl ?_ ?_ ?_ (fun _ _ _ h => h) ?_ ?_ ?_; rotate_left; kernel_rfl; kernel_rfl; kernel_rfl; (focus (refine Or.inl ⟨by rfl, ?_⟩; intro w' hSw; (try dsimp only at hSw); go_simp)); exact hH) | (refine wpAnyH_take (i := 36) (v := ?_) rfl ?_ ?_ ?_ (fun _ _ _ h => h) ?_ ?_ ?_; rotate_left; kernel_rfl; kernel_rfl; kernel_rfl; (focus (refine Or.inl ⟨by rfl, ?_⟩; intro w' hSw; (try dsimp only at hSw); go_simp; with_reducible rfl)); exact hH)
  try simp only [Act.put, List.getElem_toArray, List.getElem_cons_succ, List.getElem_cons_zero, List.setIfInBounds_toArray, List.set_cons_zero, List.set_cons_succ]
  first | (refine wpAnyH_take (i := 37) (v := undef) rfl ?_ ?_ ?_ (fun _ _ _ h => h) ?_ ?_ ?_; kernel_rfl; kernel_rfl; kernel_rfl; exact Or.inr ⟨by rfl, rfl⟩; exact hH) | (refine wpAnyH_take (i := 37) (v := ?_) rfl ?_ ?_ ?_ (fun _ _ _ h => h) ?_ ?_ ?_; rotate_left; kernel_rfl; kernel_rfl; kernel_rfl; (focus (refine Or.inl ⟨by rfl, ?_⟩; intro w' hSw; (try dsimp only at hSw); go_simp)); exact hH) | (refine wpAnyH_take (i := 37) (v := ?_) rfl ?_ ?_ ?_ (fun _ _ _ h => h) ?_ ?_ ?_; rotate_left; kernel_rfl; kernel_rfl; kernel_rfl; (focus (refine Or.inl ⟨by rfl, ?_⟩; intro w' hSw; (try dsimp only at hSw); go_simp; with_reducible rfl)); exact hH)
  try simp only [Act.put, List.getElem_toArray, List.getElem_cons_succ, List.getElem_cons_zero, List.setIfInBounds_toArray, List.set_cons_zero, List.set_cons_succ]
  first | (refine wpAnyH_take (i := 38) (v := undef) rfl ?_ ?_ ?_ (fun _ _ _ h => h) ?_ ?_ ?_; kernel_rfl; kernel_rfl; kernel_rfl; exact Or.inr ⟨by rfl, rfl⟩; exact hH) | (refine wpAnyH_take (i := 38) (v := ?_) rfl ?_ ?_ ?_ (fun _ _ _ h => h) ?_ ?_ ?_; rotate_left; kernel_rfl; kernel_rfl; kernel_rfl; (focus (refine Or.inl ⟨by rfl, ?_⟩; intro w' hSw; (try dsimp only at hSw); go_simp)); exact hH) | (refine wpAnyH_take (i := 38) (v := ?_) rfl ?_ ?_ ?_ (fun _ _ _ h => h) ?_ ?_ ?_; rotate_left; kernel_rfl; kernel_rfl; kernel_rfl; (focus (refine Or.inl ⟨by rfl, ?_⟩; intro w' hSw; (try dsimp only at hSw); go_simp; with_reducible rfl)); exact hH)
  try simp only [Act.put, List.getElem_toArray, List.getElem_cons_succ, List.getElem_cons_zero, List.setIfInBounds_toArray, List.set_cons_zero, List.set_cons_succ]
  first | (refine wpAnyH_take (i := 39) (v := undef) rfl ?_ ?_ ?_ (fun _ _ _ h => h) ?_ ?_ ?_; kernel_rfl; kernel_rfl; kernel_rfl; exact Or.inr ⟨by rfl, rfl⟩; exact hH) | (refine wpAnyH_take (i := 39) (v := ?_) rfl ?_ ?_ ?_ (fun _ _ _ h => h) ?_ ?_ ?_; rotate_left; kernel_rfl; kernel_rfl; kernel_rfl; (focus (refine Or.inl ⟨by rfl, ?_⟩; intro w' hSw; (try dsimp only at hSw); go_simp)); exact hH) | (refine wpAnyH_take (i := 39) (v := ?_) rfl ?_ ?_ ?_ (fun _ _ _ h => h) ?_ ?_ ?_; rotate_left; kernel_rfl; kernel_rfl; kernel_rfl; (focus (refine Or.inl ⟨by rfl, ?_⟩; intro w' hSw; (try dsimp only at hSw); go_simp; with_reducible rfl)); exact hH)
  try simp only [Act.put, List.getElem_toArray, List.getElem_cons_succ, List.getElem_cons_zero, List.setIfInBounds_toArray, List.set_cons_zero, List.set_cons_succ]
  first | (refine wpAnyH_take (i := 40) (v := undef) rfl ?_ ?_ ?_ (fun _ _ _ h => h) ?_ ?_ ?_; kernel_rfl; kernel_rfl; kernel_rfl; exact Or.inr ⟨by rfl, rfl⟩; exact hH) | (refine wpAnyH_take (i := 40) (v := ?_) rfl ?_ ?_ ?_ (fun _ _ _ h => h) ?_ ?_ ?_; rotate_left; kernel_rfl; kernel_rfl; kernel_rfl; (focus (refine Or.inl ⟨by rfl, ?_⟩; intro w' hSw; (try dsimp only at hSw); go_simp)); exact hH) | (refine wpAnyH_take (i := 40) (v := ?_) rfl ?_ ?_ ?_ (fun _ _ _ h => h) ?_ ?_ ?_; rotate_left; kernel_rfl; kernel_rfl; kernel_rfl; (focus (refine Or.inl ⟨by rfl, ?_⟩; intro w' hSw; (try dsimp only at hSw); go_simp; with_reducible rfl)); exact hH)
  try simp only [Act.put, List.getElem_toArray, List.getElem_cons_succ, List.getElem_cons_zero, List.setIfInBounds_toArray, List.set_cons_zero, List.set_cons_succ]
  first | (refine wpAnyH_take (i := 41) (v := undef) rfl ?_ ?_ ?_ (fun _ _ _ h => h) ?_ ?_ ?_; kernel_rfl; kernel_rfl; kernel_rfl; exact Or.inr ⟨by rfl, rfl⟩; exact hH) | (refine wpAnyH_take (i := 41) (v := ?_) rfl ?_ ?_ ?_ (fun _ _ _ h => h) ?_ ?_ ?_; rotate_left; kernel_rfl; kernel_rfl; kernel_rfl; (focus (refine Or.inl ⟨by rfl, ?_⟩; intro w' hSw; (try dsimp only at hSw); go_simp)); exact hH) | (refine wpAnyH_take (i := 41) (v := ?_) rfl ?_ ?_ ?_ (fun _ _ _ h => h) ?_ ?_ ?_; rotate_left; kernel_rfl; kernel_rfl; kernel_rfl; (focus (refine Or.inl ⟨by rfl, ?_⟩; intro w' hSw; (try dsimp only at hSw); go_simp; with_reducible rfl)); exact hH)
  try simp only [Act.put, List.getElem_toArray, List.getElem_cons_succ, List.getElem_cons_zero, List.setIfInBounds_toArray, List.set_cons_zero, List.set_cons_succ]
  first | (refine wpAnyH_take (i := 42) (v := undef) rfl ?_ ?_ ?_ (fun _ _ _ h => h) ?_ ?_ ?_; kernel_rfl; kernel_rfl; kernel_rfl; exact Or.inr ⟨by rfl, rfl⟩; exact hH) | (refine wpAnyH_take (i := 42) (v := ?_) rfl ?_ ?_ ?_ (fun _ _ _ h => h) ?_ ?_ ?_; rotate_left; kernel_rfl; kernel_rfl; kernel_rfl; (focus (refine Or.inl ⟨by rfl, ?_⟩; intro w' hSw; (try dsimp only at hSw); go_simp)); exact hH) | (refine wpAnyH_take (i := 42) (v := ?_) rfl ?_ ?_ ?_ (fun _ _ _ h => h) ?_ ?_ ?_; rotate_left; kernel_rfl; kernel_rfl; kernel_rfl; (focus (refine Or.inl ⟨by rfl, ?_⟩; intro w' hSw; (try dsimp only at hSw); go_simp; with_reducible rfl)); exact hH)
  try simp only [Act.put, List.getElem_toArray, List.getElem_cons_succ, List.getElem_cons_zero, List.setIfInBounds_toArray, List.set_cons_zero, List.set_cons_succ]
  clear K0n K0b K0c0 K0f0 K0c1 K0f1
  clear K1n K1b K1c0 K1f0 K1c1 K1f1
  clear KAn KAb KAc0 KAf0 KAc1 KAf1
  clear KBn KBb KBc0 KBf0 KBc1 KBf1
  clear KCn KCb KCc0 KCf0 KCc1 KCf1
  clear KDn KDb KDc0 KDf0 KDc1 KDf1
  refine wpAnyH_done (by kernel_rfl) ?_ _
  refine NoPanic.normal ?_
  obtain ⟨-, hB, B8⟩ := hH
  have K0b := hB.1
  have K0c0 := K0b.get 0 rfl
  have K0f0 := Blk.frozen K0b 0
  have K0c1 := K0b.get 1 rfl
  have K0f1 := Blk.frozen K0b 1
  have K0n := Blk.lt K0b
  have K1b := hB.2.1
  have K1c0 := K1b.get 0 rfl
  have K1f0 := Blk.frozen K1b 0
  have K1c1 := K1b.get 1 rfl
  have K1f1 := Blk.frozen K1b 1
  have K1n := Blk.lt K1b
  have KAb := hB.2.2.1
  have KAc0 := KAb.get 0 rfl
  have KAf0 := Blk.frozen KAb 0
  have KAc1 := KAb.get 1 rfl
  have KAf1 := Blk.frozen KAb 1
  have KAn := Blk.lt KAb
  have KBb := hB.2.2.2.1
  have KBc0 := KBb.get 0 rfl
  have KBf0 := Blk.frozen KBb 0
  have KBc1 := KBb.get 1 rfl
  have KBf1 := Blk.frozen KBb 1
  have KBn := Blk.lt KBb
  have KCb := hB.2.2.2.2.1
  have KCc0 := KCb.get 0 rfl
  have KCf0 := Blk.frozen KCb 0
  have KCc1 := KCb.get 1 rfl
  have KCf1 := Blk.frozen KCb 1
  have KCn := Blk.lt KCb
  have KDb := hB.2.2.2.2.2
  have KDc0 := KDb.get 0 rfl
  have KDf0 := Blk.frozen KDb 0
  have KDc1 := KDb.get 1 rfl
  have KDf1 := Blk.frozen KDb 1
  have KDn := Blk.lt KDb
  clear hB
  go_wp2_with fail
  go_ret
  exact ⟨by simp, B8⟩

end Go.Proofs.Ytafhdpldkbhdcaa
