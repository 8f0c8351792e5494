/-
  The walk of the law WideOrder: to compare is an order; products are ordered as what is multiplied.
-/
import Derived.Test.YtafhdpldkbhdcaaProg
import Derived.Test.YtafhdpldkbhdcaaWideAwake
import Derived.Deep.RegionHeld3
namespace Go.Proofs.Ytafhdpldkbhdcaa
set_option linter.unusedVariables false
set_option linter.unusedSimpArgs false
set_option maxRecDepth 100000
open Go.RowKit Go.Shelf

theorem cmpN3 (x y : Int) : (cmpN x y = -1 ∧ x < y) ∨ (cmpN x y = 0 ∧ x = y) ∨ (cmpN x y = 1 ∧ y < x) := by
  unfold cmpN; split <;> (try split) <;> omega
theorem plus_kinds {h1 l1 h2 l2 : Int} (a1 : Word h1) (a2 : Word l1) (a3 : Word h2) (a4 : Word l2) :
    (plusE h1 l1 h2 l2 = 10 ∧ 340282366920938463463374607431768211456 ≤ wv h1 l1 + wv h2 l2 ∧ Word (plusL h1 l1 h2 l2)) ∨
    (plusE h1 l1 h2 l2 = 0 ∧ wv (plusH h1 l1 h2 l2) (plusL h1 l1 h2 l2) = wv h1 l1 + wv h2 l2 ∧ wv h1 l1 + wv h2 l2 < 340282366920938463463374607431768211456 ∧ Word (plusL h1 l1 h2 l2)) := by
  obtain ⟨x1, x2⟩ := a1; obtain ⟨x3, x4⟩ := a2; obtain ⟨x5, x6⟩ := a3; obtain ⟨x7, x8⟩ := a4
  unfold plusE plusH plusL wv
  by_cases h : (h1 + h2) * 18446744073709551616 + l1 + l2 ≥ 340282366920938463463374607431768211456
  · left
    rw [if_pos h, if_pos h]
    exact ⟨rfl, by omega, by decide⟩
  · right
    rw [if_neg h, if_neg h, if_neg h]
    exact ⟨rfl, by omega, by omega, ⟨by omega, by omega⟩⟩
theorem prod_order {a b c m : Int} (hc : 0 ≤ c) (hm : cmpN (a * c) (b * c) = m) : (c = 0 ∧ m = 0) ∨ (0 < c ∧ ((a < b ∧ m = -1) ∨ (a = b ∧ m = 0) ∨ (b < a ∧ m = 1))) := by
  by_cases h0 : c = 0
  · subst h0; left; rw [Int.mul_zero, Int.mul_zero, show cmpN 0 0 = 0 from rfl] at hm; exact ⟨rfl, hm.symm⟩
  · have hp : 0 < c := by omega
    right
    refine ⟨hp, ?_⟩
    rcases Int.lt_trichotomy a b with h | h | h
    · rw [cmpN_lt (Int.mul_lt_mul_of_pos_right h hp)] at hm; exact .inl ⟨h, hm.symm⟩
    · subst h; rw [cmpN_eq] at hm; exact .inr (.inl ⟨rfl, hm.symm⟩)
    · rw [cmpN_gt (Int.mul_lt_mul_of_pos_right h hp)] at hm; exact .inr (.inr ⟨h, hm.symm⟩)

set_option maxHeartbeats 8000000 in
theorem wideOrder_walk (w : World) (h1 : Int) (x1 : (Lit.int .u64 h1).wf = true) (l1 : Int) (y1 : (Lit.int .u64 l1).wf = true) (h2 : Int) (x2 : (Lit.int .u64 h2).wf = true) (l2 : Int) (y2 : (Lit.int .u64 l2).wf = true)
    (h3 : Int) (x3 : (Lit.int .u64 h3).wf = true) (l3 : Int) (y3 : (Lit.int .u64 l3).wf = true) (a : Int) (xa : (Lit.int .u64 a).wf = true) (b : Int) (xb : (Lit.int .u64 b).wf = true) (c : Int) (xc : (Lit.int .u64 c).wf = true) :
    Calls Try.prog 8 #[.agg #[.int .u64 h1, .int .u64 l1], .agg #[.int .u64 h2, .int .u64 l2], .agg #[.int .u64 h3, .int .u64 l3], .int .u64 a, .int .u64 b, .int .u64 c] w fun e w' => e = .returned (.bool true) ∧ Below w.heap.size w w' := by
  have wa := word_of_wf xa
  have wb := word_of_wf xb
  have wc := word_of_wf xc
  have v1 := word_of_wf x1
  have v2 := word_of_wf y1
  have v3 := word_of_wf x2
  have v4 := word_of_wf y2
  have v5 := word_of_wf x3
  have v6 := word_of_wf y3
  clear xa xb xc x1 y1 x2 y2 x3 y3
  have AW := Lib.hid (fun w => awake01 w)
  obtain ⟨k1, ek1⟩ : ∃ k, cmpN (wv h1 l1) (wv h2 l2) = k := ⟨_, rfl⟩
  obtain ⟨k2, ek2⟩ : ∃ k, cmpN (wv h2 l2) (wv h3 l3) = k := ⟨_, rfl⟩
  obtain ⟨k3, ek3⟩ : ∃ k, cmpN (wv h1 l1) (wv h3 l3) = k := ⟨_, rfl⟩
  have ek4 : cmpN (wv h2 l2) (wv h1 l1) = -k1 := by
    rcases cmpN3 (wv h1 l1) (wv h2 l2) with ⟨e, h⟩ | ⟨e, h⟩ | ⟨e, h⟩ <;> rw [e] at ek1 <;> rcases cmpN3 (wv h2 l2) (wv h1 l1) with ⟨e', h'⟩ | ⟨e', h'⟩ | ⟨e', h'⟩ <;> rw [e'] <;> omega
  have C1 := Lib.hid (fun w => cmpw_val h1 l1 h2 l2 k1 w v2 v4 ek1)
  have C2 := Lib.hid (fun w => cmpw_val h2 l2 h3 l3 k2 w v4 v6 ek2)
  have C3 := Lib.hid (fun w => cmpw_val h1 l1 h3 l3 k3 w v2 v6 ek3)
  have C4 := Lib.hid (fun w => cmpw_val h2 l2 h1 l1 (-k1) w v4 v2 ek4)
  -- what the first test asks
  have T1 : (k1 = -1 ∧ ((¬ h1 = h2) ∨ (h1 = h2 ∧ ¬ l1 = l2)) ∧ (1 = k2 ∨ (k2 = -1 ∧ k3 = -1) ∨ (k2 = 0 ∧ k3 = -1))) ∨ (k1 = 0 ∧ h1 = h2 ∧ l1 = l2 ∧ (1 = k2 ∨ (k2 = -1 ∧ k3 = -1) ∨ (k2 = 0 ∧ k3 = 0))) ∨ (k1 = 1 ∧ ((¬ h1 = h2) ∨ (h1 = h2 ∧ ¬ l1 = l2))) := by
    unfold Word at *
    unfold wv at ek1 ek2 ek3
    rcases cmpN3 (h1 * 18446744073709551616 + l1) (h2 * 18446744073709551616 + l2) with ⟨e, h⟩ | ⟨e, h⟩ | ⟨e, h⟩ <;> rw [e] at ek1 <;> rcases cmpN3 (h2 * 18446744073709551616 + l2) (h3 * 18446744073709551616 + l3) with ⟨e', h'⟩ | ⟨e', h'⟩ | ⟨e', h'⟩ <;> rw [e'] at ek2 <;>
      rcases cmpN3 (h1 * 18446744073709551616 + l1) (h3 * 18446744073709551616 + l3) with ⟨e'', h''⟩ | ⟨e'', h''⟩ | ⟨e'', h''⟩ <;> rw [e''] at ek3 <;> omega
  have HT1 := Lib.hid T1
  clear T1
  obtain ⟨pH, qH⟩ : ∃ x, plusH h1 l1 h3 l3 = x := ⟨_, rfl⟩
  obtain ⟨pL, qL⟩ : ∃ x, plusL h1 l1 h3 l3 = x := ⟨_, rfl⟩
  obtain ⟨pE, qE⟩ : ∃ x, plusE h1 l1 h3 l3 = x := ⟨_, rfl⟩
  obtain ⟨rH, sH⟩ : ∃ x, plusH h2 l2 h3 l3 = x := ⟨_, rfl⟩
  obtain ⟨rL, sL⟩ : ∃ x, plusL h2 l2 h3 l3 = x := ⟨_, rfl⟩
  obtain ⟨rE, sE⟩ : ∃ x, plusE h2 l2 h3 l3 = x := ⟨_, rfl⟩
  have P1 := Lib.hid (fun w => wplus_val h1 l1 h3 l3 pH pL pE w v1 v2 v5 v6 qH qL qE)
  have P2 := Lib.hid (fun w => wplus_val h2 l2 h3 l3 rH rL rE w v3 v4 v5 v6 sH sL sE)
  have PK1 := plus_kinds v1 v2 v5 v6
  have PK2 := plus_kinds v3 v4 v5 v6
  rw [qH, qL, qE] at PK1
  rw [sH, sL, sE] at PK2
  have T2 : (pE = 0 ∧ rE = 0 ∧ cmpN (wv pH pL) (wv rH rL) = k1 ∧ Word pL ∧ Word rL) ∨ (pE = 10 ∧ rE = 0 ∧ k1 = 1) ∨ (pE = 0 ∧ rE = 10) ∨ (pE = 10 ∧ rE = 10) := by
    rcases PK1 with ⟨e1, f1, g1⟩ | ⟨e1, f1, f2, g1⟩ <;> rcases PK2 with ⟨e2, f3, g2⟩ | ⟨e2, f3, f4, g2⟩
    · exact .inr (.inr (.inr ⟨e1, e2⟩))
    · refine .inr (.inl ⟨e1, e2, ?_⟩)
      rw [← ek1, cmpN_gt (by omega)]
    · exact .inr (.inr (.inl ⟨e1, e2⟩))
    · refine .inl ⟨e1, e2, ?_, g1, g2⟩
      rw [f1, f3, ← ek1]
      unfold cmpN
      split <;> split <;> (try split) <;> (try split) <;> omega
  have HT2 := Lib.hid T2
  clear T2 PK1 PK2 qH qL qE sH sL sE
  obtain ⟨dH, tH⟩ : ∃ x, lessH h1 l1 h2 l2 = x := ⟨_, rfl⟩
  obtain ⟨dL, tL⟩ : ∃ x, lessL h1 l1 h2 l2 = x := ⟨_, rfl⟩
  obtain ⟨dE, tE⟩ : ∃ x, lessE h1 l1 h2 l2 = x := ⟨_, rfl⟩
  have D1 := Lib.hid (fun w => wminus_val h1 l1 h2 l2 dH dL dE w v1 v2 v3 v4 tH tL tE)
  have T3 : (k1 = -1 ∧ dE = 10) ∨ (k1 = 0 ∧ dE = 0) ∨ (k1 = 1 ∧ dE = 0) := by
    rw [← tE, ← ek1]
    unfold lessE cmpN wv
    split <;> (try split) <;> (try split) <;> omega
  have HT3 := Lib.hid T3
  clear T3 tH tL tE
  obtain ⟨hA, eA⟩ : ∃ x, a * c / 18446744073709551616 = x := ⟨_, rfl⟩
  obtain ⟨lA, fA⟩ : ∃ x, a * c % 18446744073709551616 = x := ⟨_, rfl⟩
  obtain ⟨hB, eB⟩ : ∃ x, b * c / 18446744073709551616 = x := ⟨_, rfl⟩
  obtain ⟨lB, fB⟩ : ∃ x, b * c % 18446744073709551616 = x := ⟨_, rfl⟩
  have pA := prod_words wa wc
  have pB := prod_words wb wc
  rw [eA, fA] at pA
  rw [eB, fB] at pB
  have M1 := Lib.hid (fun w => mul_hl a c hA lA w wa wc eA fA)
  have M2 := Lib.hid (fun w => mul_hl b c hB lB w wb wc eB fB)
  obtain ⟨m, em⟩ : ∃ m, cmpN (a * c) (b * c) = m := ⟨_, rfl⟩
  have C6 := Lib.hid (fun w => cmpw_val hA lA hB lB m w pA.2.1 pB.2.1 (by rw [pA.2.2.1, pB.2.2.1]; exact em))
  have HT4 := Lib.hid (prod_order wc.1 em)
  clear eA fA eB fB pA pB em ek1 ek2 ek3 ek4 v1 v2 v3 v4 v5 v6 wa wb wc
  go_enter Try.func8, Try.ntmps8
  go_wp2_with fail
  with_reducible refine (AW.out _).mono ?_
  rintro e w1 ⟨rfl, hb1⟩
  have K0m : Blk w1 (w.heap.size) 25 #[.int .u64 h1, .int .u64 l1] := Blk.next (by repeat (first | (refine Blk.new_at ?_; simp only [World.size_alloc]; done) | (with_reducible refine Blk.alloc ?_ _) | (with_reducible refine Blk.drewN ?_ _))) hb1
  have K0b := K0m
  clear K0m
  have K0c0 : World.cell? w1 ⟨w.heap.size, 0, none⟩ = some (.int .u64 h1) := K0b.get 0 rfl
  have K0f0 := Blk.frozen K0b 0
  have K0c1 : World.cell? w1 ⟨w.heap.size, 1, none⟩ = some (.int .u64 l1) := K0b.get 1 rfl
  have K0f1 := Blk.frozen K0b 1
  have K0n := Blk.lt K0b
  have K1m : Blk w1 (w.heap.size + 1) 25 #[.int .u64 h2, .int .u64 l2] := Blk.next (by repeat (first | (refine Blk.new_at ?_; simp only [World.size_alloc]; done) | (with_reducible refine Blk.alloc ?_ _) | (with_reducible refine Blk.drewN ?_ _))) hb1
  have K1b := K1m
  clear K1m
  have K1c0 : World.cell? w1 ⟨w.heap.size + 1, 0, none⟩ = some (.int .u64 h2) := K1b.get 0 rfl
  have K1f0 := Blk.frozen K1b 0
  have K1c1 : World.cell? w1 ⟨w.heap.size + 1, 1, none⟩ = some (.int .u64 l2) := K1b.get 1 rfl
  have K1f1 := Blk.frozen K1b 1
  have K1n := Blk.lt K1b
  have K2m : Blk w1 (w.heap.size + 2) 25 #[.int .u64 h3, .int .u64 l3] := Blk.next (by repeat (first | (refine Blk.new_at ?_; simp only [World.size_alloc]; done) | (with_reducible refine Blk.alloc ?_ _) | (with_reducible refine Blk.drewN ?_ _))) hb1
  have K2b := K2m
  clear K2m
  have K2c0 : World.cell? w1 ⟨w.heap.size + 2, 0, none⟩ = some (.int .u64 h3) := K2b.get 0 rfl
  have K2f0 := Blk.frozen K2b 0
  have K2c1 : World.cell? w1 ⟨w.heap.size + 2, 1, none⟩ = some (.int .u64 l3) := K2b.get 1 rfl
  have K2f1 := Blk.frozen K2b 1
  have K2n := Blk.lt K2b
  have B1 : Below w.heap.size w w1 := by first | with_reducible exact hb1 | exact Below.trans (by go_grown) (hb1.mono (by simp only [World.size_alloc]; omega))
  clear hb1
  go_upto_region 3 with (fail)
  have S5 : ∀ w' : World, Below w1.heap.size w1 w' → (w'.cell? ⟨w.heap.size, 0, none⟩ = some (.int .u64 h1) ∧ w'.cell? ⟨w.heap.size, 1, none⟩ = some (.int .u64 l1) ∧ w'.cell? ⟨w.heap.size + 1, 0, none⟩ = some (.int .u64 h2) ∧ w'.cell? ⟨w.heap.size + 1, 1, none⟩ = some (.int .u64 l2) ∧ w'.cell? ⟨w.heap.size + 2, 0, none⟩ = some (.int .u64 h3) ∧ w'.cell? ⟨w.heap.size + 2, 1, none⟩ = some (.int .u64 l3)) ∧ Below w1.heap.size w1 w' := fun w' hb => ⟨⟨(hb.cell (p := ⟨w.heap.size, 0, none⟩) K0n).trans K0c0, (hb.cell (p := ⟨w.heap.size, 1, none⟩) K0n).trans K0c1, (hb.cell (p := ⟨w.heap.size + 1, 0, none⟩) K1n).trans K1c0, (hb.cell (p := ⟨w.heap.size + 1, 1, none⟩) K1n).trans K1c1, (hb.cell (p := ⟨w.heap.size + 2, 0, none⟩) K2n).trans K2c0, (hb.cell (p := ⟨w.heap.size + 2, 1, none⟩) K2n).trans K2c1⟩, hb⟩
  have S6 := Lib.hid S5
  clear S5
  go_region_held3 (fun w' => (w'.cell? ⟨w.heap.size, 0, none⟩ = some (.int .u64 h1) ∧ w'.cell? ⟨w.heap.size, 1, none⟩ = some (.int .u64 l1) ∧ w'.cell? ⟨w.heap.size + 1, 0, none⟩ = some (.int .u64 h2) ∧ w'.cell? ⟨w.heap.size + 1, 1, none⟩ = some (.int .u64 l2) ∧ w'.cell? ⟨w.heap.size + 2, 0, none⟩ = some (.int .u64 h3) ∧ w'.cell? ⟨w.heap.size + 2, 1, none⟩ = some (.int .u64 l3)) ∧ Below w1.heap.size w1 w')
    (first | (exact S6.out _ (Below.refl _ _)) | (exact S6.out _ (below_of_drew (Below.refl _ _))) | (exact S6.out _ hS4) | (exact S6.out _ hS3) | (exact S6.out _ hS2))
    (first | ((with_reducible refine (C1.out _).mono ?_); rintro e w2 ⟨rfl, hb2⟩; have hS2 : Below w1.heap.size w1 w2 := below_next (below_of_drew (Below.refl _ _)) hb2) | ((with_reducible refine (C2.out _).mono ?_); rintro e w3 ⟨rfl, hb3⟩; have hS3 : Below w1.heap.size w1 w3 := below_next hS2 hb3) | ((with_reducible refine (C3.out _).mono ?_); rintro e w4 ⟨rfl, hb4⟩; have hS4 : Below w1.heap.size w1 w4 := below_next hS3 hb4))
  have B4 := below_next B1 hS4
  have G0 := Blk.next K0b hS4
  have G1 := Blk.next K1b hS4
  have G2 := Blk.next K2b hS4
  clear K0b K0c0 K0c1 K0f0 K0f1 K0n K1b K1c0 K1c1 K1f0 K1f1 K1n K2b K2c0 K2c1 K2f0 K2f1 K2n hS2 hS3 hS4 B1 S6
  have K0b : Blk w4 (w.heap.size) 25 #[.int .u64 h1, .int .u64 l1] := G0
  have K0c0 : World.cell? w4 ⟨w.heap.size, 0, none⟩ = some (.int .u64 h1) := K0b.get 0 rfl
  have K0f0 := Blk.frozen K0b 0
  have K0c1 : World.cell? w4 ⟨w.heap.size, 1, none⟩ = some (.int .u64 l1) := K0b.get 1 rfl
  have K0f1 := Blk.frozen K0b 1
  have K0n := Blk.lt K0b
  have K1b : Blk w4 (w.heap.size + 1) 25 #[.int .u64 h2, .int .u64 l2] := G1
  have K1c0 : World.cell? w4 ⟨w.heap.size + 1, 0, none⟩ = some (.int .u64 h2) := K1b.get 0 rfl
  have K1f0 := Blk.frozen K1b 0
  have K1c1 : World.cell? w4 ⟨w.heap.size + 1, 1, none⟩ = some (.int .u64 l2) := K1b.get 1 rfl
  have K1f1 := Blk.frozen K1b 1
  have K1n := Blk.lt K1b
  have K2b : Blk w4 (w.heap.size + 2) 25 #[.int .u64 h3, .int .u64 l3] := G2
  have K2c0 : World.cell? w4 ⟨w.heap.size + 2, 0, none⟩ = some (.int .u64 h3) := K2b.get 0 rfl
  have K2f0 := Blk.frozen K2b 0
  have K2c1 : World.cell? w4 ⟨w.heap.size + 2, 1, none⟩ = some (.int .u64 l3) := K2b.get 1 rfl
  have K2f1 := Blk.frozen K2b 1
  have K2n := Blk.lt K2b
  clear G0 G1 G2
  go_upto_region 4 with (fail)
  go_cut [67] (fun tv wc => tv = .bool false ∧ Below w4.heap.size w4 wc)
  case first =>
    rcases HT1.out with ⟨rfl, (n1 | ⟨rfl, n1⟩), (rfl | ⟨rfl, rfl⟩ | ⟨rfl, rfl⟩)⟩ | ⟨rfl, rfl, rfl, (rfl | ⟨rfl, rfl⟩ | ⟨rfl, rfl⟩)⟩ | ⟨rfl, (n1 | ⟨rfl, n1⟩)⟩
    all_goals clear HT1 HT2 HT3 HT4
    all_goals (try have nb := beq_eq_false_iff_ne.2 n1)
    all_goals go_wp2_with fail
    all_goals (with_reducible refine (C4.out _).mono ?_)
    all_goals (rintro e w5 ⟨rfl, hb5⟩)
    all_goals go_wp2_with fail
    all_goals go_meet
    all_goals exact ⟨rfl, hb5⟩
  case rest =>
    obtain ⟨rfl, hbc⟩ := hcut
    obtain ⟨w5, rfl⟩ : ∃ x, x = wc := ⟨_, rfl⟩
    have B5 := below_next B4 hbc
    have G0 := Blk.next K0b hbc
    have G1 := Blk.next K1b hbc
    have G2 := Blk.next K2b hbc
    clear K0b K0c0 K0c1 K0f0 K0f1 K0n K1b K1c0 K1c1 K1f0 K1f1 K1n K2b K2c0 K2c1 K2f0 K2f1 K2n hbc B4 HT1
    have K0b : Blk w5 (w.heap.size) 25 #[.int .u64 h1, .int .u64 l1] := G0
    have K0c0 : World.cell? w5 ⟨w.heap.size, 0, none⟩ = some (.int .u64 h1) := K0b.get 0 rfl
    have K0f0 := Blk.frozen K0b 0
    have K0c1 : World.cell? w5 ⟨w.heap.size, 1, none⟩ = some (.int .u64 l1) := K0b.get 1 rfl
    have K0f1 := Blk.frozen K0b 1
    have K0n := Blk.lt K0b
    have K1b : Blk w5 (w.heap.size + 1) 25 #[.int .u64 h2, .int .u64 l2] := G1
    have K1c0 : World.cell? w5 ⟨w.heap.size + 1, 0, none⟩ = some (.int .u64 h2) := K1b.get 0 rfl
    have K1f0 := Blk.frozen K1b 0
    have K1c1 : World.cell? w5 ⟨w.heap.size + 1, 1, none⟩ = some (.int .u64 l2) := K1b.get 1 rfl
    have K1f1 := Blk.frozen K1b 1
    have K1n := Blk.lt K1b
    have K2b : Blk w5 (w.heap.size + 2) 25 #[.int .u64 h3, .int .u64 l3] := G2
    have K2c0 : World.cell? w5 ⟨w.heap.size + 2, 0, none⟩ = some (.int .u64 h3) := K2b.get 0 rfl
    have K2f0 := Blk.frozen K2b 0
    have K2c1 : World.cell? w5 ⟨w.heap.size + 2, 1, none⟩ = some (.int .u64 l3) := K2b.get 1 rfl
    have K2f1 := Blk.frozen K2b 1
    have K2n := Blk.lt K2b
    clear G0 G1 G2
    go_wp2_with fail
    with_reducible refine (P1.out _).mono ?_
    rintro e w6 ⟨rfl, hb6⟩
    have K0m : Blk w6 (w.heap.size) 25 #[.int .u64 h1, .int .u64 l1] := Blk.next (by repeat (first | (with_reducible exact K0b) | (refine Blk.new_at ?_; simp only [World.size_alloc]; done) | (with_reducible refine Blk.alloc ?_ _) | (with_reducible refine Blk.drewN ?_ _))) hb6
    clear K0n K0b K0c0 K0f0 K0c1 K0f1
    have K0b := K0m
    clear K0m
    have K0c0 : World.cell? w6 ⟨w.heap.size, 0, none⟩ = some (.int .u64 h1) := K0b.get 0 rfl
    have K0f0 := Blk.frozen K0b 0
    have K0c1 : World.cell? w6 ⟨w.heap.size, 1, none⟩ = some (.int .u64 l1) := K0b.get 1 rfl
    have K0f1 := Blk.frozen K0b 1
    have K0n := Blk.lt K0b
    have K1m : Blk w6 (w.heap.size + 1) 25 #[.int .u64 h2, .int .u64 l2] := Blk.next (by repeat (first | (with_reducible exact K1b) | (refine Blk.new_at ?_; simp only [World.size_alloc]; done) | (with_reducible refine Blk.alloc ?_ _) | (with_reducible refine Blk.drewN ?_ _))) hb6
    clear K1n K1b K1c0 K1f0 K1c1 K1f1
    have K1b := K1m
    clear K1m
    have K1c0 : World.cell? w6 ⟨w.heap.size + 1, 0, none⟩ = some (.int .u64 h2) := K1b.get 0 rfl
    have K1f0 := Blk.frozen K1b 0
    have K1c1 : World.cell? w6 ⟨w.heap.size + 1, 1, none⟩ = some (.int .u64 l2) := K1b.get 1 rfl
    have K1f1 := Blk.frozen K1b 1
    have K1n := Blk.lt K1b
    have K2m : Blk w6 (w.heap.size + 2) 25 #[.int .u64 h3, .int .u64 l3] := Blk.next (by repeat (first | (with_reducible exact K2b) | (refine Blk.new_at ?_; simp only [World.size_alloc]; done) | (with_reducible refine Blk.alloc ?_ _) | (with_reducible refine Blk.drewN ?_ _))) hb6
    clear K2n K2b K2c0 K2f0 K2c1 K2f1
    have K2b := K2m
    clear K2m
    have K2c0 : World.cell? w6 ⟨w.heap.size + 2, 0, none⟩ = some (.int .u64 h3) := K2b.get 0 rfl
    have K2f0 := Blk.frozen K2b 0
    have K2c1 : World.cell? w6 ⟨w.heap.size + 2, 1, none⟩ = some (.int .u64 l3) := K2b.get 1 rfl
    have K2f1 := Blk.frozen K2b 1
    have K2n := Blk.lt K2b
    have B6 : Below w.heap.size w w6 := by first | with_reducible exact below_next B5 hb6 | exact below_step B5 (by go_grown) hb6
    clear hb6 B5
    go_wp2_with fail
    with_reducible refine (P2.out _).mono ?_
    rintro e w7 ⟨rfl, hb7⟩
    have K0m : Blk w7 (w.heap.size) 25 #[.int .u64 h1, .int .u64 l1] := Blk.next (by repeat (first | (with_reducible exact K0b) | (refine Blk.new_at ?_; simp only [World.size_alloc]; done) | (with_reducible refine Blk.alloc ?_ _) | (with_reducible refine Blk.drewN ?_ _))) hb7
    clear K0n K0b K0c0 K0f0 K0c1 K0f1
    have K0b := K0m
    clear K0m
    have K0c0 : World.cell? w7 ⟨w.heap.size, 0, none⟩ = some (.int .u64 h1) := K0b.get 0 rfl
    have K0f0 := Blk.frozen K0b 0
    have K0c1 : World.cell? w7 ⟨w.heap.size, 1, none⟩ = some (.int .u64 l1) := K0b.get 1 rfl
    have K0f1 := Blk.frozen K0b 1
    have K0n := Blk.lt K0b
    have K1m : Blk w7 (w.heap.size + 1) 25 #[.int .u64 h2, .int .u64 l2] := Blk.next (by repeat (first | (with_reducible exact K1b) | (refine Blk.new_at ?_; simp only [World.size_alloc]; done) | (with_reducible refine Blk.alloc ?_ _) | (with_reducible refine Blk.drewN ?_ _))) hb7
    clear K1n K1b K1c0 K1f0 K1c1 K1f1
    have K1b := K1m
    clear K1m
    have K1c0 : World.cell? w7 ⟨w.heap.size + 1, 0, none⟩ = some (.int .u64 h2) := K1b.get 0 rfl
    have K1f0 := Blk.frozen K1b 0
    have K1c1 : World.cell? w7 ⟨w.heap.size + 1, 1, none⟩ = some (.int .u64 l2) := K1b.get 1 rfl
    have K1f1 := Blk.frozen K1b 1
    have K1n := Blk.lt K1b
    have K2m : Blk w7 (w.heap.size + 2) 25 #[.int .u64 h3, .int .u64 l3] := Blk.next (by repeat (first | (with_reducible exact K2b) | (refine Blk.new_at ?_; simp only [World.size_alloc]; done) | (with_reducible refine Blk.alloc ?_ _) | (with_reducible refine Blk.drewN ?_ _))) hb7
    clear K2n K2b K2c0 K2f0 K2c1 K2f1
    have K2b := K2m
    clear K2m
    have K2c0 : World.cell? w7 ⟨w.heap.size + 2, 0, none⟩ = some (.int .u64 h3) := K2b.get 0 rfl
    have K2f0 := Blk.frozen K2b 0
    have K2c1 : World.cell? w7 ⟨w.heap.size + 2, 1, none⟩ = some (.int .u64 l3) := K2b.get 1 rfl
    have K2f1 := Blk.frozen K2b 1
    have K2n := Blk.lt K2b
    have KPm : Blk w7 (w6.heap.size) 25 #[.int .u64 pH, .int .u64 pL] := Blk.next (by repeat (first | (refine Blk.new_at ?_; simp only [World.size_alloc]; done) | (with_reducible refine Blk.alloc ?_ _) | (with_reducible refine Blk.drewN ?_ _))) hb7
    have KPb := KPm
    clear KPm
    have KPc0 : World.cell? w7 ⟨w6.heap.size, 0, none⟩ = some (.int .u64 pH) := KPb.get 0 rfl
    have KPf0 := Blk.frozen KPb 0
    have KPc1 : World.cell? w7 ⟨w6.heap.size, 1, none⟩ = some (.int .u64 pL) := KPb.get 1 rfl
    have KPf1 := Blk.frozen KPb 1
    have KPn := Blk.lt KPb
    have B7 : Below w.heap.size w w7 := by first | with_reducible exact below_next B6 hb7 | exact below_step B6 (by go_grown) hb7
    clear hb7 B6
    go_upto_region 8 with (fail)
    have G0 := Blk.alloc K0b (.cells #[.int .u64 rH, .int .u64 rL] 25)
    have G1 := Blk.alloc K1b (.cells #[.int .u64 rH, .int .u64 rL] 25)
    have GP := Blk.alloc KPb (.cells #[.int .u64 rH, .int .u64 rL] 25)
    have GQ := Blk.new w7 25 #[.int .u64 rH, .int .u64 rL]
    have B8 := B7.alloc B7.size (.cells #[.int .u64 rH, .int .u64 rL] 25)
    obtain ⟨w8, hw8⟩ : ∃ W, w7.alloc (.cells #[.int .u64 rH, .int .u64 rL] 25) = W := ⟨_, rfl⟩
    rw [hw8] at G0 G1 GP GQ B8
    rw [hw8]
    clear hw8 K0b K0c0 K0c1 K0f0 K0f1 K0n K1b K1c0 K1c1 K1f0 K1f1 K1n K2b K2c0 K2c1 K2f0 K2f1 K2n KPb KPc0 KPc1 KPf0 KPf1 KPn B7
    have KPb : Blk w8 (w6.heap.size) 25 #[.int .u64 pH, .int .u64 pL] := GP
    have KPc0 : World.cell? w8 ⟨w6.heap.size, 0, none⟩ = some (.int .u64 pH) := KPb.get 0 rfl
    have KPf0 := Blk.frozen KPb 0
    have KPc1 : World.cell? w8 ⟨w6.heap.size, 1, none⟩ = some (.int .u64 pL) := KPb.get 1 rfl
    have KPf1 := Blk.frozen KPb 1
    have KPn := Blk.lt KPb
    have KQb : Blk w8 (w7.heap.size) 25 #[.int .u64 rH, .int .u64 rL] := GQ
    have KQc0 : World.cell? w8 ⟨w7.heap.size, 0, none⟩ = some (.int .u64 rH) := KQb.get 0 rfl
    have KQf0 := Blk.frozen KQb 0
    have KQc1 : World.cell? w8 ⟨w7.heap.size, 1, none⟩ = some (.int .u64 rL) := KQb.get 1 rfl
    have KQf1 := Blk.frozen KQb 1
    have KQn := Blk.lt KQb
    go_cut [104] (fun tv wc => tv = .bool false ∧ Below w8.heap.size w8 wc)
    case first =>
      rcases HT2.out with ⟨rfl, rfl, e5, g5, g6⟩ | ⟨rfl, rfl, rfl⟩ | ⟨rfl, rfl⟩ | ⟨rfl, rfl⟩
      · have C5 := Lib.hid (fun w => cmpw_val pH pL rH rL k1 w g5 g6 e5)
        clear HT2 HT3 HT4 e5
        go_wp2_with fail
        with_reducible refine (C5.out _).mono ?_
        rintro e w9 ⟨rfl, hb9⟩
        go_wp2_with fail
        go_meet
        exact ⟨by simp, hb9⟩
      all_goals clear HT2 HT3 HT4
      all_goals go_wp2_with fail
      all_goals go_meet
      all_goals exact ⟨by simp, Below.refl _ _⟩
    case rest =>
      obtain ⟨rfl, hbc⟩ := hcut
      obtain ⟨w9, rfl⟩ : ∃ x, x = wc := ⟨_, rfl⟩
      have B9 := below_next B8 hbc
      have H0 := Blk.next G0 hbc
      have H1 := Blk.next G1 hbc
      clear KPb KPc0 KPc1 KPf0 KPf1 KPn KQb KQc0 KQc1 KQf0 KQf1 KQn hbc B8 G0 G1 HT2 GP GQ
      have K0b : Blk w9 (w.heap.size) 25 #[.int .u64 h1, .int .u64 l1] := H0
      have K0c0 : World.cell? w9 ⟨w.heap.size, 0, none⟩ = some (.int .u64 h1) := K0b.get 0 rfl
      have K0f0 := Blk.frozen K0b 0
      have K0c1 : World.cell? w9 ⟨w.heap.size, 1, none⟩ = some (.int .u64 l1) := K0b.get 1 rfl
      have K0f1 := Blk.frozen K0b 1
      have K0n := Blk.lt K0b
      have K1b : Blk w9 (w.heap.size + 1) 25 #[.int .u64 h2, .int .u64 l2] := H1
      have K1c0 : World.cell? w9 ⟨w.heap.size + 1, 0, none⟩ = some (.int .u64 h2) := K1b.get 0 rfl
      have K1f0 := Blk.frozen K1b 0
      have K1c1 : World.cell? w9 ⟨w.heap.size + 1, 1, none⟩ = some (.int .u64 l2) := K1b.get 1 rfl
      have K1f1 := Blk.frozen K1b 1
      have K1n := Blk.lt K1b
      clear H0 H1
      go_wp2_with fail
      with_reducible refine (D1.out _).mono ?_
      rintro e w10 ⟨rfl, hb10⟩
      have K0m : Blk w10 (w.heap.size) 25 #[.int .u64 h1, .int .u64 l1] := Blk.next (by repeat (first | (with_reducible exact K0b) | (refine Blk.new_at ?_; simp only [World.size_alloc]; done) | (with_reducible refine Blk.alloc ?_ _) | (with_reducible refine Blk.drewN ?_ _))) hb10
      clear K0n K0b K0c0 K0f0 K0c1 K0f1
      have K0b := K0m
      clear K0m
      have K0c0 : World.cell? w10 ⟨w.heap.size, 0, none⟩ = some (.int .u64 h1) := K0b.get 0 rfl
      have K0f0 := Blk.frozen K0b 0
      have K0c1 : World.cell? w10 ⟨w.heap.size, 1, none⟩ = some (.int .u64 l1) := K0b.get 1 rfl
      have K0f1 := Blk.frozen K0b 1
      have K0n := Blk.lt K0b
      have K1m : Blk w10 (w.heap.size + 1) 25 #[.int .u64 h2, .int .u64 l2] := Blk.next (by repeat (first | (with_reducible exact K1b) | (refine Blk.new_at ?_; simp only [World.size_alloc]; done) | (with_reducible refine Blk.alloc ?_ _) | (with_reducible refine Blk.drewN ?_ _))) hb10
      clear K1n K1b K1c0 K1f0 K1c1 K1f1
      have K1b := K1m
      clear K1m
      have K1c0 : World.cell? w10 ⟨w.heap.size + 1, 0, none⟩ = some (.int .u64 h2) := K1b.get 0 rfl
      have K1f0 := Blk.frozen K1b 0
      have K1c1 : World.cell? w10 ⟨w.heap.size + 1, 1, none⟩ = some (.int .u64 l2) := K1b.get 1 rfl
      have K1f1 := Blk.frozen K1b 1
      have K1n := Blk.lt K1b
      have B10 : Below w.heap.size w w10 := by first | with_reducible exact below_next B9 hb10 | exact below_step B9 (by go_grown) hb10
      clear hb10 B9
      go_wp2_with fail
      with_reducible refine (M1.out _).mono ?_
      rintro e w11 ⟨rfl, hb11⟩
      have B11 : Below w.heap.size w w11 := by first | with_reducible exact below_next B10 hb11 | exact below_step B10 (by go_grown) hb11
      clear hb11 B10
      go_wp2_with fail
      with_reducible refine (M2.out _).mono ?_
      rintro e w12 ⟨rfl, hb12⟩
      have B12 : Below w.heap.size w w12 := by first | with_reducible exact below_next B11 hb12 | exact below_step B11 (by go_grown) hb12
      clear hb12 B11
      go_wp2_with fail
      with_reducible refine (C6.out _).mono ?_
      rintro e w13 ⟨rfl, hb13⟩
      have B13 : Below w.heap.size w w13 := by first | with_reducible exact below_next B12 hb13 | exact below_step B12 (by go_grown) hb13
      clear hb13 B12
      have T := Lib.hid B13
      rcases HT3.out with ⟨rfl, rfl⟩ | ⟨rfl, rfl⟩ | ⟨rfl, rfl⟩ <;> rcases HT4.out with ⟨rfl, rfl⟩ | ⟨hp, ⟨ho, rfl⟩ | ⟨rfl, rfl⟩ | ⟨ho, rfl⟩⟩
      all_goals clear HT3 HT4
      all_goals (try have hz : (c == 0) = false := beq_eq_false_iff_ne.2 (by omega))
      all_goals (try have hq : (a == b) = false := beq_eq_false_iff_ne.2 (by omega))
      all_goals go_wp2_with fail
      all_goals go_ret
      all_goals exact ⟨by first | (simp; done) | (simp; omega), T.out⟩

end Go.Proofs.Ytafhdpldkbhdcaa
