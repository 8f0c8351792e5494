/-
  The walk of the law WideDistributes: a sum, multiplied, is the sum of products; what is added may be taken away.
-/
import Derived.Test.YtafhdpldkbhdcaaProg
import Derived.Test.YtafhdpldkbhdcaaWideAwake
import Derived.Deep.RegionHeld3
namespace Go.Proofs.Ytafhdpldkbhdcaa
set_option linter.unusedVariables false
set_option linter.unusedSimpArgs false
set_option maxRecDepth 100000
open Go.RowKit Go.Shelf

theorem plus_same {h1 l1 h2 l2 h3 l3 h4 l4 : Int} (h : wv h1 l1 + wv h2 l2 = wv h3 l3 + wv h4 l4) : plusH h1 l1 h2 l2 = plusH h3 l3 h4 l4 ∧ plusL h1 l1 h2 l2 = plusL h3 l3 h4 l4 ∧ plusE h1 l1 h2 l2 = plusE h3 l3 h4 l4 := by
  unfold plusH plusL plusE
  unfold wv at h
  refine ⟨?_, ?_, ?_⟩ <;> split <;> split <;> omega
/-- What adding two wide numbers comes to. -/
theorem plus_cases {h1 l1 h2 l2 : Int} (a1 : Word h1) (a2 : Word l1) (a3 : Word h2) (a4 : Word l2) :
    (plusE h1 l1 h2 l2 = 10 ∧ plusH h1 l1 h2 l2 = 0 ∧ plusL h1 l1 h2 l2 = 0 ∧ 340282366920938463463374607431768211456 ≤ wv h1 l1 + wv h2 l2) ∨
    (∃ H L, plusE h1 l1 h2 l2 = 0 ∧ plusH h1 l1 h2 l2 = H ∧ plusL h1 l1 h2 l2 = L ∧ Word H ∧ Word L ∧ wv H L = wv h1 l1 + wv h2 l2) := by
  obtain ⟨x1, x2⟩ := a1; obtain ⟨x3, x4⟩ := a2; obtain ⟨x5, x6⟩ := a3; obtain ⟨x7, x8⟩ := a4
  unfold plusE plusH plusL wv
  by_cases h : (h1 + h2) * 18446744073709551616 + l1 + l2 ≥ 340282366920938463463374607431768211456
  · left
    rw [if_pos h, if_pos h, if_pos h]
    exact ⟨rfl, rfl, rfl, by omega⟩
  · right
    rw [if_neg h, if_neg h, if_neg h]
    exact ⟨_, _, rfl, rfl, rfl, ⟨by omega, by omega⟩, ⟨by omega, by omega⟩, by omega⟩
theorem less_of {h1 l1 h2 l2 h3 l3 : Int} (a1 : Word h3) (a2 : Word l3) (a3 : Word l1) (a4 : Word l2) (h : wv h1 l1 = wv h2 l2 + wv h3 l3) : lessH h1 l1 h2 l2 = h3 ∧ lessL h1 l1 h2 l2 = l3 ∧ lessE h1 l1 h2 l2 = 0 := by
  obtain ⟨x1, x2⟩ := a1; obtain ⟨x3, x4⟩ := a2; obtain ⟨x5, x6⟩ := a3; obtain ⟨x7, x8⟩ := a4
  unfold lessH lessL lessE
  unfold wv at *
  rw [if_neg (by omega), if_neg (by omega), if_neg (by omega)]
  refine ⟨by omega, by omega, rfl⟩

theorem bcell5 {W w1 : World} (hb : Below W.heap.size W w1) : (∀ b o, b < W.heap.size → w1.cell? ⟨b, o, none⟩ = W.cell? ⟨b, o, none⟩) ∧ (∀ b o, b < W.heap.size → w1.frozen? ⟨b, o, none⟩ = W.frozen? ⟨b, o, none⟩) :=
  ⟨fun b o h => hb.cell (p := ⟨b, o, none⟩) h, fun b o h => hb.frozen (p := ⟨b, o, none⟩) h⟩
theorem balloc5 (x : Nat) (y : Value) {W V : World} (h : V.cell? ⟨x, 0, none⟩ = some y ∧ Below W.heap.size W V) (o : Obj) : Below W.heap.size W (V.alloc o) := h.2.alloc h.2.size o
theorem bnext5 (x : Nat) (y : Value) {W V V' : World} (h : V.cell? ⟨x, 0, none⟩ = some y ∧ Below W.heap.size W V) (k : Below V.heap.size V V') : Below W.heap.size W V' := below_next h.2 k
theorem bput5 (x : Nat) (y : Value) {W V : World} {b o : Nat} (h : V.cell? ⟨x, 0, none⟩ = some y ∧ Below W.heap.size W V) (hb : W.heap.size ≤ b) (u : Value) : Below W.heap.size W (V.setCell ⟨b, o, none⟩ u) := h.2.setCell hb u
theorem bput5b (x : Nat) (y : Value) {W V : World} {b o b' o' : Nat} (h : V.cell? ⟨x, 0, none⟩ = some y ∧ Below W.heap.size W V) (hb : W.heap.size ≤ b ∧ W.heap.size ≤ b') (u u' : Value) : Below W.heap.size W ((V.setCell ⟨b, o, none⟩ u).setCell ⟨b', o', none⟩ u') := (h.2.setCell hb.1 u).setCell hb.2 u'

set_option maxHeartbeats 8000000 in
theorem wideDistributes_walk (w : World) (a : Int) (xa : (Lit.int .u64 a).wf = true) (b : Int) (xb : (Lit.int .u64 b).wf = true) (c : Int) (xc : (Lit.int .u64 c).wf = true)
    (h1 : Int) (x1 : (Lit.int .u64 h1).wf = true) (l1 : Int) (y1 : (Lit.int .u64 l1).wf = true) (h2 : Int) (x2 : (Lit.int .u64 h2).wf = true) (l2 : Int) (y2 : (Lit.int .u64 l2).wf = true) :
    Calls Try.prog 6 #[.int .u64 a, .int .u64 b, .int .u64 c, .agg #[.int .u64 h1, .int .u64 l1], .agg #[.int .u64 h2, .int .u64 l2]] w fun e w' => e = .returned (.bool true) ∧ Below w.heap.size w w' := by
  have wa := word_of_wf xa
  have wb := word_of_wf xb
  have wc := word_of_wf xc
  have v1 := word_of_wf x1
  have v2 := word_of_wf y1
  have v3 := word_of_wf x2
  have v4 := word_of_wf y2
  clear xa xb xc x1 y1 x2 y2
  have AW := Lib.hid (fun w => awake01 w)
  obtain ⟨a0, a1⟩ := wa
  obtain ⟨b0, b1⟩ := wb
  obtain ⟨c0, c1⟩ := wc
  have wa : Word a := ⟨a0, a1⟩
  have wb : Word b := ⟨b0, b1⟩
  have wc : Word c := ⟨c0, c1⟩
  -- the products
  obtain ⟨hA, eA⟩ : ∃ x, a * c / 18446744073709551616 = x := ⟨_, rfl⟩
  obtain ⟨lA, fA⟩ : ∃ x, a * c % 18446744073709551616 = x := ⟨_, rfl⟩
  obtain ⟨hB, eB⟩ : ∃ x, b * c / 18446744073709551616 = x := ⟨_, rfl⟩
  obtain ⟨lB, fB⟩ : ∃ x, b * c % 18446744073709551616 = x := ⟨_, rfl⟩
  have pA := prod_words wa wc
  have pB := prod_words wb wc
  rw [eA, fA] at pA
  rw [eB, fB] at pB
  obtain ⟨pA1, pA2, pA3, pA4⟩ := pA
  obtain ⟨pB1, pB2, pB3, pB4⟩ := pB
  have M1 := Lib.hid (fun w => mul_hl a c hA lA w wa wc eA fA)
  have M2 := Lib.hid (fun w => mul_hl b c hB lB w wb wc eB fB)
  have M4 := Lib.hid (fun w => mul_hl c a hA lA w wc wa (by rw [Int.mul_comm]; exact eA) (by rw [Int.mul_comm]; exact fA))
  have M5 := Lib.hid (fun w => mul_hl a 1 0 a w wa word1 (by rw [Int.mul_one]; omega) (by rw [Int.mul_one]; omega))
  have M6 := Lib.hid (fun w => mul_hl a 0 0 0 w wa word0 (by rw [Int.mul_zero]; rfl) (by rw [Int.mul_zero]; rfl))
  clear eA fA eB fB
  obtain ⟨pH, qH⟩ : ∃ x, plusH hA lA hB lB = x := ⟨_, rfl⟩
  obtain ⟨pL, qL⟩ : ∃ x, plusL hA lA hB lB = x := ⟨_, rfl⟩
  obtain ⟨pE, qE⟩ : ∃ x, plusE hA lA hB lB = x := ⟨_, rfl⟩
  have P1 := Lib.hid (fun w => wplus_val hA lA hB lB pH pL pE w pA1 pA2 pB1 pB2 qH qL qE)
  have PC := plus_cases v1 v2 v3 v4
  by_cases hov : 18446744073709551616 ≤ a + b
  · obtain ⟨s, hs⟩ : ∃ s, a + b - 18446744073709551616 = s := ⟨_, rfl⟩
    have hs1 : s ≤ a + b - 18446744073709551616 := by omega
    have hs2 : a + b - 18446744073709551616 ≤ s := by omega
    clear hs
    have es : IntKind.u64.wrap (a + b) = s := by rw [IntKind.wrap_u64]; omega
    have ws : Word s := ⟨by omega, by omega⟩
    have tk : IntKind.u64.wrap (1 * c) = c := by rw [Int.one_mul, IntKind.wrap_u64]; omega
    have tk2 : IntKind.u64.wrap c = c := by rw [IntKind.wrap_u64]; omega
    obtain ⟨hS, eS⟩ : ∃ x, s * c / 18446744073709551616 = x := ⟨_, rfl⟩
    obtain ⟨lS, fS⟩ : ∃ x, s * c % 18446744073709551616 = x := ⟨_, rfl⟩
    have pS := prod_words ws wc
    rw [eS, fS] at pS
    obtain ⟨pS1, pS2, pS3, pS4⟩ := pS
    have M3 := Lib.hid (fun w => mul_hl s c hS lS w ws wc eS fS)
    have same : wv hS lS + wv c 0 = wv hA lA + wv hB lB := by
      rw [pS3, pA3, pB3, ← Int.add_mul]
      have e : (a + b) * c = s * c + 18446744073709551616 * c := by rw [← Int.add_mul]; congr 1; omega
      rw [e]; unfold wv; omega
    obtain ⟨s1, s2, s3⟩ := plus_same same
    have P2 := Lib.hid (fun w => wplus_val hS lS c 0 pH pL pE w pS1 pS2 wc word0 (s1.trans qH) (s2.trans qL) (s3.trans qE))
    clear eS fS s1 s2 s3 same pS1 pS2 pS3 pS4 qH qL qE pA1 pA2 pA3 pA4 pB1 pB2 pB3 pB4 ws
    have hsa : s < a := by omega
    have w0s : 0 ≤ s := by omega
    have w1s : s < 18446744073709551616 := by omega
    rcases PC with ⟨g1, g2, g3, g4⟩ | ⟨yH, yL, g1, g2, g3, g4, g5, g6⟩
    · have C1 := Lib.hid (fun w => cmpw_val h1 l1 0 0 1 w v2 word0 (cmpN_gt (by unfold wv Word at *; omega)))
      have C2 := Lib.hid (fun w => cmpw_val h2 l2 0 0 1 w v4 word0 (cmpN_gt (by unfold wv Word at *; omega)))
      have PW := Lib.hid (fun w => wplus_val h1 l1 h2 l2 0 0 10 w v1 v2 v3 v4 g2 g3 g1)
      clear g1 g2 g3 g4
      go_enter Try.func6, Try.ntmps6
      go_wp2_with fail
      with_reducible refine (AW.out _).mono ?_
      rintro e w1 ⟨rfl, hb1⟩
      have K0m : Blk w1 (w.heap.size) 25 #[.int .u64 h1, .int .u64 l1] := Blk.next (by repeat (first | (refine Blk.new_at ?_; simp only [World.size_alloc]; done) | (with_reducible refine Blk.alloc ?_ _) | (with_reducible refine Blk.drewN ?_ _))) hb1
      have K0b := K0m
      clear K0m
      have K0c0 : World.cell? w1 ⟨w.heap.size, 0, none⟩ = some (.int .u64 h1) := K0b.get 0 rfl
      have K0f0 := Blk.frozen K0b 0
      have K0c1 : World.cell? w1 ⟨w.heap.size, 1, none⟩ = some (.int .u64 l1) := K0b.get 1 rfl
      have K0f1 := Blk.frozen K0b 1
      have K0n := Blk.lt K0b
      have K1m : Blk w1 (w.heap.size + 1) 25 #[.int .u64 h2, .int .u64 l2] := Blk.next (by repeat (first | (refine Blk.new_at ?_; simp only [World.size_alloc]; done) | (with_reducible refine Blk.alloc ?_ _) | (with_reducible refine Blk.drewN ?_ _))) hb1
      have K1b := K1m
      clear K1m
      have K1c0 : World.cell? w1 ⟨w.heap.size + 1, 0, none⟩ = some (.int .u64 h2) := K1b.get 0 rfl
      have K1f0 := Blk.frozen K1b 0
      have K1c1 : World.cell? w1 ⟨w.heap.size + 1, 1, none⟩ = some (.int .u64 l2) := K1b.get 1 rfl
      have K1f1 := Blk.frozen K1b 1
      have K1n := Blk.lt K1b
      have B1 : Below w.heap.size w w1 := by first | with_reducible exact hb1 | exact Below.trans (by go_grown) (hb1.mono (by simp only [World.size_alloc]; omega))
      clear hb1
      go_wp2_with fail
      with_reducible refine (M1.out _).mono ?_
      rintro e w2 ⟨rfl, hb2⟩
      have K0m : Blk w2 (w.heap.size) 25 #[.int .u64 h1, .int .u64 l1] := Blk.next (by repeat (first | (with_reducible exact K0b) | (refine Blk.new_at ?_; simp only [World.size_alloc]; done) | (with_reducible refine Blk.alloc ?_ _) | (with_reducible refine Blk.drewN ?_ _))) hb2
      clear K0n K0b K0c0 K0f0 K0c1 K0f1
      have K0b := K0m
      clear K0m
      have K0c0 : World.cell? w2 ⟨w.heap.size, 0, none⟩ = some (.int .u64 h1) := K0b.get 0 rfl
      have K0f0 := Blk.frozen K0b 0
      have K0c1 : World.cell? w2 ⟨w.heap.size, 1, none⟩ = some (.int .u64 l1) := K0b.get 1 rfl
      have K0f1 := Blk.frozen K0b 1
      have K0n := Blk.lt K0b
      have K1m : Blk w2 (w.heap.size + 1) 25 #[.int .u64 h2, .int .u64 l2] := Blk.next (by repeat (first | (with_reducible exact K1b) | (refine Blk.new_at ?_; simp only [World.size_alloc]; done) | (with_reducible refine Blk.alloc ?_ _) | (with_reducible refine Blk.drewN ?_ _))) hb2
      clear K1n K1b K1c0 K1f0 K1c1 K1f1
      have K1b := K1m
      clear K1m
      have K1c0 : World.cell? w2 ⟨w.heap.size + 1, 0, none⟩ = some (.int .u64 h2) := K1b.get 0 rfl
      have K1f0 := Blk.frozen K1b 0
      have K1c1 : World.cell? w2 ⟨w.heap.size + 1, 1, none⟩ = some (.int .u64 l2) := K1b.get 1 rfl
      have K1f1 := Blk.frozen K1b 1
      have K1n := Blk.lt K1b
      have KSm : Blk w2 (w1.heap.size) 25 #[.int .u64 1, .int .u64 s] := Blk.next (by repeat (first | (refine Blk.new_at ?_; simp only [World.size_alloc]; done) | (with_reducible refine Blk.alloc ?_ _) | (with_reducible refine Blk.drewN ?_ _))) hb2
      have KSb := KSm
      clear KSm
      have KSc0 : World.cell? w2 ⟨w1.heap.size, 0, none⟩ = some (.int .u64 1) := KSb.get 0 rfl
      have KSf0 := Blk.frozen KSb 0
      have KSc1 : World.cell? w2 ⟨w1.heap.size, 1, none⟩ = some (.int .u64 s) := KSb.get 1 rfl
      have KSf1 := Blk.frozen KSb 1
      have KSn := Blk.lt KSb
      have B2 : Below w.heap.size w w2 := by first | with_reducible exact below_next B1 hb2 | exact below_step B1 (by go_grown) hb2
      clear hb2 B1
      go_wp2_with fail
      with_reducible refine (M2.out _).mono ?_
      rintro e w3 ⟨rfl, hb3⟩
      have K0m : Blk w3 (w.heap.size) 25 #[.int .u64 h1, .int .u64 l1] := Blk.next (by repeat (first | (with_reducible exact K0b) | (refine Blk.new_at ?_; simp only [World.size_alloc]; done) | (with_reducible refine Blk.alloc ?_ _) | (with_reducible refine Blk.drewN ?_ _))) hb3
      clear K0n K0b K0c0 K0f0 K0c1 K0f1
      have K0b := K0m
      clear K0m
      have K0c0 : World.cell? w3 ⟨w.heap.size, 0, none⟩ = some (.int .u64 h1) := K0b.get 0 rfl
      have K0f0 := Blk.frozen K0b 0
      have K0c1 : World.cell? w3 ⟨w.heap.size, 1, none⟩ = some (.int .u64 l1) := K0b.get 1 rfl
      have K0f1 := Blk.frozen K0b 1
      have K0n := Blk.lt K0b
      have K1m : Blk w3 (w.heap.size + 1) 25 #[.int .u64 h2, .int .u64 l2] := Blk.next (by repeat (first | (with_reducible exact K1b) | (refine Blk.new_at ?_; simp only [World.size_alloc]; done) | (with_reducible refine Blk.alloc ?_ _) | (with_reducible refine Blk.drewN ?_ _))) hb3
      clear K1n K1b K1c0 K1f0 K1c1 K1f1
      have K1b := K1m
      clear K1m
      have K1c0 : World.cell? w3 ⟨w.heap.size + 1, 0, none⟩ = some (.int .u64 h2) := K1b.get 0 rfl
      have K1f0 := Blk.frozen K1b 0
      have K1c1 : World.cell? w3 ⟨w.heap.size + 1, 1, none⟩ = some (.int .u64 l2) := K1b.get 1 rfl
      have K1f1 := Blk.frozen K1b 1
      have K1n := Blk.lt K1b
      have KSm : Blk w3 (w1.heap.size) 25 #[.int .u64 1, .int .u64 s] := Blk.next (by repeat (first | (with_reducible exact KSb) | (refine Blk.new_at ?_; simp only [World.size_alloc]; done) | (with_reducible refine Blk.alloc ?_ _) | (with_reducible refine Blk.drewN ?_ _))) hb3
      clear KSn KSb KSc0 KSf0 KSc1 KSf1
      have KSb := KSm
      clear KSm
      have KSc0 : World.cell? w3 ⟨w1.heap.size, 0, none⟩ = some (.int .u64 1) := KSb.get 0 rfl
      have KSf0 := Blk.frozen KSb 0
      have KSc1 : World.cell? w3 ⟨w1.heap.size, 1, none⟩ = some (.int .u64 s) := KSb.get 1 rfl
      have KSf1 := Blk.frozen KSb 1
      have KSn := Blk.lt KSb
      have B3 : Below w.heap.size w w3 := by first | with_reducible exact below_next B2 hb3 | exact below_step B2 (by go_grown) hb3
      clear hb3 B2
      go_wp2_with fail
      with_reducible refine (P1.out _).mono ?_
      rintro e w4 ⟨rfl, hb4⟩
      have K0m : Blk w4 (w.heap.size) 25 #[.int .u64 h1, .int .u64 l1] := Blk.next (by repeat (first | (with_reducible exact K0b) | (refine Blk.new_at ?_; simp only [World.size_alloc]; done) | (with_reducible refine Blk.alloc ?_ _) | (with_reducible refine Blk.drewN ?_ _))) hb4
      clear K0n K0b K0c0 K0f0 K0c1 K0f1
      have K0b := K0m
      clear K0m
      have K0c0 : World.cell? w4 ⟨w.heap.size, 0, none⟩ = some (.int .u64 h1) := K0b.get 0 rfl
      have K0f0 := Blk.frozen K0b 0
      have K0c1 : World.cell? w4 ⟨w.heap.size, 1, none⟩ = some (.int .u64 l1) := K0b.get 1 rfl
      have K0f1 := Blk.frozen K0b 1
      have K0n := Blk.lt K0b
      have K1m : Blk w4 (w.heap.size + 1) 25 #[.int .u64 h2, .int .u64 l2] := Blk.next (by repeat (first | (with_reducible exact K1b) | (refine Blk.new_at ?_; simp only [World.size_alloc]; done) | (with_reducible refine Blk.alloc ?_ _) | (with_reducible refine Blk.drewN ?_ _))) hb4
      clear K1n K1b K1c0 K1f0 K1c1 K1f1
      have K1b := K1m
      clear K1m
      have K1c0 : World.cell? w4 ⟨w.heap.size + 1, 0, none⟩ = some (.int .u64 h2) := K1b.get 0 rfl
      have K1f0 := Blk.frozen K1b 0
      have K1c1 : World.cell? w4 ⟨w.heap.size + 1, 1, none⟩ = some (.int .u64 l2) := K1b.get 1 rfl
      have K1f1 := Blk.frozen K1b 1
      have K1n := Blk.lt K1b
      have KSm : Blk w4 (w1.heap.size) 25 #[.int .u64 1, .int .u64 s] := Blk.next (by repeat (first | (with_reducible exact KSb) | (refine Blk.new_at ?_; simp only [World.size_alloc]; done) | (with_reducible refine Blk.alloc ?_ _) | (with_reducible refine Blk.drewN ?_ _))) hb4
      clear KSn KSb KSc0 KSf0 KSc1 KSf1
      have KSb := KSm
      clear KSm
      have KSc0 : World.cell? w4 ⟨w1.heap.size, 0, none⟩ = some (.int .u64 1) := KSb.get 0 rfl
      have KSf0 := Blk.frozen KSb 0
      have KSc1 : World.cell? w4 ⟨w1.heap.size, 1, none⟩ = some (.int .u64 s) := KSb.get 1 rfl
      have KSf1 := Blk.frozen KSb 1
      have KSn := Blk.lt KSb
      have B4 : Below w.heap.size w w4 := by first | with_reducible exact below_next B3 hb4 | exact below_step B3 (by go_grown) hb4
      clear hb4 B3
      go_wp2_with fail
      have G0 := Blk.alloc K0b (.cells #[.int .u64 pH, .int .u64 pL] 25)
      have G1 := Blk.alloc K1b (.cells #[.int .u64 pH, .int .u64 pL] 25)
      have GS := Blk.alloc KSb (.cells #[.int .u64 pH, .int .u64 pL] 25)
      have GP := Blk.new w4 25 #[.int .u64 pH, .int .u64 pL]
      have BB := B4.alloc B4.size (.cells #[.int .u64 pH, .int .u64 pL] 25)
      obtain ⟨w5, hw5⟩ : ∃ W, w4.alloc (.cells #[.int .u64 pH, .int .u64 pL] 25) = W := ⟨_, rfl⟩
      rw [hw5] at G0 G1 GS GP BB
      rw [hw5]
      clear hw5 K0b K0c0 K0c1 K0f0 K0f1 K0n K1b K1c0 K1c1 K1f0 K1f1 K1n KSb KSc0 KSc1 KSf0 KSf1 KSn B4
      have hs0 := GS.get 0 rfl
      have hlt5 := GS.lt
      have S5 : ∀ w', Below w5.heap.size w5 w' → w'.cell? ⟨w1.heap.size, 0, none⟩ = some (.int .u64 1) ∧ Below w5.heap.size w5 w' := fun w' hb => ⟨(hb.cell (p := ⟨w1.heap.size, 0, none⟩) hlt5).trans hs0, hb⟩
      have S6 := Lib.hid S5
      clear S5
      go_cut [15, 16] (fun qv ev wc => ∃ q : Nat, qv = .pointer (some ⟨q, 0, none⟩) ∧ ev = .int .i64 pE ∧ Blk wc q 25 #[.int .u64 pH, .int .u64 pL] ∧ Below w5.heap.size w5 wc)
      case first =>
        go_region_held3 (fun w' => w'.cell? ⟨w1.heap.size, 0, none⟩ = some (.int .u64 1) ∧ Below w5.heap.size w5 w') (first | (exact S6.out _ (Below.refl _ _)) | (exact S6.out _ (below_of_drew (Below.refl _ _))) | assumption | (exact S6.out _ hS7) | (exact S6.out _ (hS7.alloc hS7.size _)) | (exact S6.out _ (hS6.alloc hS6.size _)) | (exact S6.out _ hS6) | (exact S6.out _ (balloc5 w1.heap.size (.int .u64 1) ‹_› _)) | (exact S6.out _ ((below_of_drew (Below.refl _ _)).alloc (Nat.le_refl _) _)) | (exact S6.out _ (hS7.setCell (by first | exact Nat.le_refl _ | exact hS6.size) _)) | (exact S6.out _ ((hS7.setCell (by first | exact Nat.le_refl _ | exact hS6.size) _).setCell (by first | exact Nat.le_refl _ | exact hS6.size) _)))
          (first | ((with_reducible refine (M3.out _).mono ?_); rintro e w6 ⟨rfl, hb6⟩; have hS6 : Below w5.heap.size w5 w6 := (by first | (refine bnext5 w1.heap.size (.int .u64 1) ?_ hb6; with_reducible assumption) | exact below_next (below_of_drew (Below.refl _ _)) hb6 | exact below_next ((below_of_drew (Below.refl _ _)).alloc (Nat.le_refl _) _) hb6); (try (have Y : Blk w6 w5.heap.size 25 #[.int .u64 0, .int .u64 0] := Blk.next (Blk.new w5.drew 25 #[.int .u64 0, .int .u64 0]) hb6; have Y0 : World.cell? w6 ⟨w5.heap.size, 0, none⟩ = some (.int .u64 0) := Y.get 0 rfl; have Y1 : World.cell? w6 ⟨w5.heap.size, 1, none⟩ = some (.int .u64 0) := Y.get 1 rfl; have Y2 : World.frozen? w6 ⟨w5.heap.size, 0, none⟩ = false := Y.frozen 0; have Y3 : World.frozen? w6 ⟨w5.heap.size, 1, none⟩ = false := Y.frozen 1; have Y4 := Y.lt))) | ((with_reducible refine (P2.out _).mono ?_); rintro e w7 ⟨rfl, hb7⟩; have hS7 : Below w5.heap.size w5 w7 := (by first | (refine bnext5 w1.heap.size (.int .u64 1) ?_ hb7; assumption) | exact below_next hS6 hb7); (first | (have Y : Blk w7 w5.heap.size 25 #[.int .u64 0, .int .u64 0] := Blk.next Y hb7; have Y0 : World.cell? w7 ⟨w5.heap.size, 0, none⟩ = some (.int .u64 0) := Y.get 0 rfl; have Y1 : World.cell? w7 ⟨w5.heap.size, 1, none⟩ = some (.int .u64 0) := Y.get 1 rfl; have Y2 : World.frozen? w7 ⟨w5.heap.size, 0, none⟩ = false := Y.frozen 0; have Y3 : World.frozen? w7 ⟨w5.heap.size, 1, none⟩ = false := Y.frozen 1; have Y4 := Y.lt) | (have Y : Blk w7 w6.heap.size 25 #[.int .u64 0, .int .u64 0] := Blk.next (Blk.new w6 25 #[.int .u64 0, .int .u64 0]) hb7; have Y0 : World.cell? w7 ⟨w6.heap.size, 0, none⟩ = some (.int .u64 0) := Y.get 0 rfl; have Y1 : World.cell? w7 ⟨w6.heap.size, 1, none⟩ = some (.int .u64 0) := Y.get 1 rfl; have Y2 : World.frozen? w7 ⟨w6.heap.size, 0, none⟩ = false := Y.frozen 0; have Y3 : World.frozen? w7 ⟨w6.heap.size, 1, none⟩ = false := Y.frozen 1; have Y4 := Y.lt) | skip)))
        all_goals go_wp2_with fail
        all_goals go_meet
        all_goals first
          | exact ⟨_, rfl, rfl, Blk.new w7 _ _, hS7.alloc hS7.size _⟩
          | exact ⟨_, rfl, rfl, Blk.put (Blk.put Y 0 _) 1 _, (hS7.setCell (Nat.le_refl _) _).setCell (Nat.le_refl _) _⟩
          | exact ⟨_, rfl, rfl, Blk.put (Blk.put Y 0 _) 1 _, (hS7.setCell hS6.size _).setCell hS6.size _⟩
      case rest =>
        obtain ⟨q, rfl, rfl, KQb, hbc⟩ := hcut
        obtain ⟨w7, rfl⟩ : ∃ x, x = wc := ⟨_, rfl⟩
        have B7 := below_next BB hbc
        have K0b : Blk w7 (w.heap.size) 25 #[.int .u64 h1, .int .u64 l1] := Blk.next G0 hbc
        have K0c0 : World.cell? w7 ⟨w.heap.size, 0, none⟩ = some (.int .u64 h1) := K0b.get 0 rfl
        have K0f0 := Blk.frozen K0b 0
        have K0c1 : World.cell? w7 ⟨w.heap.size, 1, none⟩ = some (.int .u64 l1) := K0b.get 1 rfl
        have K0f1 := Blk.frozen K0b 1
        have K0n := Blk.lt K0b
        have K1b : Blk w7 (w.heap.size + 1) 25 #[.int .u64 h2, .int .u64 l2] := Blk.next G1 hbc
        have K1c0 : World.cell? w7 ⟨w.heap.size + 1, 0, none⟩ = some (.int .u64 h2) := K1b.get 0 rfl
        have K1f0 := Blk.frozen K1b 0
        have K1c1 : World.cell? w7 ⟨w.heap.size + 1, 1, none⟩ = some (.int .u64 l2) := K1b.get 1 rfl
        have K1f1 := Blk.frozen K1b 1
        have K1n := Blk.lt K1b
        have KPb : Blk w7 (w4.heap.size) 25 #[.int .u64 pH, .int .u64 pL] := Blk.next GP hbc
        have KPc0 : World.cell? w7 ⟨w4.heap.size, 0, none⟩ = some (.int .u64 pH) := KPb.get 0 rfl
        have KPf0 := Blk.frozen KPb 0
        have KPc1 : World.cell? w7 ⟨w4.heap.size, 1, none⟩ = some (.int .u64 pL) := KPb.get 1 rfl
        have KPf1 := Blk.frozen KPb 1
        have KPn := Blk.lt KPb
        have KQb : Blk w7 (q) 25 #[.int .u64 pH, .int .u64 pL] := KQb
        have KQc0 : World.cell? w7 ⟨q, 0, none⟩ = some (.int .u64 pH) := KQb.get 0 rfl
        have KQf0 := Blk.frozen KQb 0
        have KQc1 : World.cell? w7 ⟨q, 1, none⟩ = some (.int .u64 pL) := KQb.get 1 rfl
        have KQf1 := Blk.frozen KQb 1
        have KQn := Blk.lt KQb
        clear G0 G1 GS GP BB hs0 hlt5 hbc S6
        go_wp2_with fail
        with_reducible refine (M1.out _).mono ?_
        rintro e w8 ⟨rfl, hb8⟩
        have K0m : Blk w8 (w.heap.size) 25 #[.int .u64 h1, .int .u64 l1] := Blk.next (by repeat (first | (with_reducible exact K0b) | (refine Blk.new_at ?_; simp only [World.size_alloc]; done) | (with_reducible refine Blk.alloc ?_ _) | (with_reducible refine Blk.drewN ?_ _))) hb8
        clear K0n K0b K0c0 K0f0 K0c1 K0f1
        have K0b := K0m
        clear K0m
        have K0c0 : World.cell? w8 ⟨w.heap.size, 0, none⟩ = some (.int .u64 h1) := K0b.get 0 rfl
        have K0f0 := Blk.frozen K0b 0
        have K0c1 : World.cell? w8 ⟨w.heap.size, 1, none⟩ = some (.int .u64 l1) := K0b.get 1 rfl
        have K0f1 := Blk.frozen K0b 1
        have K0n := Blk.lt K0b
        have K1m : Blk w8 (w.heap.size + 1) 25 #[.int .u64 h2, .int .u64 l2] := Blk.next (by repeat (first | (with_reducible exact K1b) | (refine Blk.new_at ?_; simp only [World.size_alloc]; done) | (with_reducible refine Blk.alloc ?_ _) | (with_reducible refine Blk.drewN ?_ _))) hb8
        clear K1n K1b K1c0 K1f0 K1c1 K1f1
        have K1b := K1m
        clear K1m
        have K1c0 : World.cell? w8 ⟨w.heap.size + 1, 0, none⟩ = some (.int .u64 h2) := K1b.get 0 rfl
        have K1f0 := Blk.frozen K1b 0
        have K1c1 : World.cell? w8 ⟨w.heap.size + 1, 1, none⟩ = some (.int .u64 l2) := K1b.get 1 rfl
        have K1f1 := Blk.frozen K1b 1
        have K1n := Blk.lt K1b
        have KPm : Blk w8 (w4.heap.size) 25 #[.int .u64 pH, .int .u64 pL] := Blk.next (by repeat (first | (with_reducible exact KPb) | (refine Blk.new_at ?_; simp only [World.size_alloc]; done) | (with_reducible refine Blk.alloc ?_ _) | (with_reducible refine Blk.drewN ?_ _))) hb8
        clear KPn KPb KPc0 KPf0 KPc1 KPf1
        have KPb := KPm
        clear KPm
        have KPc0 : World.cell? w8 ⟨w4.heap.size, 0, none⟩ = some (.int .u64 pH) := KPb.get 0 rfl
        have KPf0 := Blk.frozen KPb 0
        have KPc1 : World.cell? w8 ⟨w4.heap.size, 1, none⟩ = some (.int .u64 pL) := KPb.get 1 rfl
        have KPf1 := Blk.frozen KPb 1
        have KPn := Blk.lt KPb
        have KQm : Blk w8 (q) 25 #[.int .u64 pH, .int .u64 pL] := Blk.next (by repeat (first | (with_reducible exact KQb) | (refine Blk.new_at ?_; simp only [World.size_alloc]; done) | (with_reducible refine Blk.alloc ?_ _) | (with_reducible refine Blk.drewN ?_ _))) hb8
        clear KQn KQb KQc0 KQf0 KQc1 KQf1
        have KQb := KQm
        clear KQm
        have KQc0 : World.cell? w8 ⟨q, 0, none⟩ = some (.int .u64 pH) := KQb.get 0 rfl
        have KQf0 := Blk.frozen KQb 0
        have KQc1 : World.cell? w8 ⟨q, 1, none⟩ = some (.int .u64 pL) := KQb.get 1 rfl
        have KQf1 := Blk.frozen KQb 1
        have KQn := Blk.lt KQb
        have B8 : Below w.heap.size w w8 := by first | with_reducible exact below_next B7 hb8 | exact below_step B7 (by go_grown) hb8
        clear hb8 B7
        go_wp2_with fail
        with_reducible refine (M4.out _).mono ?_
        rintro e w9 ⟨rfl, hb9⟩
        have K0m : Blk w9 (w.heap.size) 25 #[.int .u64 h1, .int .u64 l1] := Blk.next (by repeat (first | (with_reducible exact K0b) | (refine Blk.new_at ?_; simp only [World.size_alloc]; done) | (with_reducible refine Blk.alloc ?_ _) | (with_reducible refine Blk.drewN ?_ _))) hb9
        clear K0n K0b K0c0 K0f0 K0c1 K0f1
        have K0b := K0m
        clear K0m
        have K0c0 : World.cell? w9 ⟨w.heap.size, 0, none⟩ = some (.int .u64 h1) := K0b.get 0 rfl
        have K0f0 := Blk.frozen K0b 0
        have K0c1 : World.cell? w9 ⟨w.heap.size, 1, none⟩ = some (.int .u64 l1) := K0b.get 1 rfl
        have K0f1 := Blk.frozen K0b 1
        have K0n := Blk.lt K0b
        have K1m : Blk w9 (w.heap.size + 1) 25 #[.int .u64 h2, .int .u64 l2] := Blk.next (by repeat (first | (with_reducible exact K1b) | (refine Blk.new_at ?_; simp only [World.size_alloc]; done) | (with_reducible refine Blk.alloc ?_ _) | (with_reducible refine Blk.drewN ?_ _))) hb9
        clear K1n K1b K1c0 K1f0 K1c1 K1f1
        have K1b := K1m
        clear K1m
        have K1c0 : World.cell? w9 ⟨w.heap.size + 1, 0, none⟩ = some (.int .u64 h2) := K1b.get 0 rfl
        have K1f0 := Blk.frozen K1b 0
        have K1c1 : World.cell? w9 ⟨w.heap.size + 1, 1, none⟩ = some (.int .u64 l2) := K1b.get 1 rfl
        have K1f1 := Blk.frozen K1b 1
        have K1n := Blk.lt K1b
        have KPm : Blk w9 (w4.heap.size) 25 #[.int .u64 pH, .int .u64 pL] := Blk.next (by repeat (first | (with_reducible exact KPb) | (refine Blk.new_at ?_; simp only [World.size_alloc]; done) | (with_reducible refine Blk.alloc ?_ _) | (with_reducible refine Blk.drewN ?_ _))) hb9
        clear KPn KPb KPc0 KPf0 KPc1 KPf1
        have KPb := KPm
        clear KPm
        have KPc0 : World.cell? w9 ⟨w4.heap.size, 0, none⟩ = some (.int .u64 pH) := KPb.get 0 rfl
        have KPf0 := Blk.frozen KPb 0
        have KPc1 : World.cell? w9 ⟨w4.heap.size, 1, none⟩ = some (.int .u64 pL) := KPb.get 1 rfl
        have KPf1 := Blk.frozen KPb 1
        have KPn := Blk.lt KPb
        have KQm : Blk w9 (q) 25 #[.int .u64 pH, .int .u64 pL] := Blk.next (by repeat (first | (with_reducible exact KQb) | (refine Blk.new_at ?_; simp only [World.size_alloc]; done) | (with_reducible refine Blk.alloc ?_ _) | (with_reducible refine Blk.drewN ?_ _))) hb9
        clear KQn KQb KQc0 KQf0 KQc1 KQf1
        have KQb := KQm
        clear KQm
        have KQc0 : World.cell? w9 ⟨q, 0, none⟩ = some (.int .u64 pH) := KQb.get 0 rfl
        have KQf0 := Blk.frozen KQb 0
        have KQc1 : World.cell? w9 ⟨q, 1, none⟩ = some (.int .u64 pL) := KQb.get 1 rfl
        have KQf1 := Blk.frozen KQb 1
        have KQn := Blk.lt KQb
        have B9 : Below w.heap.size w w9 := by first | with_reducible exact below_next B8 hb9 | exact below_step B8 (by go_grown) hb9
        clear hb9 B8
        go_wp2_with fail
        with_reducible refine (M5.out _).mono ?_
        rintro e w10 ⟨rfl, hb10⟩
        have K0m : Blk w10 (w.heap.size) 25 #[.int .u64 h1, .int .u64 l1] := Blk.next (by repeat (first | (with_reducible exact K0b) | (refine Blk.new_at ?_; simp only [World.size_alloc]; done) | (with_reducible refine Blk.alloc ?_ _) | (with_reducible refine Blk.drewN ?_ _))) hb10
        clear K0n K0b K0c0 K0f0 K0c1 K0f1
        have K0b := K0m
        clear K0m
        have K0c0 : World.cell? w10 ⟨w.heap.size, 0, none⟩ = some (.int .u64 h1) := K0b.get 0 rfl
        have K0f0 := Blk.frozen K0b 0
        have K0c1 : World.cell? w10 ⟨w.heap.size, 1, none⟩ = some (.int .u64 l1) := K0b.get 1 rfl
        have K0f1 := Blk.frozen K0b 1
        have K0n := Blk.lt K0b
        have K1m : Blk w10 (w.heap.size + 1) 25 #[.int .u64 h2, .int .u64 l2] := Blk.next (by repeat (first | (with_reducible exact K1b) | (refine Blk.new_at ?_; simp only [World.size_alloc]; done) | (with_reducible refine Blk.alloc ?_ _) | (with_reducible refine Blk.drewN ?_ _))) hb10
        clear K1n K1b K1c0 K1f0 K1c1 K1f1
        have K1b := K1m
        clear K1m
        have K1c0 : World.cell? w10 ⟨w.heap.size + 1, 0, none⟩ = some (.int .u64 h2) := K1b.get 0 rfl
        have K1f0 := Blk.frozen K1b 0
        have K1c1 : World.cell? w10 ⟨w.heap.size + 1, 1, none⟩ = some (.int .u64 l2) := K1b.get 1 rfl
        have K1f1 := Blk.frozen K1b 1
        have K1n := Blk.lt K1b
        have KPm : Blk w10 (w4.heap.size) 25 #[.int .u64 pH, .int .u64 pL] := Blk.next (by repeat (first | (with_reducible exact KPb) | (refine Blk.new_at ?_; simp only [World.size_alloc]; done) | (with_reducible refine Blk.alloc ?_ _) | (with_reducible refine Blk.drewN ?_ _))) hb10
        clear KPn KPb KPc0 KPf0 KPc1 KPf1
        have KPb := KPm
        clear KPm
        have KPc0 : World.cell? w10 ⟨w4.heap.size, 0, none⟩ = some (.int .u64 pH) := KPb.get 0 rfl
        have KPf0 := Blk.frozen KPb 0
        have KPc1 : World.cell? w10 ⟨w4.heap.size, 1, none⟩ = some (.int .u64 pL) := KPb.get 1 rfl
        have KPf1 := Blk.frozen KPb 1
        have KPn := Blk.lt KPb
        have KQm : Blk w10 (q) 25 #[.int .u64 pH, .int .u64 pL] := Blk.next (by repeat (first | (with_reducible exact KQb) | (refine Blk.new_at ?_; simp only [World.size_alloc]; done) | (with_reducible refine Blk.alloc ?_ _) | (with_reducible refine Blk.drewN ?_ _))) hb10
        clear KQn KQb KQc0 KQf0 KQc1 KQf1
        have KQb := KQm
        clear KQm
        have KQc0 : World.cell? w10 ⟨q, 0, none⟩ = some (.int .u64 pH) := KQb.get 0 rfl
        have KQf0 := Blk.frozen KQb 0
        have KQc1 : World.cell? w10 ⟨q, 1, none⟩ = some (.int .u64 pL) := KQb.get 1 rfl
        have KQf1 := Blk.frozen KQb 1
        have KQn := Blk.lt KQb
        have B10 : Below w.heap.size w w10 := by first | with_reducible exact below_next B9 hb10 | exact below_step B9 (by go_grown) hb10
        clear hb10 B9
        go_wp2_with fail
        with_reducible refine (M6.out _).mono ?_
        rintro e w11 ⟨rfl, hb11⟩
        have K0m : Blk w11 (w.heap.size) 25 #[.int .u64 h1, .int .u64 l1] := Blk.next (by repeat (first | (with_reducible exact K0b) | (refine Blk.new_at ?_; simp only [World.size_alloc]; done) | (with_reducible refine Blk.alloc ?_ _) | (with_reducible refine Blk.drewN ?_ _))) hb11
        clear K0n K0b K0c0 K0f0 K0c1 K0f1
        have K0b := K0m
        clear K0m
        have K0c0 : World.cell? w11 ⟨w.heap.size, 0, none⟩ = some (.int .u64 h1) := K0b.get 0 rfl
        have K0f0 := Blk.frozen K0b 0
        have K0c1 : World.cell? w11 ⟨w.heap.size, 1, none⟩ = some (.int .u64 l1) := K0b.get 1 rfl
        have K0f1 := Blk.frozen K0b 1
        have K0n := Blk.lt K0b
        have K1m : Blk w11 (w.heap.size + 1) 25 #[.int .u64 h2, .int .u64 l2] := Blk.next (by repeat (first | (with_reducible exact K1b) | (refine Blk.new_at ?_; simp only [World.size_alloc]; done) | (with_reducible refine Blk.alloc ?_ _) | (with_reducible refine Blk.drewN ?_ _))) hb11
        clear K1n K1b K1c0 K1f0 K1c1 K1f1
        have K1b := K1m
        clear K1m
        have K1c0 : World.cell? w11 ⟨w.heap.size + 1, 0, none⟩ = some (.int .u64 h2) := K1b.get 0 rfl
        have K1f0 := Blk.frozen K1b 0
        have K1c1 : World.cell? w11 ⟨w.heap.size + 1, 1, none⟩ = some (.int .u64 l2) := K1b.get 1 rfl
        have K1f1 := Blk.frozen K1b 1
        have K1n := Blk.lt K1b
        have KPm : Blk w11 (w4.heap.size) 25 #[.int .u64 pH, .int .u64 pL] := Blk.next (by repeat (first | (with_reducible exact KPb) | (refine Blk.new_at ?_; simp only [World.size_alloc]; done) | (with_reducible refine Blk.alloc ?_ _) | (with_reducible refine Blk.drewN ?_ _))) hb11
        clear KPn KPb KPc0 KPf0 KPc1 KPf1
        have KPb := KPm
        clear KPm
        have KPc0 : World.cell? w11 ⟨w4.heap.size, 0, none⟩ = some (.int .u64 pH) := KPb.get 0 rfl
        have KPf0 := Blk.frozen KPb 0
        have KPc1 : World.cell? w11 ⟨w4.heap.size, 1, none⟩ = some (.int .u64 pL) := KPb.get 1 rfl
        have KPf1 := Blk.frozen KPb 1
        have KPn := Blk.lt KPb
        have KQm : Blk w11 (q) 25 #[.int .u64 pH, .int .u64 pL] := Blk.next (by repeat (first | (with_reducible exact KQb) | (refine Blk.new_at ?_; simp only [World.size_alloc]; done) | (with_reducible refine Blk.alloc ?_ _) | (with_reducible refine Blk.drewN ?_ _))) hb11
        clear KQn KQb KQc0 KQf0 KQc1 KQf1
        have KQb := KQm
        clear KQm
        have KQc0 : World.cell? w11 ⟨q, 0, none⟩ = some (.int .u64 pH) := KQb.get 0 rfl
        have KQf0 := Blk.frozen KQb 0
        have KQc1 : World.cell? w11 ⟨q, 1, none⟩ = some (.int .u64 pL) := KQb.get 1 rfl
        have KQf1 := Blk.frozen KQb 1
        have KQn := Blk.lt KQb
        have B11 : Below w.heap.size w w11 := by first | with_reducible exact below_next B10 hb11 | exact below_step B10 (by go_grown) hb11
        clear hb11 B10
        go_wp2_with fail
        with_reducible refine (PW.out _).mono ?_
        rintro e w12 ⟨rfl, hb12⟩
        have K0m : Blk w12 (w.heap.size) 25 #[.int .u64 h1, .int .u64 l1] := Blk.next (by repeat (first | (with_reducible exact K0b) | (refine Blk.new_at ?_; simp only [World.size_alloc]; done) | (with_reducible refine Blk.alloc ?_ _) | (with_reducible refine Blk.drewN ?_ _))) hb12
        clear K0n K0b K0c0 K0f0 K0c1 K0f1
        have K0b := K0m
        clear K0m
        have K0c0 : World.cell? w12 ⟨w.heap.size, 0, none⟩ = some (.int .u64 h1) := K0b.get 0 rfl
        have K0f0 := Blk.frozen K0b 0
        have K0c1 : World.cell? w12 ⟨w.heap.size, 1, none⟩ = some (.int .u64 l1) := K0b.get 1 rfl
        have K0f1 := Blk.frozen K0b 1
        have K0n := Blk.lt K0b
        have K1m : Blk w12 (w.heap.size + 1) 25 #[.int .u64 h2, .int .u64 l2] := Blk.next (by repeat (first | (with_reducible exact K1b) | (refine Blk.new_at ?_; simp only [World.size_alloc]; done) | (with_reducible refine Blk.alloc ?_ _) | (with_reducible refine Blk.drewN ?_ _))) hb12
        clear K1n K1b K1c0 K1f0 K1c1 K1f1
        have K1b := K1m
        clear K1m
        have K1c0 : World.cell? w12 ⟨w.heap.size + 1, 0, none⟩ = some (.int .u64 h2) := K1b.get 0 rfl
        have K1f0 := Blk.frozen K1b 0
        have K1c1 : World.cell? w12 ⟨w.heap.size + 1, 1, none⟩ = some (.int .u64 l2) := K1b.get 1 rfl
        have K1f1 := Blk.frozen K1b 1
        have K1n := Blk.lt K1b
        have KPm : Blk w12 (w4.heap.size) 25 #[.int .u64 pH, .int .u64 pL] := Blk.next (by repeat (first | (with_reducible exact KPb) | (refine Blk.new_at ?_; simp only [World.size_alloc]; done) | (with_reducible refine Blk.alloc ?_ _) | (with_reducible refine Blk.drewN ?_ _))) hb12
        clear KPn KPb KPc0 KPf0 KPc1 KPf1
        have KPb := KPm
        clear KPm
        have KPc0 : World.cell? w12 ⟨w4.heap.size, 0, none⟩ = some (.int .u64 pH) := KPb.get 0 rfl
        have KPf0 := Blk.frozen KPb 0
        have KPc1 : World.cell? w12 ⟨w4.heap.size, 1, none⟩ = some (.int .u64 pL) := KPb.get 1 rfl
        have KPf1 := Blk.frozen KPb 1
        have KPn := Blk.lt KPb
        have KQm : Blk w12 (q) 25 #[.int .u64 pH, .int .u64 pL] := Blk.next (by repeat (first | (with_reducible exact KQb) | (refine Blk.new_at ?_; simp only [World.size_alloc]; done) | (with_reducible refine Blk.alloc ?_ _) | (with_reducible refine Blk.drewN ?_ _))) hb12
        clear KQn KQb KQc0 KQf0 KQc1 KQf1
        have KQb := KQm
        clear KQm
        have KQc0 : World.cell? w12 ⟨q, 0, none⟩ = some (.int .u64 pH) := KQb.get 0 rfl
        have KQf0 := Blk.frozen KQb 0
        have KQc1 : World.cell? w12 ⟨q, 1, none⟩ = some (.int .u64 pL) := KQb.get 1 rfl
        have KQf1 := Blk.frozen KQb 1
        have KQn := Blk.lt KQb
        have B12 : Below w.heap.size w w12 := by first | with_reducible exact below_next B11 hb12 | exact below_step B11 (by go_grown) hb12
        clear hb12 B11
        go_wp2_with fail
        with_reducible refine (C1.out _).mono ?_
        rintro e w13 ⟨rfl, hb13⟩
        have K0m : Blk w13 (w.heap.size) 25 #[.int .u64 h1, .int .u64 l1] := Blk.next (by repeat (first | (with_reducible exact K0b) | (refine Blk.new_at ?_; simp only [World.size_alloc]; done) | (with_reducible refine Blk.alloc ?_ _) | (with_reducible refine Blk.drewN ?_ _))) hb13
        clear K0n K0b K0c0 K0f0 K0c1 K0f1
        have K0b := K0m
        clear K0m
        have K0c0 : World.cell? w13 ⟨w.heap.size, 0, none⟩ = some (.int .u64 h1) := K0b.get 0 rfl
        have K0f0 := Blk.frozen K0b 0
        have K0c1 : World.cell? w13 ⟨w.heap.size, 1, none⟩ = some (.int .u64 l1) := K0b.get 1 rfl
        have K0f1 := Blk.frozen K0b 1
        have K0n := Blk.lt K0b
        have K1m : Blk w13 (w.heap.size + 1) 25 #[.int .u64 h2, .int .u64 l2] := Blk.next (by repeat (first | (with_reducible exact K1b) | (refine Blk.new_at ?_; simp only [World.size_alloc]; done) | (with_reducible refine Blk.alloc ?_ _) | (with_reducible refine Blk.drewN ?_ _))) hb13
        clear K1n K1b K1c0 K1f0 K1c1 K1f1
        have K1b := K1m
        clear K1m
        have K1c0 : World.cell? w13 ⟨w.heap.size + 1, 0, none⟩ = some (.int .u64 h2) := K1b.get 0 rfl
        have K1f0 := Blk.frozen K1b 0
        have K1c1 : World.cell? w13 ⟨w.heap.size + 1, 1, none⟩ = some (.int .u64 l2) := K1b.get 1 rfl
        have K1f1 := Blk.frozen K1b 1
        have K1n := Blk.lt K1b
        have KPm : Blk w13 (w4.heap.size) 25 #[.int .u64 pH, .int .u64 pL] := Blk.next (by repeat (first | (with_reducible exact KPb) | (refine Blk.new_at ?_; simp only [World.size_alloc]; done) | (with_reducible refine Blk.alloc ?_ _) | (with_reducible refine Blk.drewN ?_ _))) hb13
        clear KPn KPb KPc0 KPf0 KPc1 KPf1
        have KPb := KPm
        clear KPm
        have KPc0 : World.cell? w13 ⟨w4.heap.size, 0, none⟩ = some (.int .u64 pH) := KPb.get 0 rfl
        have KPf0 := Blk.frozen KPb 0
        have KPc1 : World.cell? w13 ⟨w4.heap.size, 1, none⟩ = some (.int .u64 pL) := KPb.get 1 rfl
        have KPf1 := Blk.frozen KPb 1
        have KPn := Blk.lt KPb
        have KQm : Blk w13 (q) 25 #[.int .u64 pH, .int .u64 pL] := Blk.next (by repeat (first | (with_reducible exact KQb) | (refine Blk.new_at ?_; simp only [World.size_alloc]; done) | (with_reducible refine Blk.alloc ?_ _) | (with_reducible refine Blk.drewN ?_ _))) hb13
        clear KQn KQb KQc0 KQf0 KQc1 KQf1
        have KQb := KQm
        clear KQm
        have KQc0 : World.cell? w13 ⟨q, 0, none⟩ = some (.int .u64 pH) := KQb.get 0 rfl
        have KQf0 := Blk.frozen KQb 0
        have KQc1 : World.cell? w13 ⟨q, 1, none⟩ = some (.int .u64 pL) := KQb.get 1 rfl
        have KQf1 := Blk.frozen KQb 1
        have KQn := Blk.lt KQb
        have KYm : Blk w13 (w12.heap.size) 25 #[.int .u64 0, .int .u64 0] := Blk.next (by repeat (first | (refine Blk.new_at ?_; simp only [World.size_alloc]; done) | (with_reducible refine Blk.alloc ?_ _) | (with_reducible refine Blk.drewN ?_ _))) hb13
        have KYb := KYm
        clear KYm
        have KYc0 : World.cell? w13 ⟨w12.heap.size, 0, none⟩ = some (.int .u64 0) := KYb.get 0 rfl
        have KYf0 := Blk.frozen KYb 0
        have KYc1 : World.cell? w13 ⟨w12.heap.size, 1, none⟩ = some (.int .u64 0) := KYb.get 1 rfl
        have KYf1 := Blk.frozen KYb 1
        have KYn := Blk.lt KYb
        have B13 : Below w.heap.size w w13 := by first | with_reducible exact below_next B12 hb13 | exact below_step B12 (by go_grown) hb13
        clear hb13 B12
        go_wp2_with fail
        with_reducible refine (C2.out _).mono ?_
        rintro e w14 ⟨rfl, hb14⟩
        have K0m : Blk w14 (w.heap.size) 25 #[.int .u64 h1, .int .u64 l1] := Blk.next (by repeat (first | (with_reducible exact K0b) | (refine Blk.new_at ?_; simp only [World.size_alloc]; done) | (with_reducible refine Blk.alloc ?_ _) | (with_reducible refine Blk.drewN ?_ _))) hb14
        clear K0n K0b K0c0 K0f0 K0c1 K0f1
        have K0b := K0m
        clear K0m
        have K0c0 : World.cell? w14 ⟨w.heap.size, 0, none⟩ = some (.int .u64 h1) := K0b.get 0 rfl
        have K0f0 := Blk.frozen K0b 0
        have K0c1 : World.cell? w14 ⟨w.heap.size, 1, none⟩ = some (.int .u64 l1) := K0b.get 1 rfl
        have K0f1 := Blk.frozen K0b 1
        have K0n := Blk.lt K0b
        have K1m : Blk w14 (w.heap.size + 1) 25 #[.int .u64 h2, .int .u64 l2] := Blk.next (by repeat (first | (with_reducible exact K1b) | (refine Blk.new_at ?_; simp only [World.size_alloc]; done) | (with_reducible refine Blk.alloc ?_ _) | (with_reducible refine Blk.drewN ?_ _))) hb14
        clear K1n K1b K1c0 K1f0 K1c1 K1f1
        have K1b := K1m
        clear K1m
        have K1c0 : World.cell? w14 ⟨w.heap.size + 1, 0, none⟩ = some (.int .u64 h2) := K1b.get 0 rfl
        have K1f0 := Blk.frozen K1b 0
        have K1c1 : World.cell? w14 ⟨w.heap.size + 1, 1, none⟩ = some (.int .u64 l2) := K1b.get 1 rfl
        have K1f1 := Blk.frozen K1b 1
        have K1n := Blk.lt K1b
        have KPm : Blk w14 (w4.heap.size) 25 #[.int .u64 pH, .int .u64 pL] := Blk.next (by repeat (first | (with_reducible exact KPb) | (refine Blk.new_at ?_; simp only [World.size_alloc]; done) | (with_reducible refine Blk.alloc ?_ _) | (with_reducible refine Blk.drewN ?_ _))) hb14
        clear KPn KPb KPc0 KPf0 KPc1 KPf1
        have KPb := KPm
        clear KPm
        have KPc0 : World.cell? w14 ⟨w4.heap.size, 0, none⟩ = some (.int .u64 pH) := KPb.get 0 rfl
        have KPf0 := Blk.frozen KPb 0
        have KPc1 : World.cell? w14 ⟨w4.heap.size, 1, none⟩ = some (.int .u64 pL) := KPb.get 1 rfl
        have KPf1 := Blk.frozen KPb 1
        have KPn := Blk.lt KPb
        have KQm : Blk w14 (q) 25 #[.int .u64 pH, .int .u64 pL] := Blk.next (by repeat (first | (with_reducible exact KQb) | (refine Blk.new_at ?_; simp only [World.size_alloc]; done) | (with_reducible refine Blk.alloc ?_ _) | (with_reducible refine Blk.drewN ?_ _))) hb14
        clear KQn KQb KQc0 KQf0 KQc1 KQf1
        have KQb := KQm
        clear KQm
        have KQc0 : World.cell? w14 ⟨q, 0, none⟩ = some (.int .u64 pH) := KQb.get 0 rfl
        have KQf0 := Blk.frozen KQb 0
        have KQc1 : World.cell? w14 ⟨q, 1, none⟩ = some (.int .u64 pL) := KQb.get 1 rfl
        have KQf1 := Blk.frozen KQb 1
        have KQn := Blk.lt KQb
        have KYm : Blk w14 (w12.heap.size) 25 #[.int .u64 0, .int .u64 0] := Blk.next (by repeat (first | (with_reducible exact KYb) | (refine Blk.new_at ?_; simp only [World.size_alloc]; done) | (with_reducible refine Blk.alloc ?_ _) | (with_reducible refine Blk.drewN ?_ _))) hb14
        clear KYn KYb KYc0 KYf0 KYc1 KYf1
        have KYb := KYm
        clear KYm
        have KYc0 : World.cell? w14 ⟨w12.heap.size, 0, none⟩ = some (.int .u64 0) := KYb.get 0 rfl
        have KYf0 := Blk.frozen KYb 0
        have KYc1 : World.cell? w14 ⟨w12.heap.size, 1, none⟩ = some (.int .u64 0) := KYb.get 1 rfl
        have KYf1 := Blk.frozen KYb 1
        have KYn := Blk.lt KYb
        have B14 : Below w.heap.size w w14 := by first | with_reducible exact below_next B13 hb14 | exact below_step B13 (by go_grown) hb14
        clear hb14 B13
        go_wp2_with fail
        go_ret
        exact ⟨by simp, B14⟩
    · have PW := Lib.hid (fun w => wplus_val h1 l1 h2 l2 yH yL 0 w v1 v2 v3 v4 g2 g3 g1)
      obtain ⟨d1, d2, d3⟩ := less_of (h1 := yH) (l1 := yL) (h2 := h2) (l2 := l2) v1 v2 g5 v4 (by omega)
      obtain ⟨d4, d5, d6⟩ := less_of (h1 := yH) (l1 := yL) (h2 := h1) (l2 := l1) v3 v4 g5 v2 (by omega)
      have D1 := Lib.hid (fun w => wminus_val yH yL h2 l2 h1 l1 0 w g4 g5 v3 v4 d1 d2 d3)
      have D2 := Lib.hid (fun w => wminus_val yH yL h1 l1 h2 l2 0 w g4 g5 v1 v2 d4 d5 d6)
      have n1 : 0 ≤ wv h1 l1 := by unfold wv Word at *; omega
      have n2 : 0 ≤ wv h2 l2 := by unfold wv Word at *; omega
      obtain ⟨k1, ek1⟩ : ∃ k, cmpN (wv yH yL) (wv h1 l1) = k := ⟨_, rfl⟩
      obtain ⟨k2, ek2⟩ : ∃ k, cmpN (wv yH yL) (wv h2 l2) = k := ⟨_, rfl⟩
      have kk1 : 0 ≤ k1 := by rw [← ek1]; unfold cmpN; split <;> (try split) <;> omega
      have kk2 : 0 ≤ k2 := by rw [← ek2]; unfold cmpN; split <;> (try split) <;> omega
      have C3 := Lib.hid (fun w => cmpw_val yH yL h1 l1 k1 w g5 v2 ek1)
      have C4 := Lib.hid (fun w => cmpw_val yH yL h2 l2 k2 w g5 v4 ek2)
      clear g1 g2 g3 g4 g5 g6 d1 d2 d3 d4 d5 d6 n1 n2 ek1 ek2
      go_enter Try.func6, Try.ntmps6
      go_wp2_with fail
      with_reducible refine (AW.out _).mono ?_
      rintro e w1 ⟨rfl, hb1⟩
      have K0m : Blk w1 (w.heap.size) 25 #[.int .u64 h1, .int .u64 l1] := Blk.next (by repeat (first | (refine Blk.new_at ?_; simp only [World.size_alloc]; done) | (with_reducible refine Blk.alloc ?_ _) | (with_reducible refine Blk.drewN ?_ _))) hb1
      have K0b := K0m
      clear K0m
      have K0c0 : World.cell? w1 ⟨w.heap.size, 0, none⟩ = some (.int .u64 h1) := K0b.get 0 rfl
      have K0f0 := Blk.frozen K0b 0
      have K0c1 : World.cell? w1 ⟨w.heap.size, 1, none⟩ = some (.int .u64 l1) := K0b.get 1 rfl
      have K0f1 := Blk.frozen K0b 1
      have K0n := Blk.lt K0b
      have K1m : Blk w1 (w.heap.size + 1) 25 #[.int .u64 h2, .int .u64 l2] := Blk.next (by repeat (first | (refine Blk.new_at ?_; simp only [World.size_alloc]; done) | (with_reducible refine Blk.alloc ?_ _) | (with_reducible refine Blk.drewN ?_ _))) hb1
      have K1b := K1m
      clear K1m
      have K1c0 : World.cell? w1 ⟨w.heap.size + 1, 0, none⟩ = some (.int .u64 h2) := K1b.get 0 rfl
      have K1f0 := Blk.frozen K1b 0
      have K1c1 : World.cell? w1 ⟨w.heap.size + 1, 1, none⟩ = some (.int .u64 l2) := K1b.get 1 rfl
      have K1f1 := Blk.frozen K1b 1
      have K1n := Blk.lt K1b
      have B1 : Below w.heap.size w w1 := by first | with_reducible exact hb1 | exact Below.trans (by go_grown) (hb1.mono (by simp only [World.size_alloc]; omega))
      clear hb1
      go_wp2_with fail
      with_reducible refine (M1.out _).mono ?_
      rintro e w2 ⟨rfl, hb2⟩
      have K0m : Blk w2 (w.heap.size) 25 #[.int .u64 h1, .int .u64 l1] := Blk.next (by repeat (first | (with_reducible exact K0b) | (refine Blk.new_at ?_; simp only [World.size_alloc]; done) | (with_reducible refine Blk.alloc ?_ _) | (with_reducible refine Blk.drewN ?_ _))) hb2
      clear K0n K0b K0c0 K0f0 K0c1 K0f1
      have K0b := K0m
      clear K0m
      have K0c0 : World.cell? w2 ⟨w.heap.size, 0, none⟩ = some (.int .u64 h1) := K0b.get 0 rfl
      have K0f0 := Blk.frozen K0b 0
      have K0c1 : World.cell? w2 ⟨w.heap.size, 1, none⟩ = some (.int .u64 l1) := K0b.get 1 rfl
      have K0f1 := Blk.frozen K0b 1
      have K0n := Blk.lt K0b
      have K1m : Blk w2 (w.heap.size + 1) 25 #[.int .u64 h2, .int .u64 l2] := Blk.next (by repeat (first | (with_reducible exact K1b) | (refine Blk.new_at ?_; simp only [World.size_alloc]; done) | (with_reducible refine Blk.alloc ?_ _) | (with_reducible refine Blk.drewN ?_ _))) hb2
      clear K1n K1b K1c0 K1f0 K1c1 K1f1
      have K1b := K1m
      clear K1m
      have K1c0 : World.cell? w2 ⟨w.heap.size + 1, 0, none⟩ = some (.int .u64 h2) := K1b.get 0 rfl
      have K1f0 := Blk.frozen K1b 0
      have K1c1 : World.cell? w2 ⟨w.heap.size + 1, 1, none⟩ = some (.int .u64 l2) := K1b.get 1 rfl
      have K1f1 := Blk.frozen K1b 1
      have K1n := Blk.lt K1b
      have KSm : Blk w2 (w1.heap.size) 25 #[.int .u64 1, .int .u64 s] := Blk.next (by repeat (first | (refine Blk.new_at ?_; simp only [World.size_alloc]; done) | (with_reducible refine Blk.alloc ?_ _) | (with_reducible refine Blk.drewN ?_ _))) hb2
      have KSb := KSm
      clear KSm
      have KSc0 : World.cell? w2 ⟨w1.heap.size, 0, none⟩ = some (.int .u64 1) := KSb.get 0 rfl
      have KSf0 := Blk.frozen KSb 0
      have KSc1 : World.cell? w2 ⟨w1.heap.size, 1, none⟩ = some (.int .u64 s) := KSb.get 1 rfl
      have KSf1 := Blk.frozen KSb 1
      have KSn := Blk.lt KSb
      have B2 : Below w.heap.size w w2 := by first | with_reducible exact below_next B1 hb2 | exact below_step B1 (by go_grown) hb2
      clear hb2 B1
      go_wp2_with fail
      with_reducible refine (M2.out _).mono ?_
      rintro e w3 ⟨rfl, hb3⟩
      have K0m : Blk w3 (w.heap.size) 25 #[.int .u64 h1, .int .u64 l1] := Blk.next (by repeat (first | (with_reducible exact K0b) | (refine Blk.new_at ?_; simp only [World.size_alloc]; done) | (with_reducible refine Blk.alloc ?_ _) | (with_reducible refine Blk.drewN ?_ _))) hb3
      clear K0n K0b K0c0 K0f0 K0c1 K0f1
      have K0b := K0m
      clear K0m
      have K0c0 : World.cell? w3 ⟨w.heap.size, 0, none⟩ = some (.int .u64 h1) := K0b.get 0 rfl
      have K0f0 := Blk.frozen K0b 0
      have K0c1 : World.cell? w3 ⟨w.heap.size, 1, none⟩ = some (.int .u64 l1) := K0b.get 1 rfl
      have K0f1 := Blk.frozen K0b 1
      have K0n := Blk.lt K0b
      have K1m : Blk w3 (w.heap.size + 1) 25 #[.int .u64 h2, .int .u64 l2] := Blk.next (by repeat (first | (with_reducible exact K1b) | (refine Blk.new_at ?_; simp only [World.size_alloc]; done) | (with_reducible refine Blk.alloc ?_ _) | (with_reducible refine Blk.drewN ?_ _))) hb3
      clear K1n K1b K1c0 K1f0 K1c1 K1f1
      have K1b := K1m
      clear K1m
      have K1c0 : World.cell? w3 ⟨w.heap.size + 1, 0, none⟩ = some (.int .u64 h2) := K1b.get 0 rfl
      have K1f0 := Blk.frozen K1b 0
      have K1c1 : World.cell? w3 ⟨w.heap.size + 1, 1, none⟩ = some (.int .u64 l2) := K1b.get 1 rfl
      have K1f1 := Blk.frozen K1b 1
      have K1n := Blk.lt K1b
      have KSm : Blk w3 (w1.heap.size) 25 #[.int .u64 1, .int .u64 s] := Blk.next (by repeat (first | (with_reducible exact KSb) | (refine Blk.new_at ?_; simp only [World.size_alloc]; done) | (with_reducible refine Blk.alloc ?_ _) | (with_reducible refine Blk.drewN ?_ _))) hb3
      clear KSn KSb KSc0 KSf0 KSc1 KSf1
      have KSb := KSm
      clear KSm
      have KSc0 : World.cell? w3 ⟨w1.heap.size, 0, none⟩ = some (.int .u64 1) := KSb.get 0 rfl
      have KSf0 := Blk.frozen KSb 0
      have KSc1 : World.cell? w3 ⟨w1.heap.size, 1, none⟩ = some (.int .u64 s) := KSb.get 1 rfl
      have KSf1 := Blk.frozen KSb 1
      have KSn := Blk.lt KSb
      have B3 : Below w.heap.size w w3 := by first | with_reducible exact below_next B2 hb3 | exact below_step B2 (by go_grown) hb3
      clear hb3 B2
      go_wp2_with fail
      with_reducible refine (P1.out _).mono ?_
      rintro e w4 ⟨rfl, hb4⟩
      have K0m : Blk w4 (w.heap.size) 25 #[.int .u64 h1, .int .u64 l1] := Blk.next (by repeat (first | (with_reducible exact K0b) | (refine Blk.new_at ?_; simp only [World.size_alloc]; done) | (with_reducible refine Blk.alloc ?_ _) | (with_reducible refine Blk.drewN ?_ _))) hb4
      clear K0n K0b K0c0 K0f0 K0c1 K0f1
      have K0b := K0m
      clear K0m
      have K0c0 : World.cell? w4 ⟨w.heap.size, 0, none⟩ = some (.int .u64 h1) := K0b.get 0 rfl
      have K0f0 := Blk.frozen K0b 0
      have K0c1 : World.cell? w4 ⟨w.heap.size, 1, none⟩ = some (.int .u64 l1) := K0b.get 1 rfl
      have K0f1 := Blk.frozen K0b 1
      have K0n := Blk.lt K0b
      have K1m : Blk w4 (w.heap.size + 1) 25 #[.int .u64 h2, .int .u64 l2] := Blk.next (by repeat (first | (with_reducible exact K1b) | (refine Blk.new_at ?_; simp only [World.size_alloc]; done) | (with_reducible refine Blk.alloc ?_ _) | (with_reducible refine Blk.drewN ?_ _))) hb4
      clear K1n K1b K1c0 K1f0 K1c1 K1f1
      have K1b := K1m
      clear K1m
      have K1c0 : World.cell? w4 ⟨w.heap.size + 1, 0, none⟩ = some (.int .u64 h2) := K1b.get 0 rfl
      have K1f0 := Blk.frozen K1b 0
      have K1c1 : World.cell? w4 ⟨w.heap.size + 1, 1, none⟩ = some (.int .u64 l2) := K1b.get 1 rfl
      have K1f1 := Blk.frozen K1b 1
      have K1n := Blk.lt K1b
      have KSm : Blk w4 (w1.heap.size) 25 #[.int .u64 1, .int .u64 s] := Blk.next (by repeat (first | (with_reducible exact KSb) | (refine Blk.new_at ?_; simp only [World.size_alloc]; done) | (with_reducible refine Blk.alloc ?_ _) | (with_reducible refine Blk.drewN ?_ _))) hb4
      clear KSn KSb KSc0 KSf0 KSc1 KSf1
      have KSb := KSm
      clear KSm
      have KSc0 : World.cell? w4 ⟨w1.heap.size, 0, none⟩ = some (.int .u64 1) := KSb.get 0 rfl
      have KSf0 := Blk.frozen KSb 0
      have KSc1 : World.cell? w4 ⟨w1.heap.size, 1, none⟩ = some (.int .u64 s) := KSb.get 1 rfl
      have KSf1 := Blk.frozen KSb 1
      have KSn := Blk.lt KSb
      have B4 : Below w.heap.size w w4 := by first | with_reducible exact below_next B3 hb4 | exact below_step B3 (by go_grown) hb4
      clear hb4 B3
      go_wp2_with fail
      have G0 := Blk.alloc K0b (.cells #[.int .u64 pH, .int .u64 pL] 25)
      have G1 := Blk.alloc K1b (.cells #[.int .u64 pH, .int .u64 pL] 25)
      have GS := Blk.alloc KSb (.cells #[.int .u64 pH, .int .u64 pL] 25)
      have GP := Blk.new w4 25 #[.int .u64 pH, .int .u64 pL]
      have BB := B4.alloc B4.size (.cells #[.int .u64 pH, .int .u64 pL] 25)
      obtain ⟨w5, hw5⟩ : ∃ W, w4.alloc (.cells #[.int .u64 pH, .int .u64 pL] 25) = W := ⟨_, rfl⟩
      rw [hw5] at G0 G1 GS GP BB
      rw [hw5]
      clear hw5 K0b K0c0 K0c1 K0f0 K0f1 K0n K1b K1c0 K1c1 K1f0 K1f1 K1n KSb KSc0 KSc1 KSf0 KSf1 KSn B4
      have hs0 := GS.get 0 rfl
      have hlt5 := GS.lt
      have S5 : ∀ w', Below w5.heap.size w5 w' → w'.cell? ⟨w1.heap.size, 0, none⟩ = some (.int .u64 1) ∧ Below w5.heap.size w5 w' := fun w' hb => ⟨(hb.cell (p := ⟨w1.heap.size, 0, none⟩) hlt5).trans hs0, hb⟩
      have S6 := Lib.hid S5
      clear S5
      go_cut [15, 16] (fun qv ev wc => ∃ q : Nat, qv = .pointer (some ⟨q, 0, none⟩) ∧ ev = .int .i64 pE ∧ Blk wc q 25 #[.int .u64 pH, .int .u64 pL] ∧ Below w5.heap.size w5 wc)
      case first =>
        go_region_held3 (fun w' => w'.cell? ⟨w1.heap.size, 0, none⟩ = some (.int .u64 1) ∧ Below w5.heap.size w5 w') (first | (exact S6.out _ (Below.refl _ _)) | (exact S6.out _ (below_of_drew (Below.refl _ _))) | assumption | (exact S6.out _ hS7) | (exact S6.out _ (hS7.alloc hS7.size _)) | (exact S6.out _ (hS6.alloc hS6.size _)) | (exact S6.out _ hS6) | (exact S6.out _ (balloc5 w1.heap.size (.int .u64 1) ‹_› _)) | (exact S6.out _ ((below_of_drew (Below.refl _ _)).alloc (Nat.le_refl _) _)) | (exact S6.out _ (hS7.setCell (by first | exact Nat.le_refl _ | exact hS6.size) _)) | (exact S6.out _ ((hS7.setCell (by first | exact Nat.le_refl _ | exact hS6.size) _).setCell (by first | exact Nat.le_refl _ | exact hS6.size) _)))
          (first | ((with_reducible refine (M3.out _).mono ?_); rintro e w6 ⟨rfl, hb6⟩; have hS6 : Below w5.heap.size w5 w6 := (by first | (refine bnext5 w1.heap.size (.int .u64 1) ?_ hb6; with_reducible assumption) | exact below_next (below_of_drew (Below.refl _ _)) hb6 | exact below_next ((below_of_drew (Below.refl _ _)).alloc (Nat.le_refl _) _) hb6); (try (have Y : Blk w6 w5.heap.size 25 #[.int .u64 0, .int .u64 0] := Blk.next (Blk.new w5.drew 25 #[.int .u64 0, .int .u64 0]) hb6; have Y0 : World.cell? w6 ⟨w5.heap.size, 0, none⟩ = some (.int .u64 0) := Y.get 0 rfl; have Y1 : World.cell? w6 ⟨w5.heap.size, 1, none⟩ = some (.int .u64 0) := Y.get 1 rfl; have Y2 : World.frozen? w6 ⟨w5.heap.size, 0, none⟩ = false := Y.frozen 0; have Y3 : World.frozen? w6 ⟨w5.heap.size, 1, none⟩ = false := Y.frozen 1; have Y4 := Y.lt))) | ((with_reducible refine (P2.out _).mono ?_); rintro e w7 ⟨rfl, hb7⟩; have hS7 : Below w5.heap.size w5 w7 := (by first | (refine bnext5 w1.heap.size (.int .u64 1) ?_ hb7; assumption) | exact below_next hS6 hb7); (first | (have Y : Blk w7 w5.heap.size 25 #[.int .u64 0, .int .u64 0] := Blk.next Y hb7; have Y0 : World.cell? w7 ⟨w5.heap.size, 0, none⟩ = some (.int .u64 0) := Y.get 0 rfl; have Y1 : World.cell? w7 ⟨w5.heap.size, 1, none⟩ = some (.int .u64 0) := Y.get 1 rfl; have Y2 : World.frozen? w7 ⟨w5.heap.size, 0, none⟩ = false := Y.frozen 0; have Y3 : World.frozen? w7 ⟨w5.heap.size, 1, none⟩ = false := Y.frozen 1; have Y4 := Y.lt) | (have Y : Blk w7 w6.heap.size 25 #[.int .u64 0, .int .u64 0] := Blk.next (Blk.new w6 25 #[.int .u64 0, .int .u64 0]) hb7; have Y0 : World.cell? w7 ⟨w6.heap.size, 0, none⟩ = some (.int .u64 0) := Y.get 0 rfl; have Y1 : World.cell? w7 ⟨w6.heap.size, 1, none⟩ = some (.int .u64 0) := Y.get 1 rfl; have Y2 : World.frozen? w7 ⟨w6.heap.size, 0, none⟩ = false := Y.frozen 0; have Y3 : World.frozen? w7 ⟨w6.heap.size, 1, none⟩ = false := Y.frozen 1; have Y4 := Y.lt) | skip)))
        all_goals go_wp2_with fail
        all_goals go_meet
        all_goals first
          | exact ⟨_, rfl, rfl, Blk.new w7 _ _, hS7.alloc hS7.size _⟩
          | exact ⟨_, rfl, rfl, Blk.put (Blk.put Y 0 _) 1 _, (hS7.setCell (Nat.le_refl _) _).setCell (Nat.le_refl _) _⟩
          | exact ⟨_, rfl, rfl, Blk.put (Blk.put Y 0 _) 1 _, (hS7.setCell hS6.size _).setCell hS6.size _⟩
      case rest =>
        obtain ⟨q, rfl, rfl, KQb, hbc⟩ := hcut
        obtain ⟨w7, rfl⟩ : ∃ x, x = wc := ⟨_, rfl⟩
        have B7 := below_next BB hbc
        have K0b : Blk w7 (w.heap.size) 25 #[.int .u64 h1, .int .u64 l1] := Blk.next G0 hbc
        have K0c0 : World.cell? w7 ⟨w.heap.size, 0, none⟩ = some (.int .u64 h1) := K0b.get 0 rfl
        have K0f0 := Blk.frozen K0b 0
        have K0c1 : World.cell? w7 ⟨w.heap.size, 1, none⟩ = some (.int .u64 l1) := K0b.get 1 rfl
        have K0f1 := Blk.frozen K0b 1
        have K0n := Blk.lt K0b
        have K1b : Blk w7 (w.heap.size + 1) 25 #[.int .u64 h2, .int .u64 l2] := Blk.next G1 hbc
        have K1c0 : World.cell? w7 ⟨w.heap.size + 1, 0, none⟩ = some (.int .u64 h2) := K1b.get 0 rfl
        have K1f0 := Blk.frozen K1b 0
        have K1c1 : World.cell? w7 ⟨w.heap.size + 1, 1, none⟩ = some (.int .u64 l2) := K1b.get 1 rfl
        have K1f1 := Blk.frozen K1b 1
        have K1n := Blk.lt K1b
        have KPb : Blk w7 (w4.heap.size) 25 #[.int .u64 pH, .int .u64 pL] := Blk.next GP hbc
        have KPc0 : World.cell? w7 ⟨w4.heap.size, 0, none⟩ = some (.int .u64 pH) := KPb.get 0 rfl
        have KPf0 := Blk.frozen KPb 0
        have KPc1 : World.cell? w7 ⟨w4.heap.size, 1, none⟩ = some (.int .u64 pL) := KPb.get 1 rfl
        have KPf1 := Blk.frozen KPb 1
        have KPn := Blk.lt KPb
        have KQb : Blk w7 (q) 25 #[.int .u64 pH, .int .u64 pL] := KQb
        have KQc0 : World.cell? w7 ⟨q, 0, none⟩ = some (.int .u64 pH) := KQb.get 0 rfl
        have KQf0 := Blk.frozen KQb 0
        have KQc1 : World.cell? w7 ⟨q, 1, none⟩ = some (.int .u64 pL) := KQb.get 1 rfl
        have KQf1 := Blk.frozen KQb 1
        have KQn := Blk.lt KQb
        clear G0 G1 GS GP BB hs0 hlt5 hbc S6
        go_wp2_with fail
        with_reducible refine (M1.out _).mono ?_
        rintro e w8 ⟨rfl, hb8⟩
        have K0m : Blk w8 (w.heap.size) 25 #[.int .u64 h1, .int .u64 l1] := Blk.next (by repeat (first | (with_reducible exact K0b) | (refine Blk.new_at ?_; simp only [World.size_alloc]; done) | (with_reducible refine Blk.alloc ?_ _) | (with_reducible refine Blk.drewN ?_ _))) hb8
        clear K0n K0b K0c0 K0f0 K0c1 K0f1
        have K0b := K0m
        clear K0m
        have K0c0 : World.cell? w8 ⟨w.heap.size, 0, none⟩ = some (.int .u64 h1) := K0b.get 0 rfl
        have K0f0 := Blk.frozen K0b 0
        have K0c1 : World.cell? w8 ⟨w.heap.size, 1, none⟩ = some (.int .u64 l1) := K0b.get 1 rfl
        have K0f1 := Blk.frozen K0b 1
        have K0n := Blk.lt K0b
        have K1m : Blk w8 (w.heap.size + 1) 25 #[.int .u64 h2, .int .u64 l2] := Blk.next (by repeat (first | (with_reducible exact K1b) | (refine Blk.new_at ?_; simp only [World.size_alloc]; done) | (with_reducible refine Blk.alloc ?_ _) | (with_reducible refine Blk.drewN ?_ _))) hb8
        clear K1n K1b K1c0 K1f0 K1c1 K1f1
        have K1b := K1m
        clear K1m
        have K1c0 : World.cell? w8 ⟨w.heap.size + 1, 0, none⟩ = some (.int .u64 h2) := K1b.get 0 rfl
        have K1f0 := Blk.frozen K1b 0
        have K1c1 : World.cell? w8 ⟨w.heap.size + 1, 1, none⟩ = some (.int .u64 l2) := K1b.get 1 rfl
        have K1f1 := Blk.frozen K1b 1
        have K1n := Blk.lt K1b
        have KPm : Blk w8 (w4.heap.size) 25 #[.int .u64 pH, .int .u64 pL] := Blk.next (by repeat (first | (with_reducible exact KPb) | (refine Blk.new_at ?_; simp only [World.size_alloc]; done) | (with_reducible refine Blk.alloc ?_ _) | (with_reducible refine Blk.drewN ?_ _))) hb8
        clear KPn KPb KPc0 KPf0 KPc1 KPf1
        have KPb := KPm
        clear KPm
        have KPc0 : World.cell? w8 ⟨w4.heap.size, 0, none⟩ = some (.int .u64 pH) := KPb.get 0 rfl
        have KPf0 := Blk.frozen KPb 0
        have KPc1 : World.cell? w8 ⟨w4.heap.size, 1, none⟩ = some (.int .u64 pL) := KPb.get 1 rfl
        have KPf1 := Blk.frozen KPb 1
        have KPn := Blk.lt KPb
        have KQm : Blk w8 (q) 25 #[.int .u64 pH, .int .u64 pL] := Blk.next (by repeat (first | (with_reducible exact KQb) | (refine Blk.new_at ?_; simp only [World.size_alloc]; done) | (with_reducible refine Blk.alloc ?_ _) | (with_reducible refine Blk.drewN ?_ _))) hb8
        clear KQn KQb KQc0 KQf0 KQc1 KQf1
        have KQb := KQm
        clear KQm
        have KQc0 : World.cell? w8 ⟨q, 0, none⟩ = some (.int .u64 pH) := KQb.get 0 rfl
        have KQf0 := Blk.frozen KQb 0
        have KQc1 : World.cell? w8 ⟨q, 1, none⟩ = some (.int .u64 pL) := KQb.get 1 rfl
        have KQf1 := Blk.frozen KQb 1
        have KQn := Blk.lt KQb
        have B8 : Below w.heap.size w w8 := by first | with_reducible exact below_next B7 hb8 | exact below_step B7 (by go_grown) hb8
        clear hb8 B7
        go_wp2_with fail
        with_reducible refine (M4.out _).mono ?_
        rintro e w9 ⟨rfl, hb9⟩
        have K0m : Blk w9 (w.heap.size) 25 #[.int .u64 h1, .int .u64 l1] := Blk.next (by repeat (first | (with_reducible exact K0b) | (refine Blk.new_at ?_; simp only [World.size_alloc]; done) | (with_reducible refine Blk.alloc ?_ _) | (with_reducible refine Blk.drewN ?_ _))) hb9
        clear K0n K0b K0c0 K0f0 K0c1 K0f1
        have K0b := K0m
        clear K0m
        have K0c0 : World.cell? w9 ⟨w.heap.size, 0, none⟩ = some (.int .u64 h1) := K0b.get 0 rfl
        have K0f0 := Blk.frozen K0b 0
        have K0c1 : World.cell? w9 ⟨w.heap.size, 1, none⟩ = some (.int .u64 l1) := K0b.get 1 rfl
        have K0f1 := Blk.frozen K0b 1
        have K0n := Blk.lt K0b
        have K1m : Blk w9 (w.heap.size + 1) 25 #[.int .u64 h2, .int .u64 l2] := Blk.next (by repeat (first | (with_reducible exact K1b) | (refine Blk.new_at ?_; simp only [World.size_alloc]; done) | (with_reducible refine Blk.alloc ?_ _) | (with_reducible refine Blk.drewN ?_ _))) hb9
        clear K1n K1b K1c0 K1f0 K1c1 K1f1
        have K1b := K1m
        clear K1m
        have K1c0 : World.cell? w9 ⟨w.heap.size + 1, 0, none⟩ = some (.int .u64 h2) := K1b.get 0 rfl
        have K1f0 := Blk.frozen K1b 0
        have K1c1 : World.cell? w9 ⟨w.heap.size + 1, 1, none⟩ = some (.int .u64 l2) := K1b.get 1 rfl
        have K1f1 := Blk.frozen K1b 1
        have K1n := Blk.lt K1b
        have KPm : Blk w9 (w4.heap.size) 25 #[.int .u64 pH, .int .u64 pL] := Blk.next (by repeat (first | (with_reducible exact KPb) | (refine Blk.new_at ?_; simp only [World.size_alloc]; done) | (with_reducible refine Blk.alloc ?_ _) | (with_reducible refine Blk.drewN ?_ _))) hb9
        clear KPn KPb KPc0 KPf0 KPc1 KPf1
        have KPb := KPm
        clear KPm
        have KPc0 : World.cell? w9 ⟨w4.heap.size, 0, none⟩ = some (.int .u64 pH) := KPb.get 0 rfl
        have KPf0 := Blk.frozen KPb 0
        have KPc1 : World.cell? w9 ⟨w4.heap.size, 1, none⟩ = some (.int .u64 pL) := KPb.get 1 rfl
        have KPf1 := Blk.frozen KPb 1
        have KPn := Blk.lt KPb
        have KQm : Blk w9 (q) 25 #[.int .u64 pH, .int .u64 pL] := Blk.next (by repeat (first | (with_reducible exact KQb) | (refine Blk.new_at ?_; simp only [World.size_alloc]; done) | (with_reducible refine Blk.alloc ?_ _) | (with_reducible refine Blk.drewN ?_ _))) hb9
        clear KQn KQb KQc0 KQf0 KQc1 KQf1
        have KQb := KQm
        clear KQm
        have KQc0 : World.cell? w9 ⟨q, 0, none⟩ = some (.int .u64 pH) := KQb.get 0 rfl
        have KQf0 := Blk.frozen KQb 0
        have KQc1 : World.cell? w9 ⟨q, 1, none⟩ = some (.int .u64 pL) := KQb.get 1 rfl
        have KQf1 := Blk.frozen KQb 1
        have KQn := Blk.lt KQb
        have B9 : Below w.heap.size w w9 := by first | with_reducible exact below_next B8 hb9 | exact below_step B8 (by go_grown) hb9
        clear hb9 B8
        go_wp2_with fail
        with_reducible refine (M5.out _).mono ?_
        rintro e w10 ⟨rfl, hb10⟩
        have K0m : Blk w10 (w.heap.size) 25 #[.int .u64 h1, .int .u64 l1] := Blk.next (by repeat (first | (with_reducible exact K0b) | (refine Blk.new_at ?_; simp only [World.size_alloc]; done) | (with_reducible refine Blk.alloc ?_ _) | (with_reducible refine Blk.drewN ?_ _))) hb10
        clear K0n K0b K0c0 K0f0 K0c1 K0f1
        have K0b := K0m
        clear K0m
        have K0c0 : World.cell? w10 ⟨w.heap.size, 0, none⟩ = some (.int .u64 h1) := K0b.get 0 rfl
        have K0f0 := Blk.frozen K0b 0
        have K0c1 : World.cell? w10 ⟨w.heap.size, 1, none⟩ = some (.int .u64 l1) := K0b.get 1 rfl
        have K0f1 := Blk.frozen K0b 1
        have K0n := Blk.lt K0b
        have K1m : Blk w10 (w.heap.size + 1) 25 #[.int .u64 h2, .int .u64 l2] := Blk.next (by repeat (first | (with_reducible exact K1b) | (refine Blk.new_at ?_; simp only [World.size_alloc]; done) | (with_reducible refine Blk.alloc ?_ _) | (with_reducible refine Blk.drewN ?_ _))) hb10
        clear K1n K1b K1c0 K1f0 K1c1 K1f1
        have K1b := K1m
        clear K1m
        have K1c0 : World.cell? w10 ⟨w.heap.size + 1, 0, none⟩ = some (.int .u64 h2) := K1b.get 0 rfl
        have K1f0 := Blk.frozen K1b 0
        have K1c1 : World.cell? w10 ⟨w.heap.size + 1, 1, none⟩ = some (.int .u64 l2) := K1b.get 1 rfl
        have K1f1 := Blk.frozen K1b 1
        have K1n := Blk.lt K1b
        have KPm : Blk w10 (w4.heap.size) 25 #[.int .u64 pH, .int .u64 pL] := Blk.next (by repeat (first | (with_reducible exact KPb) | (refine Blk.new_at ?_; simp only [World.size_alloc]; done) | (with_reducible refine Blk.alloc ?_ _) | (with_reducible refine Blk.drewN ?_ _))) hb10
        clear KPn KPb KPc0 KPf0 KPc1 KPf1
        have KPb := KPm
        clear KPm
        have KPc0 : World.cell? w10 ⟨w4.heap.size, 0, none⟩ = some (.int .u64 pH) := KPb.get 0 rfl
        have KPf0 := Blk.frozen KPb 0
        have KPc1 : World.cell? w10 ⟨w4.heap.size, 1, none⟩ = some (.int .u64 pL) := KPb.get 1 rfl
        have KPf1 := Blk.frozen KPb 1
        have KPn := Blk.lt KPb
        have KQm : Blk w10 (q) 25 #[.int .u64 pH, .int .u64 pL] := Blk.next (by repeat (first | (with_reducible exact KQb) | (refine Blk.new_at ?_; simp only [World.size_alloc]; done) | (with_reducible refine Blk.alloc ?_ _) | (with_reducible refine Blk.drewN ?_ _))) hb10
        clear KQn KQb KQc0 KQf0 KQc1 KQf1
        have KQb := KQm
        clear KQm
        have KQc0 : World.cell? w10 ⟨q, 0, none⟩ = some (.int .u64 pH) := KQb.get 0 rfl
        have KQf0 := Blk.frozen KQb 0
        have KQc1 : World.cell? w10 ⟨q, 1, none⟩ = some (.int .u64 pL) := KQb.get 1 rfl
        have KQf1 := Blk.frozen KQb 1
        have KQn := Blk.lt KQb
        have B10 : Below w.heap.size w w10 := by first | with_reducible exact below_next B9 hb10 | exact below_step B9 (by go_grown) hb10
        clear hb10 B9
        go_wp2_with fail
        with_reducible refine (M6.out _).mono ?_
        rintro e w11 ⟨rfl, hb11⟩
        have K0m : Blk w11 (w.heap.size) 25 #[.int .u64 h1, .int .u64 l1] := Blk.next (by repeat (first | (with_reducible exact K0b) | (refine Blk.new_at ?_; simp only [World.size_alloc]; done) | (with_reducible refine Blk.alloc ?_ _) | (with_reducible refine Blk.drewN ?_ _))) hb11
        clear K0n K0b K0c0 K0f0 K0c1 K0f1
        have K0b := K0m
        clear K0m
        have K0c0 : World.cell? w11 ⟨w.heap.size, 0, none⟩ = some (.int .u64 h1) := K0b.get 0 rfl
        have K0f0 := Blk.frozen K0b 0
        have K0c1 : World.cell? w11 ⟨w.heap.size, 1, none⟩ = some (.int .u64 l1) := K0b.get 1 rfl
        have K0f1 := Blk.frozen K0b 1
        have K0n := Blk.lt K0b
        have K1m : Blk w11 (w.heap.size + 1) 25 #[.int .u64 h2, .int .u64 l2] := Blk.next (by repeat (first | (with_reducible exact K1b) | (refine Blk.new_at ?_; simp only [World.size_alloc]; done) | (with_reducible refine Blk.alloc ?_ _) | (with_reducible refine Blk.drewN ?_ _))) hb11
        clear K1n K1b K1c0 K1f0 K1c1 K1f1
        have K1b := K1m
        clear K1m
        have K1c0 : World.cell? w11 ⟨w.heap.size + 1, 0, none⟩ = some (.int .u64 h2) := K1b.get 0 rfl
        have K1f0 := Blk.frozen K1b 0
        have K1c1 : World.cell? w11 ⟨w.heap.size + 1, 1, none⟩ = some (.int .u64 l2) := K1b.get 1 rfl
        have K1f1 := Blk.frozen K1b 1
        have K1n := Blk.lt K1b
        have KPm : Blk w11 (w4.heap.size) 25 #[.int .u64 pH, .int .u64 pL] := Blk.next (by repeat (first | (with_reducible exact KPb) | (refine Blk.new_at ?_; simp only [World.size_alloc]; done) | (with_reducible refine Blk.alloc ?_ _) | (with_reducible refine Blk.drewN ?_ _))) hb11
        clear KPn KPb KPc0 KPf0 KPc1 KPf1
        have KPb := KPm
        clear KPm
        have KPc0 : World.cell? w11 ⟨w4.heap.size, 0, none⟩ = some (.int .u64 pH) := KPb.get 0 rfl
        have KPf0 := Blk.frozen KPb 0
        have KPc1 : World.cell? w11 ⟨w4.heap.size, 1, none⟩ = some (.int .u64 pL) := KPb.get 1 rfl
        have KPf1 := Blk.frozen KPb 1
        have KPn := Blk.lt KPb
        have KQm : Blk w11 (q) 25 #[.int .u64 pH, .int .u64 pL] := Blk.next (by repeat (first | (with_reducible exact KQb) | (refine Blk.new_at ?_; simp only [World.size_alloc]; done) | (with_reducible refine Blk.alloc ?_ _) | (with_reducible refine Blk.drewN ?_ _))) hb11
        clear KQn KQb KQc0 KQf0 KQc1 KQf1
        have KQb := KQm
        clear KQm
        have KQc0 : World.cell? w11 ⟨q, 0, none⟩ = some (.int .u64 pH) := KQb.get 0 rfl
        have KQf0 := Blk.frozen KQb 0
        have KQc1 : World.cell? w11 ⟨q, 1, none⟩ = some (.int .u64 pL) := KQb.get 1 rfl
        have KQf1 := Blk.frozen KQb 1
        have KQn := Blk.lt KQb
        have B11 : Below w.heap.size w w11 := by first | with_reducible exact below_next B10 hb11 | exact below_step B10 (by go_grown) hb11
        clear hb11 B10
        go_wp2_with fail
        with_reducible refine (PW.out _).mono ?_
        rintro e w12 ⟨rfl, hb12⟩
        have K0m : Blk w12 (w.heap.size) 25 #[.int .u64 h1, .int .u64 l1] := Blk.next (by repeat (first | (with_reducible exact K0b) | (refine Blk.new_at ?_; simp only [World.size_alloc]; done) | (with_reducible refine Blk.alloc ?_ _) | (with_reducible refine Blk.drewN ?_ _))) hb12
        clear K0n K0b K0c0 K0f0 K0c1 K0f1
        have K0b := K0m
        clear K0m
        have K0c0 : World.cell? w12 ⟨w.heap.size, 0, none⟩ = some (.int .u64 h1) := K0b.get 0 rfl
        have K0f0 := Blk.frozen K0b 0
        have K0c1 : World.cell? w12 ⟨w.heap.size, 1, none⟩ = some (.int .u64 l1) := K0b.get 1 rfl
        have K0f1 := Blk.frozen K0b 1
        have K0n := Blk.lt K0b
        have K1m : Blk w12 (w.heap.size + 1) 25 #[.int .u64 h2, .int .u64 l2] := Blk.next (by repeat (first | (with_reducible exact K1b) | (refine Blk.new_at ?_; simp only [World.size_alloc]; done) | (with_reducible refine Blk.alloc ?_ _) | (with_reducible refine Blk.drewN ?_ _))) hb12
        clear K1n K1b K1c0 K1f0 K1c1 K1f1
        have K1b := K1m
        clear K1m
        have K1c0 : World.cell? w12 ⟨w.heap.size + 1, 0, none⟩ = some (.int .u64 h2) := K1b.get 0 rfl
        have K1f0 := Blk.frozen K1b 0
        have K1c1 : World.cell? w12 ⟨w.heap.size + 1, 1, none⟩ = some (.int .u64 l2) := K1b.get 1 rfl
        have K1f1 := Blk.frozen K1b 1
        have K1n := Blk.lt K1b
        have KPm : Blk w12 (w4.heap.size) 25 #[.int .u64 pH, .int .u64 pL] := Blk.next (by repeat (first | (with_reducible exact KPb) | (refine Blk.new_at ?_; simp only [World.size_alloc]; done) | (with_reducible refine Blk.alloc ?_ _) | (with_reducible refine Blk.drewN ?_ _))) hb12
        clear KPn KPb KPc0 KPf0 KPc1 KPf1
        have KPb := KPm
        clear KPm
        have KPc0 : World.cell? w12 ⟨w4.heap.size, 0, none⟩ = some (.int .u64 pH) := KPb.get 0 rfl
        have KPf0 := Blk.frozen KPb 0
        have KPc1 : World.cell? w12 ⟨w4.heap.size, 1, none⟩ = some (.int .u64 pL) := KPb.get 1 rfl
        have KPf1 := Blk.frozen KPb 1
        have KPn := Blk.lt KPb
        have KQm : Blk w12 (q) 25 #[.int .u64 pH, .int .u64 pL] := Blk.next (by repeat (first | (with_reducible exact KQb) | (refine Blk.new_at ?_; simp only [World.size_alloc]; done) | (with_reducible refine Blk.alloc ?_ _) | (with_reducible refine Blk.drewN ?_ _))) hb12
        clear KQn KQb KQc0 KQf0 KQc1 KQf1
        have KQb := KQm
        clear KQm
        have KQc0 : World.cell? w12 ⟨q, 0, none⟩ = some (.int .u64 pH) := KQb.get 0 rfl
        have KQf0 := Blk.frozen KQb 0
        have KQc1 : World.cell? w12 ⟨q, 1, none⟩ = some (.int .u64 pL) := KQb.get 1 rfl
        have KQf1 := Blk.frozen KQb 1
        have KQn := Blk.lt KQb
        have B12 : Below w.heap.size w w12 := by first | with_reducible exact below_next B11 hb12 | exact below_step B11 (by go_grown) hb12
        clear hb12 B11
        go_wp2_with fail
        with_reducible refine (D1.out _).mono ?_
        rintro e w13 ⟨rfl, hb13⟩
        have K0m : Blk w13 (w.heap.size) 25 #[.int .u64 h1, .int .u64 l1] := Blk.next (by repeat (first | (with_reducible exact K0b) | (refine Blk.new_at ?_; simp only [World.size_alloc]; done) | (with_reducible refine Blk.alloc ?_ _) | (with_reducible refine Blk.drewN ?_ _))) hb13
        clear K0n K0b K0c0 K0f0 K0c1 K0f1
        have K0b := K0m
        clear K0m
        have K0c0 : World.cell? w13 ⟨w.heap.size, 0, none⟩ = some (.int .u64 h1) := K0b.get 0 rfl
        have K0f0 := Blk.frozen K0b 0
        have K0c1 : World.cell? w13 ⟨w.heap.size, 1, none⟩ = some (.int .u64 l1) := K0b.get 1 rfl
        have K0f1 := Blk.frozen K0b 1
        have K0n := Blk.lt K0b
        have K1m : Blk w13 (w.heap.size + 1) 25 #[.int .u64 h2, .int .u64 l2] := Blk.next (by repeat (first | (with_reducible exact K1b) | (refine Blk.new_at ?_; simp only [World.size_alloc]; done) | (with_reducible refine Blk.alloc ?_ _) | (with_reducible refine Blk.drewN ?_ _))) hb13
        clear K1n K1b K1c0 K1f0 K1c1 K1f1
        have K1b := K1m
        clear K1m
        have K1c0 : World.cell? w13 ⟨w.heap.size + 1, 0, none⟩ = some (.int .u64 h2) := K1b.get 0 rfl
        have K1f0 := Blk.frozen K1b 0
        have K1c1 : World.cell? w13 ⟨w.heap.size + 1, 1, none⟩ = some (.int .u64 l2) := K1b.get 1 rfl
        have K1f1 := Blk.frozen K1b 1
        have K1n := Blk.lt K1b
        have KPm : Blk w13 (w4.heap.size) 25 #[.int .u64 pH, .int .u64 pL] := Blk.next (by repeat (first | (with_reducible exact KPb) | (refine Blk.new_at ?_; simp only [World.size_alloc]; done) | (with_reducible refine Blk.alloc ?_ _) | (with_reducible refine Blk.drewN ?_ _))) hb13
        clear KPn KPb KPc0 KPf0 KPc1 KPf1
        have KPb := KPm
        clear KPm
        have KPc0 : World.cell? w13 ⟨w4.heap.size, 0, none⟩ = some (.int .u64 pH) := KPb.get 0 rfl
        have KPf0 := Blk.frozen KPb 0
        have KPc1 : World.cell? w13 ⟨w4.heap.size, 1, none⟩ = some (.int .u64 pL) := KPb.get 1 rfl
        have KPf1 := Blk.frozen KPb 1
        have KPn := Blk.lt KPb
        have KQm : Blk w13 (q) 25 #[.int .u64 pH, .int .u64 pL] := Blk.next (by repeat (first | (with_reducible exact KQb) | (refine Blk.new_at ?_; simp only [World.size_alloc]; done) | (with_reducible refine Blk.alloc ?_ _) | (with_reducible refine Blk.drewN ?_ _))) hb13
        clear KQn KQb KQc0 KQf0 KQc1 KQf1
        have KQb := KQm
        clear KQm
        have KQc0 : World.cell? w13 ⟨q, 0, none⟩ = some (.int .u64 pH) := KQb.get 0 rfl
        have KQf0 := Blk.frozen KQb 0
        have KQc1 : World.cell? w13 ⟨q, 1, none⟩ = some (.int .u64 pL) := KQb.get 1 rfl
        have KQf1 := Blk.frozen KQb 1
        have KQn := Blk.lt KQb
        have KYm : Blk w13 (w12.heap.size) 25 #[.int .u64 yH, .int .u64 yL] := Blk.next (by repeat (first | (refine Blk.new_at ?_; simp only [World.size_alloc]; done) | (with_reducible refine Blk.alloc ?_ _) | (with_reducible refine Blk.drewN ?_ _))) hb13
        have KYb := KYm
        clear KYm
        have KYc0 : World.cell? w13 ⟨w12.heap.size, 0, none⟩ = some (.int .u64 yH) := KYb.get 0 rfl
        have KYf0 := Blk.frozen KYb 0
        have KYc1 : World.cell? w13 ⟨w12.heap.size, 1, none⟩ = some (.int .u64 yL) := KYb.get 1 rfl
        have KYf1 := Blk.frozen KYb 1
        have KYn := Blk.lt KYb
        have B13 : Below w.heap.size w w13 := by first | with_reducible exact below_next B12 hb13 | exact below_step B12 (by go_grown) hb13
        clear hb13 B12
        go_wp2_with fail
        with_reducible refine (D2.out _).mono ?_
        rintro e w14 ⟨rfl, hb14⟩
        have K0m : Blk w14 (w.heap.size) 25 #[.int .u64 h1, .int .u64 l1] := Blk.next (by repeat (first | (with_reducible exact K0b) | (refine Blk.new_at ?_; simp only [World.size_alloc]; done) | (with_reducible refine Blk.alloc ?_ _) | (with_reducible refine Blk.drewN ?_ _))) hb14
        clear K0n K0b K0c0 K0f0 K0c1 K0f1
        have K0b := K0m
        clear K0m
        have K0c0 : World.cell? w14 ⟨w.heap.size, 0, none⟩ = some (.int .u64 h1) := K0b.get 0 rfl
        have K0f0 := Blk.frozen K0b 0
        have K0c1 : World.cell? w14 ⟨w.heap.size, 1, none⟩ = some (.int .u64 l1) := K0b.get 1 rfl
        have K0f1 := Blk.frozen K0b 1
        have K0n := Blk.lt K0b
        have K1m : Blk w14 (w.heap.size + 1) 25 #[.int .u64 h2, .int .u64 l2] := Blk.next (by repeat (first | (with_reducible exact K1b) | (refine Blk.new_at ?_; simp only [World.size_alloc]; done) | (with_reducible refine Blk.alloc ?_ _) | (with_reducible refine Blk.drewN ?_ _))) hb14
        clear K1n K1b K1c0 K1f0 K1c1 K1f1
        have K1b := K1m
        clear K1m
        have K1c0 : World.cell? w14 ⟨w.heap.size + 1, 0, none⟩ = some (.int .u64 h2) := K1b.get 0 rfl
        have K1f0 := Blk.frozen K1b 0
        have K1c1 : World.cell? w14 ⟨w.heap.size + 1, 1, none⟩ = some (.int .u64 l2) := K1b.get 1 rfl
        have K1f1 := Blk.frozen K1b 1
        have K1n := Blk.lt K1b
        have KPm : Blk w14 (w4.heap.size) 25 #[.int .u64 pH, .int .u64 pL] := Blk.next (by repeat (first | (with_reducible exact KPb) | (refine Blk.new_at ?_; simp only [World.size_alloc]; done) | (with_reducible refine Blk.alloc ?_ _) | (with_reducible refine Blk.drewN ?_ _))) hb14
        clear KPn KPb KPc0 KPf0 KPc1 KPf1
        have KPb := KPm
        clear KPm
        have KPc0 : World.cell? w14 ⟨w4.heap.size, 0, none⟩ = some (.int .u64 pH) := KPb.get 0 rfl
        have KPf0 := Blk.frozen KPb 0
        have KPc1 : World.cell? w14 ⟨w4.heap.size, 1, none⟩ = some (.int .u64 pL) := KPb.get 1 rfl
        have KPf1 := Blk.frozen KPb 1
        have KPn := Blk.lt KPb
        have KQm : Blk w14 (q) 25 #[.int .u64 pH, .int .u64 pL] := Blk.next (by repeat (first | (with_reducible exact KQb) | (refine Blk.new_at ?_; simp only [World.size_alloc]; done) | (with_reducible refine Blk.alloc ?_ _) | (with_reducible refine Blk.drewN ?_ _))) hb14
        clear KQn KQb KQc0 KQf0 KQc1 KQf1
        have KQb := KQm
        clear KQm
        have KQc0 : World.cell? w14 ⟨q, 0, none⟩ = some (.int .u64 pH) := KQb.get 0 rfl
        have KQf0 := Blk.frozen KQb 0
        have KQc1 : World.cell? w14 ⟨q, 1, none⟩ = some (.int .u64 pL) := KQb.get 1 rfl
        have KQf1 := Blk.frozen KQb 1
        have KQn := Blk.lt KQb
        have KYm : Blk w14 (w12.heap.size) 25 #[.int .u64 yH, .int .u64 yL] := Blk.next (by repeat (first | (with_reducible exact KYb) | (refine Blk.new_at ?_; simp only [World.size_alloc]; done) | (with_reducible refine Blk.alloc ?_ _) | (with_reducible refine Blk.drewN ?_ _))) hb14
        clear KYn KYb KYc0 KYf0 KYc1 KYf1
        have KYb := KYm
        clear KYm
        have KYc0 : World.cell? w14 ⟨w12.heap.size, 0, none⟩ = some (.int .u64 yH) := KYb.get 0 rfl
        have KYf0 := Blk.frozen KYb 0
        have KYc1 : World.cell? w14 ⟨w12.heap.size, 1, none⟩ = some (.int .u64 yL) := KYb.get 1 rfl
        have KYf1 := Blk.frozen KYb 1
        have KYn := Blk.lt KYb
        have KZm : Blk w14 (w13.heap.size) 25 #[.int .u64 h1, .int .u64 l1] := Blk.next (by repeat (first | (refine Blk.new_at ?_; simp only [World.size_alloc]; done) | (with_reducible refine Blk.alloc ?_ _) | (with_reducible refine Blk.drewN ?_ _))) hb14
        have KZb := KZm
        clear KZm
        have KZc0 : World.cell? w14 ⟨w13.heap.size, 0, none⟩ = some (.int .u64 h1) := KZb.get 0 rfl
        have KZf0 := Blk.frozen KZb 0
        have KZc1 : World.cell? w14 ⟨w13.heap.size, 1, none⟩ = some (.int .u64 l1) := KZb.get 1 rfl
        have KZf1 := Blk.frozen KZb 1
        have KZn := Blk.lt KZb
        have B14 : Below w.heap.size w w14 := by first | with_reducible exact below_next B13 hb14 | exact below_step B13 (by go_grown) hb14
        clear hb14 B13
        go_wp2_with fail
        with_reducible refine (C3.out _).mono ?_
        rintro e w15 ⟨rfl, hb15⟩
        have K0m : Blk w15 (w.heap.size) 25 #[.int .u64 h1, .int .u64 l1] := Blk.next (by repeat (first | (with_reducible exact K0b) | (refine Blk.new_at ?_; simp only [World.size_alloc]; done) | (with_reducible refine Blk.alloc ?_ _) | (with_reducible refine Blk.drewN ?_ _))) hb15
        clear K0n K0b K0c0 K0f0 K0c1 K0f1
        have K0b := K0m
        clear K0m
        have K0c0 : World.cell? w15 ⟨w.heap.size, 0, none⟩ = some (.int .u64 h1) := K0b.get 0 rfl
        have K0f0 := Blk.frozen K0b 0
        have K0c1 : World.cell? w15 ⟨w.heap.size, 1, none⟩ = some (.int .u64 l1) := K0b.get 1 rfl
        have K0f1 := Blk.frozen K0b 1
        have K0n := Blk.lt K0b
        have K1m : Blk w15 (w.heap.size + 1) 25 #[.int .u64 h2, .int .u64 l2] := Blk.next (by repeat (first | (with_reducible exact K1b) | (refine Blk.new_at ?_; simp only [World.size_alloc]; done) | (with_reducible refine Blk.alloc ?_ _) | (with_reducible refine Blk.drewN ?_ _))) hb15
        clear K1n K1b K1c0 K1f0 K1c1 K1f1
        have K1b := K1m
        clear K1m
        have K1c0 : World.cell? w15 ⟨w.heap.size + 1, 0, none⟩ = some (.int .u64 h2) := K1b.get 0 rfl
        have K1f0 := Blk.frozen K1b 0
        have K1c1 : World.cell? w15 ⟨w.heap.size + 1, 1, none⟩ = some (.int .u64 l2) := K1b.get 1 rfl
        have K1f1 := Blk.frozen K1b 1
        have K1n := Blk.lt K1b
        have KPm : Blk w15 (w4.heap.size) 25 #[.int .u64 pH, .int .u64 pL] := Blk.next (by repeat (first | (with_reducible exact KPb) | (refine Blk.new_at ?_; simp only [World.size_alloc]; done) | (with_reducible refine Blk.alloc ?_ _) | (with_reducible refine Blk.drewN ?_ _))) hb15
        clear KPn KPb KPc0 KPf0 KPc1 KPf1
        have KPb := KPm
        clear KPm
        have KPc0 : World.cell? w15 ⟨w4.heap.size, 0, none⟩ = some (.int .u64 pH) := KPb.get 0 rfl
        have KPf0 := Blk.frozen KPb 0
        have KPc1 : World.cell? w15 ⟨w4.heap.size, 1, none⟩ = some (.int .u64 pL) := KPb.get 1 rfl
        have KPf1 := Blk.frozen KPb 1
        have KPn := Blk.lt KPb
        have KQm : Blk w15 (q) 25 #[.int .u64 pH, .int .u64 pL] := Blk.next (by repeat (first | (with_reducible exact KQb) | (refine Blk.new_at ?_; simp only [World.size_alloc]; done) | (with_reducible refine Blk.alloc ?_ _) | (with_reducible refine Blk.drewN ?_ _))) hb15
        clear KQn KQb KQc0 KQf0 KQc1 KQf1
        have KQb := KQm
        clear KQm
        have KQc0 : World.cell? w15 ⟨q, 0, none⟩ = some (.int .u64 pH) := KQb.get 0 rfl
        have KQf0 := Blk.frozen KQb 0
        have KQc1 : World.cell? w15 ⟨q, 1, none⟩ = some (.int .u64 pL) := KQb.get 1 rfl
        have KQf1 := Blk.frozen KQb 1
        have KQn := Blk.lt KQb
        have KYm : Blk w15 (w12.heap.size) 25 #[.int .u64 yH, .int .u64 yL] := Blk.next (by repeat (first | (with_reducible exact KYb) | (refine Blk.new_at ?_; simp only [World.size_alloc]; done) | (with_reducible refine Blk.alloc ?_ _) | (with_reducible refine Blk.drewN ?_ _))) hb15
        clear KYn KYb KYc0 KYf0 KYc1 KYf1
        have KYb := KYm
        clear KYm
        have KYc0 : World.cell? w15 ⟨w12.heap.size, 0, none⟩ = some (.int .u64 yH) := KYb.get 0 rfl
        have KYf0 := Blk.frozen KYb 0
        have KYc1 : World.cell? w15 ⟨w12.heap.size, 1, none⟩ = some (.int .u64 yL) := KYb.get 1 rfl
        have KYf1 := Blk.frozen KYb 1
        have KYn := Blk.lt KYb
        have KZm : Blk w15 (w13.heap.size) 25 #[.int .u64 h1, .int .u64 l1] := Blk.next (by repeat (first | (with_reducible exact KZb) | (refine Blk.new_at ?_; simp only [World.size_alloc]; done) | (with_reducible refine Blk.alloc ?_ _) | (with_reducible refine Blk.drewN ?_ _))) hb15
        clear KZn KZb KZc0 KZf0 KZc1 KZf1
        have KZb := KZm
        clear KZm
        have KZc0 : World.cell? w15 ⟨w13.heap.size, 0, none⟩ = some (.int .u64 h1) := KZb.get 0 rfl
        have KZf0 := Blk.frozen KZb 0
        have KZc1 : World.cell? w15 ⟨w13.heap.size, 1, none⟩ = some (.int .u64 l1) := KZb.get 1 rfl
        have KZf1 := Blk.frozen KZb 1
        have KZn := Blk.lt KZb
        have KVm : Blk w15 (w14.heap.size) 25 #[.int .u64 h2, .int .u64 l2] := Blk.next (by repeat (first | (refine Blk.new_at ?_; simp only [World.size_alloc]; done) | (with_reducible refine Blk.alloc ?_ _) | (with_reducible refine Blk.drewN ?_ _))) hb15
        have KVb := KVm
        clear KVm
        have KVc0 : World.cell? w15 ⟨w14.heap.size, 0, none⟩ = some (.int .u64 h2) := KVb.get 0 rfl
        have KVf0 := Blk.frozen KVb 0
        have KVc1 : World.cell? w15 ⟨w14.heap.size, 1, none⟩ = some (.int .u64 l2) := KVb.get 1 rfl
        have KVf1 := Blk.frozen KVb 1
        have KVn := Blk.lt KVb
        have B15 : Below w.heap.size w w15 := by first | with_reducible exact below_next B14 hb15 | exact below_step B14 (by go_grown) hb15
        clear hb15 B14
        go_wp2_with fail
        with_reducible refine (C4.out _).mono ?_
        rintro e w16 ⟨rfl, hb16⟩
        have K0m : Blk w16 (w.heap.size) 25 #[.int .u64 h1, .int .u64 l1] := Blk.next (by repeat (first | (with_reducible exact K0b) | (refine Blk.new_at ?_; simp only [World.size_alloc]; done) | (with_reducible refine Blk.alloc ?_ _) | (with_reducible refine Blk.drewN ?_ _))) hb16
        clear K0n K0b K0c0 K0f0 K0c1 K0f1
        have K0b := K0m
        clear K0m
        have K0c0 : World.cell? w16 ⟨w.heap.size, 0, none⟩ = some (.int .u64 h1) := K0b.get 0 rfl
        have K0f0 := Blk.frozen K0b 0
        have K0c1 : World.cell? w16 ⟨w.heap.size, 1, none⟩ = some (.int .u64 l1) := K0b.get 1 rfl
        have K0f1 := Blk.frozen K0b 1
        have K0n := Blk.lt K0b
        have K1m : Blk w16 (w.heap.size + 1) 25 #[.int .u64 h2, .int .u64 l2] := Blk.next (by repeat (first | (with_reducible exact K1b) | (refine Blk.new_at ?_; simp only [World.size_alloc]; done) | (with_reducible refine Blk.alloc ?_ _) | (with_reducible refine Blk.drewN ?_ _))) hb16
        clear K1n K1b K1c0 K1f0 K1c1 K1f1
        have K1b := K1m
        clear K1m
        have K1c0 : World.cell? w16 ⟨w.heap.size + 1, 0, none⟩ = some (.int .u64 h2) := K1b.get 0 rfl
        have K1f0 := Blk.frozen K1b 0
        have K1c1 : World.cell? w16 ⟨w.heap.size + 1, 1, none⟩ = some (.int .u64 l2) := K1b.get 1 rfl
        have K1f1 := Blk.frozen K1b 1
        have K1n := Blk.lt K1b
        have KPm : Blk w16 (w4.heap.size) 25 #[.int .u64 pH, .int .u64 pL] := Blk.next (by repeat (first | (with_reducible exact KPb) | (refine Blk.new_at ?_; simp only [World.size_alloc]; done) | (with_reducible refine Blk.alloc ?_ _) | (with_reducible refine Blk.drewN ?_ _))) hb16
        clear KPn KPb KPc0 KPf0 KPc1 KPf1
        have KPb := KPm
        clear KPm
        have KPc0 : World.cell? w16 ⟨w4.heap.size, 0, none⟩ = some (.int .u64 pH) := KPb.get 0 rfl
        have KPf0 := Blk.frozen KPb 0
        have KPc1 : World.cell? w16 ⟨w4.heap.size, 1, none⟩ = some (.int .u64 pL) := KPb.get 1 rfl
        have KPf1 := Blk.frozen KPb 1
        have KPn := Blk.lt KPb
        have KQm : Blk w16 (q) 25 #[.int .u64 pH, .int .u64 pL] := Blk.next (by repeat (first | (with_reducible exact KQb) | (refine Blk.new_at ?_; simp only [World.size_alloc]; done) | (with_reducible refine Blk.alloc ?_ _) | (with_reducible refine Blk.drewN ?_ _))) hb16
        clear KQn KQb KQc0 KQf0 KQc1 KQf1
        have KQb := KQm
        clear KQm
        have KQc0 : World.cell? w16 ⟨q, 0, none⟩ = some (.int .u64 pH) := KQb.get 0 rfl
        have KQf0 := Blk.frozen KQb 0
        have KQc1 : World.cell? w16 ⟨q, 1, none⟩ = some (.int .u64 pL) := KQb.get 1 rfl
        have KQf1 := Blk.frozen KQb 1
        have KQn := Blk.lt KQb
        have KYm : Blk w16 (w12.heap.size) 25 #[.int .u64 yH, .int .u64 yL] := Blk.next (by repeat (first | (with_reducible exact KYb) | (refine Blk.new_at ?_; simp only [World.size_alloc]; done) | (with_reducible refine Blk.alloc ?_ _) | (with_reducible refine Blk.drewN ?_ _))) hb16
        clear KYn KYb KYc0 KYf0 KYc1 KYf1
        have KYb := KYm
        clear KYm
        have KYc0 : World.cell? w16 ⟨w12.heap.size, 0, none⟩ = some (.int .u64 yH) := KYb.get 0 rfl
        have KYf0 := Blk.frozen KYb 0
        have KYc1 : World.cell? w16 ⟨w12.heap.size, 1, none⟩ = some (.int .u64 yL) := KYb.get 1 rfl
        have KYf1 := Blk.frozen KYb 1
        have KYn := Blk.lt KYb
        have KZm : Blk w16 (w13.heap.size) 25 #[.int .u64 h1, .int .u64 l1] := Blk.next (by repeat (first | (with_reducible exact KZb) | (refine Blk.new_at ?_; simp only [World.size_alloc]; done) | (with_reducible refine Blk.alloc ?_ _) | (with_reducible refine Blk.drewN ?_ _))) hb16
        clear KZn KZb KZc0 KZf0 KZc1 KZf1
        have KZb := KZm
        clear KZm
        have KZc0 : World.cell? w16 ⟨w13.heap.size, 0, none⟩ = some (.int .u64 h1) := KZb.get 0 rfl
        have KZf0 := Blk.frozen KZb 0
        have KZc1 : World.cell? w16 ⟨w13.heap.size, 1, none⟩ = some (.int .u64 l1) := KZb.get 1 rfl
        have KZf1 := Blk.frozen KZb 1
        have KZn := Blk.lt KZb
        have KVm : Blk w16 (w14.heap.size) 25 #[.int .u64 h2, .int .u64 l2] := Blk.next (by repeat (first | (with_reducible exact KVb) | (refine Blk.new_at ?_; simp only [World.size_alloc]; done) | (with_reducible refine Blk.alloc ?_ _) | (with_reducible refine Blk.drewN ?_ _))) hb16
        clear KVn KVb KVc0 KVf0 KVc1 KVf1
        have KVb := KVm
        clear KVm
        have KVc0 : World.cell? w16 ⟨w14.heap.size, 0, none⟩ = some (.int .u64 h2) := KVb.get 0 rfl
        have KVf0 := Blk.frozen KVb 0
        have KVc1 : World.cell? w16 ⟨w14.heap.size, 1, none⟩ = some (.int .u64 l2) := KVb.get 1 rfl
        have KVf1 := Blk.frozen KVb 1
        have KVn := Blk.lt KVb
        have B16 : Below w.heap.size w w16 := by first | with_reducible exact below_next B15 hb16 | exact below_step B15 (by go_grown) hb16
        clear hb16 B15
        go_wp2_with fail
        go_ret
        exact ⟨by simp, B16⟩
  · obtain ⟨s, hs⟩ : ∃ s, a + b = s := ⟨_, rfl⟩
    have hs1 : s ≤ a + b := by omega
    have hs2 : a + b ≤ s := by omega
    clear hs
    have es : IntKind.u64.wrap (a + b) = s := by rw [IntKind.wrap_u64]; omega
    have ws : Word s := ⟨by omega, by omega⟩
    have tk : IntKind.u64.wrap (0 * c) = 0 := by rw [Int.zero_mul]; rfl
    have tk2 : IntKind.u64.wrap 0 = 0 := rfl
    obtain ⟨hS, eS⟩ : ∃ x, s * c / 18446744073709551616 = x := ⟨_, rfl⟩
    obtain ⟨lS, fS⟩ : ∃ x, s * c % 18446744073709551616 = x := ⟨_, rfl⟩
    have pS := prod_words ws wc
    rw [eS, fS] at pS
    obtain ⟨pS1, pS2, pS3, pS4⟩ := pS
    have M3 := Lib.hid (fun w => mul_hl s c hS lS w ws wc eS fS)
    have same : wv hS lS + wv 0 0 = wv hA lA + wv hB lB := by
      rw [pS3, pA3, pB3, ← Int.add_mul]
      have e : (a + b) * c = s * c := by congr 1; omega
      rw [e]; unfold wv; omega
    obtain ⟨s1, s2, s3⟩ := plus_same same
    have P2 := Lib.hid (fun w => wplus_val hS lS 0 0 pH pL pE w pS1 pS2 word0 word0 (s1.trans qH) (s2.trans qL) (s3.trans qE))
    clear eS fS s1 s2 s3 same pS1 pS2 pS3 pS4 qH qL qE pA1 pA2 pA3 pA4 pB1 pB2 pB3 pB4 ws
    have hsa : ¬ s < a := by omega
    have w0s : 0 ≤ s := by omega
    have w1s : s < 18446744073709551616 := by omega
    rcases PC with ⟨g1, g2, g3, g4⟩ | ⟨yH, yL, g1, g2, g3, g4, g5, g6⟩
    · have C1 := Lib.hid (fun w => cmpw_val h1 l1 0 0 1 w v2 word0 (cmpN_gt (by unfold wv Word at *; omega)))
      have C2 := Lib.hid (fun w => cmpw_val h2 l2 0 0 1 w v4 word0 (cmpN_gt (by unfold wv Word at *; omega)))
      have PW := Lib.hid (fun w => wplus_val h1 l1 h2 l2 0 0 10 w v1 v2 v3 v4 g2 g3 g1)
      clear g1 g2 g3 g4
      go_enter Try.func6, Try.ntmps6
      go_wp2_with fail
      with_reducible refine (AW.out _).mono ?_
      rintro e w1 ⟨rfl, hb1⟩
      have K0m : Blk w1 (w.heap.size) 25 #[.int .u64 h1, .int .u64 l1] := Blk.next (by repeat (first | (refine Blk.new_at ?_; simp only [World.size_alloc]; done) | (with_reducible refine Blk.alloc ?_ _) | (with_reducible refine Blk.drewN ?_ _))) hb1
      have K0b := K0m
      clear K0m
      have K0c0 : World.cell? w1 ⟨w.heap.size, 0, none⟩ = some (.int .u64 h1) := K0b.get 0 rfl
      have K0f0 := Blk.frozen K0b 0
      have K0c1 : World.cell? w1 ⟨w.heap.size, 1, none⟩ = some (.int .u64 l1) := K0b.get 1 rfl
      have K0f1 := Blk.frozen K0b 1
      have K0n := Blk.lt K0b
      have K1m : Blk w1 (w.heap.size + 1) 25 #[.int .u64 h2, .int .u64 l2] := Blk.next (by repeat (first | (refine Blk.new_at ?_; simp only [World.size_alloc]; done) | (with_reducible refine Blk.alloc ?_ _) | (with_reducible refine Blk.drewN ?_ _))) hb1
      have K1b := K1m
      clear K1m
      have K1c0 : World.cell? w1 ⟨w.heap.size + 1, 0, none⟩ = some (.int .u64 h2) := K1b.get 0 rfl
      have K1f0 := Blk.frozen K1b 0
      have K1c1 : World.cell? w1 ⟨w.heap.size + 1, 1, none⟩ = some (.int .u64 l2) := K1b.get 1 rfl
      have K1f1 := Blk.frozen K1b 1
      have K1n := Blk.lt K1b
      have B1 : Below w.heap.size w w1 := by first | with_reducible exact hb1 | exact Below.trans (by go_grown) (hb1.mono (by simp only [World.size_alloc]; omega))
      clear hb1
      go_wp2_with fail
      with_reducible refine (M1.out _).mono ?_
      rintro e w2 ⟨rfl, hb2⟩
      have K0m : Blk w2 (w.heap.size) 25 #[.int .u64 h1, .int .u64 l1] := Blk.next (by repeat (first | (with_reducible exact K0b) | (refine Blk.new_at ?_; simp only [World.size_alloc]; done) | (with_reducible refine Blk.alloc ?_ _) | (with_reducible refine Blk.drewN ?_ _))) hb2
      clear K0n K0b K0c0 K0f0 K0c1 K0f1
      have K0b := K0m
      clear K0m
      have K0c0 : World.cell? w2 ⟨w.heap.size, 0, none⟩ = some (.int .u64 h1) := K0b.get 0 rfl
      have K0f0 := Blk.frozen K0b 0
      have K0c1 : World.cell? w2 ⟨w.heap.size, 1, none⟩ = some (.int .u64 l1) := K0b.get 1 rfl
      have K0f1 := Blk.frozen K0b 1
      have K0n := Blk.lt K0b
      have K1m : Blk w2 (w.heap.size + 1) 25 #[.int .u64 h2, .int .u64 l2] := Blk.next (by repeat (first | (with_reducible exact K1b) | (refine Blk.new_at ?_; simp only [World.size_alloc]; done) | (with_reducible refine Blk.alloc ?_ _) | (with_reducible refine Blk.drewN ?_ _))) hb2
      clear K1n K1b K1c0 K1f0 K1c1 K1f1
      have K1b := K1m
      clear K1m
      have K1c0 : World.cell? w2 ⟨w.heap.size + 1, 0, none⟩ = some (.int .u64 h2) := K1b.get 0 rfl
      have K1f0 := Blk.frozen K1b 0
      have K1c1 : World.cell? w2 ⟨w.heap.size + 1, 1, none⟩ = some (.int .u64 l2) := K1b.get 1 rfl
      have K1f1 := Blk.frozen K1b 1
      have K1n := Blk.lt K1b
      have KSm : Blk w2 (w1.heap.size) 25 #[.int .u64 0, .int .u64 s] := Blk.next (by repeat (first | (refine Blk.new_at ?_; simp only [World.size_alloc]; done) | (with_reducible refine Blk.alloc ?_ _) | (with_reducible refine Blk.drewN ?_ _))) hb2
      have KSb := KSm
      clear KSm
      have KSc0 : World.cell? w2 ⟨w1.heap.size, 0, none⟩ = some (.int .u64 0) := KSb.get 0 rfl
      have KSf0 := Blk.frozen KSb 0
      have KSc1 : World.cell? w2 ⟨w1.heap.size, 1, none⟩ = some (.int .u64 s) := KSb.get 1 rfl
      have KSf1 := Blk.frozen KSb 1
      have KSn := Blk.lt KSb
      have B2 : Below w.heap.size w w2 := by first | with_reducible exact below_next B1 hb2 | exact below_step B1 (by go_grown) hb2
      clear hb2 B1
      go_wp2_with fail
      with_reducible refine (M2.out _).mono ?_
      rintro e w3 ⟨rfl, hb3⟩
      have K0m : Blk w3 (w.heap.size) 25 #[.int .u64 h1, .int .u64 l1] := Blk.next (by repeat (first | (with_reducible exact K0b) | (refine Blk.new_at ?_; simp only [World.size_alloc]; done) | (with_reducible refine Blk.alloc ?_ _) | (with_reducible refine Blk.drewN ?_ _))) hb3
      clear K0n K0b K0c0 K0f0 K0c1 K0f1
      have K0b := K0m
      clear K0m
      have K0c0 : World.cell? w3 ⟨w.heap.size, 0, none⟩ = some (.int .u64 h1) := K0b.get 0 rfl
      have K0f0 := Blk.frozen K0b 0
      have K0c1 : World.cell? w3 ⟨w.heap.size, 1, none⟩ = some (.int .u64 l1) := K0b.get 1 rfl
      have K0f1 := Blk.frozen K0b 1
      have K0n := Blk.lt K0b
      have K1m : Blk w3 (w.heap.size + 1) 25 #[.int .u64 h2, .int .u64 l2] := Blk.next (by repeat (first | (with_reducible exact K1b) | (refine Blk.new_at ?_; simp only [World.size_alloc]; done) | (with_reducible refine Blk.alloc ?_ _) | (with_reducible refine Blk.drewN ?_ _))) hb3
      clear K1n K1b K1c0 K1f0 K1c1 K1f1
      have K1b := K1m
      clear K1m
      have K1c0 : World.cell? w3 ⟨w.heap.size + 1, 0, none⟩ = some (.int .u64 h2) := K1b.get 0 rfl
      have K1f0 := Blk.frozen K1b 0
      have K1c1 : World.cell? w3 ⟨w.heap.size + 1, 1, none⟩ = some (.int .u64 l2) := K1b.get 1 rfl
      have K1f1 := Blk.frozen K1b 1
      have K1n := Blk.lt K1b
      have KSm : Blk w3 (w1.heap.size) 25 #[.int .u64 0, .int .u64 s] := Blk.next (by repeat (first | (with_reducible exact KSb) | (refine Blk.new_at ?_; simp only [World.size_alloc]; done) | (with_reducible refine Blk.alloc ?_ _) | (with_reducible refine Blk.drewN ?_ _))) hb3
      clear KSn KSb KSc0 KSf0 KSc1 KSf1
      have KSb := KSm
      clear KSm
      have KSc0 : World.cell? w3 ⟨w1.heap.size, 0, none⟩ = some (.int .u64 0) := KSb.get 0 rfl
      have KSf0 := Blk.frozen KSb 0
      have KSc1 : World.cell? w3 ⟨w1.heap.size, 1, none⟩ = some (.int .u64 s) := KSb.get 1 rfl
      have KSf1 := Blk.frozen KSb 1
      have KSn := Blk.lt KSb
      have B3 : Below w.heap.size w w3 := by first | with_reducible exact below_next B2 hb3 | exact below_step B2 (by go_grown) hb3
      clear hb3 B2
      go_wp2_with fail
      with_reducible refine (P1.out _).mono ?_
      rintro e w4 ⟨rfl, hb4⟩
      have K0m : Blk w4 (w.heap.size) 25 #[.int .u64 h1, .int .u64 l1] := Blk.next (by repeat (first | (with_reducible exact K0b) | (refine Blk.new_at ?_; simp only [World.size_alloc]; done) | (with_reducible refine Blk.alloc ?_ _) | (with_reducible refine Blk.drewN ?_ _))) hb4
      clear K0n K0b K0c0 K0f0 K0c1 K0f1
      have K0b := K0m
      clear K0m
      have K0c0 : World.cell? w4 ⟨w.heap.size, 0, none⟩ = some (.int .u64 h1) := K0b.get 0 rfl
      have K0f0 := Blk.frozen K0b 0
      have K0c1 : World.cell? w4 ⟨w.heap.size, 1, none⟩ = some (.int .u64 l1) := K0b.get 1 rfl
      have K0f1 := Blk.frozen K0b 1
      have K0n := Blk.lt K0b
      have K1m : Blk w4 (w.heap.size + 1) 25 #[.int .u64 h2, .int .u64 l2] := Blk.next (by repeat (first | (with_reducible exact K1b) | (refine Blk.new_at ?_; simp only [World.size_alloc]; done) | (with_reducible refine Blk.alloc ?_ _) | (with_reducible refine Blk.drewN ?_ _))) hb4
      clear K1n K1b K1c0 K1f0 K1c1 K1f1
      have K1b := K1m
      clear K1m
      have K1c0 : World.cell? w4 ⟨w.heap.size + 1, 0, none⟩ = some (.int .u64 h2) := K1b.get 0 rfl
      have K1f0 := Blk.frozen K1b 0
      have K1c1 : World.cell? w4 ⟨w.heap.size + 1, 1, none⟩ = some (.int .u64 l2) := K1b.get 1 rfl
      have K1f1 := Blk.frozen K1b 1
      have K1n := Blk.lt K1b
      have KSm : Blk w4 (w1.heap.size) 25 #[.int .u64 0, .int .u64 s] := Blk.next (by repeat (first | (with_reducible exact KSb) | (refine Blk.new_at ?_; simp only [World.size_alloc]; done) | (with_reducible refine Blk.alloc ?_ _) | (with_reducible refine Blk.drewN ?_ _))) hb4
      clear KSn KSb KSc0 KSf0 KSc1 KSf1
      have KSb := KSm
      clear KSm
      have KSc0 : World.cell? w4 ⟨w1.heap.size, 0, none⟩ = some (.int .u64 0) := KSb.get 0 rfl
      have KSf0 := Blk.frozen KSb 0
      have KSc1 : World.cell? w4 ⟨w1.heap.size, 1, none⟩ = some (.int .u64 s) := KSb.get 1 rfl
      have KSf1 := Blk.frozen KSb 1
      have KSn := Blk.lt KSb
      have B4 : Below w.heap.size w w4 := by first | with_reducible exact below_next B3 hb4 | exact below_step B3 (by go_grown) hb4
      clear hb4 B3
      go_wp2_with fail
      have G0 := Blk.alloc K0b (.cells #[.int .u64 pH, .int .u64 pL] 25)
      have G1 := Blk.alloc K1b (.cells #[.int .u64 pH, .int .u64 pL] 25)
      have GS := Blk.alloc KSb (.cells #[.int .u64 pH, .int .u64 pL] 25)
      have GP := Blk.new w4 25 #[.int .u64 pH, .int .u64 pL]
      have BB := B4.alloc B4.size (.cells #[.int .u64 pH, .int .u64 pL] 25)
      obtain ⟨w5, hw5⟩ : ∃ W, w4.alloc (.cells #[.int .u64 pH, .int .u64 pL] 25) = W := ⟨_, rfl⟩
      rw [hw5] at G0 G1 GS GP BB
      rw [hw5]
      clear hw5 K0b K0c0 K0c1 K0f0 K0f1 K0n K1b K1c0 K1c1 K1f0 K1f1 K1n KSb KSc0 KSc1 KSf0 KSf1 KSn B4
      have hs0 := GS.get 0 rfl
      have hlt5 := GS.lt
      have S5 : ∀ w', Below w5.heap.size w5 w' → w'.cell? ⟨w1.heap.size, 0, none⟩ = some (.int .u64 0) ∧ Below w5.heap.size w5 w' := fun w' hb => ⟨(hb.cell (p := ⟨w1.heap.size, 0, none⟩) hlt5).trans hs0, hb⟩
      have S6 := Lib.hid S5
      clear S5
      go_cut [15, 16] (fun qv ev wc => ∃ q : Nat, qv = .pointer (some ⟨q, 0, none⟩) ∧ ev = .int .i64 pE ∧ Blk wc q 25 #[.int .u64 pH, .int .u64 pL] ∧ Below w5.heap.size w5 wc)
      case first =>
        go_region_held3 (fun w' => w'.cell? ⟨w1.heap.size, 0, none⟩ = some (.int .u64 0) ∧ Below w5.heap.size w5 w') (first | (exact S6.out _ (Below.refl _ _)) | (exact S6.out _ (below_of_drew (Below.refl _ _))) | assumption | (exact S6.out _ hS7) | (exact S6.out _ (hS7.alloc hS7.size _)) | (exact S6.out _ (hS6.alloc hS6.size _)) | (exact S6.out _ hS6) | (exact S6.out _ (balloc5 w1.heap.size (.int .u64 0) ‹_› _)) | (exact S6.out _ ((below_of_drew (Below.refl _ _)).alloc (Nat.le_refl _) _)) | (exact S6.out _ (hS7.setCell (by first | exact Nat.le_refl _ | exact hS6.size) _)) | (exact S6.out _ ((hS7.setCell (by first | exact Nat.le_refl _ | exact hS6.size) _).setCell (by first | exact Nat.le_refl _ | exact hS6.size) _)))
          (first | ((with_reducible refine (M3.out _).mono ?_); rintro e w6 ⟨rfl, hb6⟩; have hS6 : Below w5.heap.size w5 w6 := (by first | (refine bnext5 w1.heap.size (.int .u64 0) ?_ hb6; with_reducible assumption) | exact below_next (below_of_drew (Below.refl _ _)) hb6 | exact below_next ((below_of_drew (Below.refl _ _)).alloc (Nat.le_refl _) _) hb6); (try (have Y : Blk w6 w5.heap.size 25 #[.int .u64 0, .int .u64 0] := Blk.next (Blk.new w5.drew 25 #[.int .u64 0, .int .u64 0]) hb6; have Y0 : World.cell? w6 ⟨w5.heap.size, 0, none⟩ = some (.int .u64 0) := Y.get 0 rfl; have Y1 : World.cell? w6 ⟨w5.heap.size, 1, none⟩ = some (.int .u64 0) := Y.get 1 rfl; have Y2 : World.frozen? w6 ⟨w5.heap.size, 0, none⟩ = false := Y.frozen 0; have Y3 : World.frozen? w6 ⟨w5.heap.size, 1, none⟩ = false := Y.frozen 1; have Y4 := Y.lt))) | ((with_reducible refine (P2.out _).mono ?_); rintro e w7 ⟨rfl, hb7⟩; have hS7 : Below w5.heap.size w5 w7 := (by first | (refine bnext5 w1.heap.size (.int .u64 0) ?_ hb7; assumption) | exact below_next hS6 hb7); (first | (have Y : Blk w7 w5.heap.size 25 #[.int .u64 0, .int .u64 0] := Blk.next Y hb7; have Y0 : World.cell? w7 ⟨w5.heap.size, 0, none⟩ = some (.int .u64 0) := Y.get 0 rfl; have Y1 : World.cell? w7 ⟨w5.heap.size, 1, none⟩ = some (.int .u64 0) := Y.get 1 rfl; have Y2 : World.frozen? w7 ⟨w5.heap.size, 0, none⟩ = false := Y.frozen 0; have Y3 : World.frozen? w7 ⟨w5.heap.size, 1, none⟩ = false := Y.frozen 1; have Y4 := Y.lt) | (have Y : Blk w7 w6.heap.size 25 #[.int .u64 0, .int .u64 0] := Blk.next (Blk.new w6 25 #[.int .u64 0, .int .u64 0]) hb7; have Y0 : World.cell? w7 ⟨w6.heap.size, 0, none⟩ = some (.int .u64 0) := Y.get 0 rfl; have Y1 : World.cell? w7 ⟨w6.heap.size, 1, none⟩ = some (.int .u64 0) := Y.get 1 rfl; have Y2 : World.frozen? w7 ⟨w6.heap.size, 0, none⟩ = false := Y.frozen 0; have Y3 : World.frozen? w7 ⟨w6.heap.size, 1, none⟩ = false := Y.frozen 1; have Y4 := Y.lt) | skip)))
        all_goals go_wp2_with fail
        all_goals go_meet
        all_goals first
          | exact ⟨_, rfl, rfl, Blk.new w7 _ _, hS7.alloc hS7.size _⟩
          | exact ⟨_, rfl, rfl, Blk.put (Blk.put Y 0 _) 1 _, (hS7.setCell (Nat.le_refl _) _).setCell (Nat.le_refl _) _⟩
          | exact ⟨_, rfl, rfl, Blk.put (Blk.put Y 0 _) 1 _, (hS7.setCell hS6.size _).setCell hS6.size _⟩
      case rest =>
        obtain ⟨q, rfl, rfl, KQb, hbc⟩ := hcut
        obtain ⟨w7, rfl⟩ : ∃ x, x = wc := ⟨_, rfl⟩
        have B7 := below_next BB hbc
        have K0b : Blk w7 (w.heap.size) 25 #[.int .u64 h1, .int .u64 l1] := Blk.next G0 hbc
        have K0c0 : World.cell? w7 ⟨w.heap.size, 0, none⟩ = some (.int .u64 h1) := K0b.get 0 rfl
        have K0f0 := Blk.frozen K0b 0
        have K0c1 : World.cell? w7 ⟨w.heap.size, 1, none⟩ = some (.int .u64 l1) := K0b.get 1 rfl
        have K0f1 := Blk.frozen K0b 1
        have K0n := Blk.lt K0b
        have K1b : Blk w7 (w.heap.size + 1) 25 #[.int .u64 h2, .int .u64 l2] := Blk.next G1 hbc
        have K1c0 : World.cell? w7 ⟨w.heap.size + 1, 0, none⟩ = some (.int .u64 h2) := K1b.get 0 rfl
        have K1f0 := Blk.frozen K1b 0
        have K1c1 : World.cell? w7 ⟨w.heap.size + 1, 1, none⟩ = some (.int .u64 l2) := K1b.get 1 rfl
        have K1f1 := Blk.frozen K1b 1
        have K1n := Blk.lt K1b
        have KPb : Blk w7 (w4.heap.size) 25 #[.int .u64 pH, .int .u64 pL] := Blk.next GP hbc
        have KPc0 : World.cell? w7 ⟨w4.heap.size, 0, none⟩ = some (.int .u64 pH) := KPb.get 0 rfl
        have KPf0 := Blk.frozen KPb 0
        have KPc1 : World.cell? w7 ⟨w4.heap.size, 1, none⟩ = some (.int .u64 pL) := KPb.get 1 rfl
        have KPf1 := Blk.frozen KPb 1
        have KPn := Blk.lt KPb
        have KQb : Blk w7 (q) 25 #[.int .u64 pH, .int .u64 pL] := KQb
        have KQc0 : World.cell? w7 ⟨q, 0, none⟩ = some (.int .u64 pH) := KQb.get 0 rfl
        have KQf0 := Blk.frozen KQb 0
        have KQc1 : World.cell? w7 ⟨q, 1, none⟩ = some (.int .u64 pL) := KQb.get 1 rfl
        have KQf1 := Blk.frozen KQb 1
        have KQn := Blk.lt KQb
        clear G0 G1 GS GP BB hs0 hlt5 hbc S6
        go_wp2_with fail
        with_reducible refine (M1.out _).mono ?_
        rintro e w8 ⟨rfl, hb8⟩
        have K0m : Blk w8 (w.heap.size) 25 #[.int .u64 h1, .int .u64 l1] := Blk.next (by repeat (first | (with_reducible exact K0b) | (refine Blk.new_at ?_; simp only [World.size_alloc]; done) | (with_reducible refine Blk.alloc ?_ _) | (with_reducible refine Blk.drewN ?_ _))) hb8
        clear K0n K0b K0c0 K0f0 K0c1 K0f1
        have K0b := K0m
        clear K0m
        have K0c0 : World.cell? w8 ⟨w.heap.size, 0, none⟩ = some (.int .u64 h1) := K0b.get 0 rfl
        have K0f0 := Blk.frozen K0b 0
        have K0c1 : World.cell? w8 ⟨w.heap.size, 1, none⟩ = some (.int .u64 l1) := K0b.get 1 rfl
        have K0f1 := Blk.frozen K0b 1
        have K0n := Blk.lt K0b
        have K1m : Blk w8 (w.heap.size + 1) 25 #[.int .u64 h2, .int .u64 l2] := Blk.next (by repeat (first | (with_reducible exact K1b) | (refine Blk.new_at ?_; simp only [World.size_alloc]; done) | (with_reducible refine Blk.alloc ?_ _) | (with_reducible refine Blk.drewN ?_ _))) hb8
        clear K1n K1b K1c0 K1f0 K1c1 K1f1
        have K1b := K1m
        clear K1m
        have K1c0 : World.cell? w8 ⟨w.heap.size + 1, 0, none⟩ = some (.int .u64 h2) := K1b.get 0 rfl
        have K1f0 := Blk.frozen K1b 0
        have K1c1 : World.cell? w8 ⟨w.heap.size + 1, 1, none⟩ = some (.int .u64 l2) := K1b.get 1 rfl
        have K1f1 := Blk.frozen K1b 1
        have K1n := Blk.lt K1b
        have KPm : Blk w8 (w4.heap.size) 25 #[.int .u64 pH, .int .u64 pL] := Blk.next (by repeat (first | (with_reducible exact KPb) | (refine Blk.new_at ?_; simp only [World.size_alloc]; done) | (with_reducible refine Blk.alloc ?_ _) | (with_reducible refine Blk.drewN ?_ _))) hb8
        clear KPn KPb KPc0 KPf0 KPc1 KPf1
        have KPb := KPm
        clear KPm
        have KPc0 : World.cell? w8 ⟨w4.heap.size, 0, none⟩ = some (.int .u64 pH) := KPb.get 0 rfl
        have KPf0 := Blk.frozen KPb 0
        have KPc1 : World.cell? w8 ⟨w4.heap.size, 1, none⟩ = some (.int .u64 pL) := KPb.get 1 rfl
        have KPf1 := Blk.frozen KPb 1
        have KPn := Blk.lt KPb
        have KQm : Blk w8 (q) 25 #[.int .u64 pH, .int .u64 pL] := Blk.next (by repeat (first | (with_reducible exact KQb) | (refine Blk.new_at ?_; simp only [World.size_alloc]; done) | (with_reducible refine Blk.alloc ?_ _) | (with_reducible refine Blk.drewN ?_ _))) hb8
        clear KQn KQb KQc0 KQf0 KQc1 KQf1
        have KQb := KQm
        clear KQm
        have KQc0 : World.cell? w8 ⟨q, 0, none⟩ = some (.int .u64 pH) := KQb.get 0 rfl
        have KQf0 := Blk.frozen KQb 0
        have KQc1 : World.cell? w8 ⟨q, 1, none⟩ = some (.int .u64 pL) := KQb.get 1 rfl
        have KQf1 := Blk.frozen KQb 1
        have KQn := Blk.lt KQb
        have B8 : Below w.heap.size w w8 := by first | with_reducible exact below_next B7 hb8 | exact below_step B7 (by go_grown) hb8
        clear hb8 B7
        go_wp2_with fail
        with_reducible refine (M4.out _).mono ?_
        rintro e w9 ⟨rfl, hb9⟩
        have K0m : Blk w9 (w.heap.size) 25 #[.int .u64 h1, .int .u64 l1] := Blk.next (by repeat (first | (with_reducible exact K0b) | (refine Blk.new_at ?_; simp only [World.size_alloc]; done) | (with_reducible refine Blk.alloc ?_ _) | (with_reducible refine Blk.drewN ?_ _))) hb9
        clear K0n K0b K0c0 K0f0 K0c1 K0f1
        have K0b := K0m
        clear K0m
        have K0c0 : World.cell? w9 ⟨w.heap.size, 0, none⟩ = some (.int .u64 h1) := K0b.get 0 rfl
        have K0f0 := Blk.frozen K0b 0
        have K0c1 : World.cell? w9 ⟨w.heap.size, 1, none⟩ = some (.int .u64 l1) := K0b.get 1 rfl
        have K0f1 := Blk.frozen K0b 1
        have K0n := Blk.lt K0b
        have K1m : Blk w9 (w.heap.size + 1) 25 #[.int .u64 h2, .int .u64 l2] := Blk.next (by repeat (first | (with_reducible exact K1b) | (refine Blk.new_at ?_; simp only [World.size_alloc]; done) | (with_reducible refine Blk.alloc ?_ _) | (with_reducible refine Blk.drewN ?_ _))) hb9
        clear K1n K1b K1c0 K1f0 K1c1 K1f1
        have K1b := K1m
        clear K1m
        have K1c0 : World.cell? w9 ⟨w.heap.size + 1, 0, none⟩ = some (.int .u64 h2) := K1b.get 0 rfl
        have K1f0 := Blk.frozen K1b 0
        have K1c1 : World.cell? w9 ⟨w.heap.size + 1, 1, none⟩ = some (.int .u64 l2) := K1b.get 1 rfl
        have K1f1 := Blk.frozen K1b 1
        have K1n := Blk.lt K1b
        have KPm : Blk w9 (w4.heap.size) 25 #[.int .u64 pH, .int .u64 pL] := Blk.next (by repeat (first | (with_reducible exact KPb) | (refine Blk.new_at ?_; simp only [World.size_alloc]; done) | (with_reducible refine Blk.alloc ?_ _) | (with_reducible refine Blk.drewN ?_ _))) hb9
        clear KPn KPb KPc0 KPf0 KPc1 KPf1
        have KPb := KPm
        clear KPm
        have KPc0 : World.cell? w9 ⟨w4.heap.size, 0, none⟩ = some (.int .u64 pH) := KPb.get 0 rfl
        have KPf0 := Blk.frozen KPb 0
        have KPc1 : World.cell? w9 ⟨w4.heap.size, 1, none⟩ = some (.int .u64 pL) := KPb.get 1 rfl
        have KPf1 := Blk.frozen KPb 1
        have KPn := Blk.lt KPb
        have KQm : Blk w9 (q) 25 #[.int .u64 pH, .int .u64 pL] := Blk.next (by repeat (first | (with_reducible exact KQb) | (refine Blk.new_at ?_; simp only [World.size_alloc]; done) | (with_reducible refine Blk.alloc ?_ _) | (with_reducible refine Blk.drewN ?_ _))) hb9
        clear KQn KQb KQc0 KQf0 KQc1 KQf1
        have KQb := KQm
        clear KQm
        have KQc0 : World.cell? w9 ⟨q, 0, none⟩ = some (.int .u64 pH) := KQb.get 0 rfl
        have KQf0 := Blk.frozen KQb 0
        have KQc1 : World.cell? w9 ⟨q, 1, none⟩ = some (.int .u64 pL) := KQb.get 1 rfl
        have KQf1 := Blk.frozen KQb 1
        have KQn := Blk.lt KQb
        have B9 : Below w.heap.size w w9 := by first | with_reducible exact below_next B8 hb9 | exact below_step B8 (by go_grown) hb9
        clear hb9 B8
        go_wp2_with fail
        with_reducible refine (M5.out _).mono ?_
        rintro e w10 ⟨rfl, hb10⟩
        have K0m : Blk w10 (w.heap.size) 25 #[.int .u64 h1, .int .u64 l1] := Blk.next (by repeat (first | (with_reducible exact K0b) | (refine Blk.new_at ?_; simp only [World.size_alloc]; done) | (with_reducible refine Blk.alloc ?_ _) | (with_reducible refine Blk.drewN ?_ _))) hb10
        clear K0n K0b K0c0 K0f0 K0c1 K0f1
        have K0b := K0m
        clear K0m
        have K0c0 : World.cell? w10 ⟨w.heap.size, 0, none⟩ = some (.int .u64 h1) := K0b.get 0 rfl
        have K0f0 := Blk.frozen K0b 0
        have K0c1 : World.cell? w10 ⟨w.heap.size, 1, none⟩ = some (.int .u64 l1) := K0b.get 1 rfl
        have K0f1 := Blk.frozen K0b 1
        have K0n := Blk.lt K0b
        have K1m : Blk w10 (w.heap.size + 1) 25 #[.int .u64 h2, .int .u64 l2] := Blk.next (by repeat (first | (with_reducible exact K1b) | (refine Blk.new_at ?_; simp only [World.size_alloc]; done) | (with_reducible refine Blk.alloc ?_ _) | (with_reducible refine Blk.drewN ?_ _))) hb10
        clear K1n K1b K1c0 K1f0 K1c1 K1f1
        have K1b := K1m
        clear K1m
        have K1c0 : World.cell? w10 ⟨w.heap.size + 1, 0, none⟩ = some (.int .u64 h2) := K1b.get 0 rfl
        have K1f0 := Blk.frozen K1b 0
        have K1c1 : World.cell? w10 ⟨w.heap.size + 1, 1, none⟩ = some (.int .u64 l2) := K1b.get 1 rfl
        have K1f1 := Blk.frozen K1b 1
        have K1n := Blk.lt K1b
        have KPm : Blk w10 (w4.heap.size) 25 #[.int .u64 pH, .int .u64 pL] := Blk.next (by repeat (first | (with_reducible exact KPb) | (refine Blk.new_at ?_; simp only [World.size_alloc]; done) | (with_reducible refine Blk.alloc ?_ _) | (with_reducible refine Blk.drewN ?_ _))) hb10
        clear KPn KPb KPc0 KPf0 KPc1 KPf1
        have KPb := KPm
        clear KPm
        have KPc0 : World.cell? w10 ⟨w4.heap.size, 0, none⟩ = some (.int .u64 pH) := KPb.get 0 rfl
        have KPf0 := Blk.frozen KPb 0
        have KPc1 : World.cell? w10 ⟨w4.heap.size, 1, none⟩ = some (.int .u64 pL) := KPb.get 1 rfl
        have KPf1 := Blk.frozen KPb 1
        have KPn := Blk.lt KPb
        have KQm : Blk w10 (q) 25 #[.int .u64 pH, .int .u64 pL] := Blk.next (by repeat (first | (with_reducible exact KQb) | (refine Blk.new_at ?_; simp only [World.size_alloc]; done) | (with_reducible refine Blk.alloc ?_ _) | (with_reducible refine Blk.drewN ?_ _))) hb10
        clear KQn KQb KQc0 KQf0 KQc1 KQf1
        have KQb := KQm
        clear KQm
        have KQc0 : World.cell? w10 ⟨q, 0, none⟩ = some (.int .u64 pH) := KQb.get 0 rfl
        have KQf0 := Blk.frozen KQb 0
        have KQc1 : World.cell? w10 ⟨q, 1, none⟩ = some (.int .u64 pL) := KQb.get 1 rfl
        have KQf1 := Blk.frozen KQb 1
        have KQn := Blk.lt KQb
        have B10 : Below w.heap.size w w10 := by first | with_reducible exact below_next B9 hb10 | exact below_step B9 (by go_grown) hb10
        clear hb10 B9
        go_wp2_with fail
        with_reducible refine (M6.out _).mono ?_
        rintro e w11 ⟨rfl, hb11⟩
        have K0m : Blk w11 (w.heap.size) 25 #[.int .u64 h1, .int .u64 l1] := Blk.next (by repeat (first | (with_reducible exact K0b) | (refine Blk.new_at ?_; simp only [World.size_alloc]; done) | (with_reducible refine Blk.alloc ?_ _) | (with_reducible refine Blk.drewN ?_ _))) hb11
        clear K0n K0b K0c0 K0f0 K0c1 K0f1
        have K0b := K0m
        clear K0m
        have K0c0 : World.cell? w11 ⟨w.heap.size, 0, none⟩ = some (.int .u64 h1) := K0b.get 0 rfl
        have K0f0 := Blk.frozen K0b 0
        have K0c1 : World.cell? w11 ⟨w.heap.size, 1, none⟩ = some (.int .u64 l1) := K0b.get 1 rfl
        have K0f1 := Blk.frozen K0b 1
        have K0n := Blk.lt K0b
        have K1m : Blk w11 (w.heap.size + 1) 25 #[.int .u64 h2, .int .u64 l2] := Blk.next (by repeat (first | (with_reducible exact K1b) | (refine Blk.new_at ?_; simp only [World.size_alloc]; done) | (with_reducible refine Blk.alloc ?_ _) | (with_reducible refine Blk.drewN ?_ _))) hb11
        clear K1n K1b K1c0 K1f0 K1c1 K1f1
        have K1b := K1m
        clear K1m
        have K1c0 : World.cell? w11 ⟨w.heap.size + 1, 0, none⟩ = some (.int .u64 h2) := K1b.get 0 rfl
        have K1f0 := Blk.frozen K1b 0
        have K1c1 : World.cell? w11 ⟨w.heap.size + 1, 1, none⟩ = some (.int .u64 l2) := K1b.get 1 rfl
        have K1f1 := Blk.frozen K1b 1
        have K1n := Blk.lt K1b
        have KPm : Blk w11 (w4.heap.size) 25 #[.int .u64 pH, .int .u64 pL] := Blk.next (by repeat (first | (with_reducible exact KPb) | (refine Blk.new_at ?_; simp only [World.size_alloc]; done) | (with_reducible refine Blk.alloc ?_ _) | (with_reducible refine Blk.drewN ?_ _))) hb11
        clear KPn KPb KPc0 KPf0 KPc1 KPf1
        have KPb := KPm
        clear KPm
        have KPc0 : World.cell? w11 ⟨w4.heap.size, 0, none⟩ = some (.int .u64 pH) := KPb.get 0 rfl
        have KPf0 := Blk.frozen KPb 0
        have KPc1 : World.cell? w11 ⟨w4.heap.size, 1, none⟩ = some (.int .u64 pL) := KPb.get 1 rfl
        have KPf1 := Blk.frozen KPb 1
        have KPn := Blk.lt KPb
        have KQm : Blk w11 (q) 25 #[.int .u64 pH, .int .u64 pL] := Blk.next (by repeat (first | (with_reducible exact KQb) | (refine Blk.new_at ?_; simp only [World.size_alloc]; done) | (with_reducible refine Blk.alloc ?_ _) | (with_reducible refine Blk.drewN ?_ _))) hb11
        clear KQn KQb KQc0 KQf0 KQc1 KQf1
        have KQb := KQm
        clear KQm
        have KQc0 : World.cell? w11 ⟨q, 0, none⟩ = some (.int .u64 pH) := KQb.get 0 rfl
        have KQf0 := Blk.frozen KQb 0
        have KQc1 : World.cell? w11 ⟨q, 1, none⟩ = some (.int .u64 pL) := KQb.get 1 rfl
        have KQf1 := Blk.frozen KQb 1
        have KQn := Blk.lt KQb
        have B11 : Below w.heap.size w w11 := by first | with_reducible exact below_next B10 hb11 | exact below_step B10 (by go_grown) hb11
        clear hb11 B10
        go_wp2_with fail
        with_reducible refine (PW.out _).mono ?_
        rintro e w12 ⟨rfl, hb12⟩
        have K0m : Blk w12 (w.heap.size) 25 #[.int .u64 h1, .int .u64 l1] := Blk.next (by repeat (first | (with_reducible exact K0b) | (refine Blk.new_at ?_; simp only [World.size_alloc]; done) | (with_reducible refine Blk.alloc ?_ _) | (with_reducible refine Blk.drewN ?_ _))) hb12
        clear K0n K0b K0c0 K0f0 K0c1 K0f1
        have K0b := K0m
        clear K0m
        have K0c0 : World.cell? w12 ⟨w.heap.size, 0, none⟩ = some (.int .u64 h1) := K0b.get 0 rfl
        have K0f0 := Blk.frozen K0b 0
        have K0c1 : World.cell? w12 ⟨w.heap.size, 1, none⟩ = some (.int .u64 l1) := K0b.get 1 rfl
        have K0f1 := Blk.frozen K0b 1
        have K0n := Blk.lt K0b
        have K1m : Blk w12 (w.heap.size + 1) 25 #[.int .u64 h2, .int .u64 l2] := Blk.next (by repeat (first | (with_reducible exact K1b) | (refine Blk.new_at ?_; simp only [World.size_alloc]; done) | (with_reducible refine Blk.alloc ?_ _) | (with_reducible refine Blk.drewN ?_ _))) hb12
        clear K1n K1b K1c0 K1f0 K1c1 K1f1
        have K1b := K1m
        clear K1m
        have K1c0 : World.cell? w12 ⟨w.heap.size + 1, 0, none⟩ = some (.int .u64 h2) := K1b.get 0 rfl
        have K1f0 := Blk.frozen K1b 0
        have K1c1 : World.cell? w12 ⟨w.heap.size + 1, 1, none⟩ = some (.int .u64 l2) := K1b.get 1 rfl
        have K1f1 := Blk.frozen K1b 1
        have K1n := Blk.lt K1b
        have KPm : Blk w12 (w4.heap.size) 25 #[.int .u64 pH, .int .u64 pL] := Blk.next (by repeat (first | (with_reducible exact KPb) | (refine Blk.new_at ?_; simp only [World.size_alloc]; done) | (with_reducible refine Blk.alloc ?_ _) | (with_reducible refine Blk.drewN ?_ _))) hb12
        clear KPn KPb KPc0 KPf0 KPc1 KPf1
        have KPb := KPm
        clear KPm
        have KPc0 : World.cell? w12 ⟨w4.heap.size, 0, none⟩ = some (.int .u64 pH) := KPb.get 0 rfl
        have KPf0 := Blk.frozen KPb 0
        have KPc1 : World.cell? w12 ⟨w4.heap.size, 1, none⟩ = some (.int .u64 pL) := KPb.get 1 rfl
        have KPf1 := Blk.frozen KPb 1
        have KPn := Blk.lt KPb
        have KQm : Blk w12 (q) 25 #[.int .u64 pH, .int .u64 pL] := Blk.next (by repeat (first | (with_reducible exact KQb) | (refine Blk.new_at ?_; simp only [World.size_alloc]; done) | (with_reducible refine Blk.alloc ?_ _) | (with_reducible refine Blk.drewN ?_ _))) hb12
        clear KQn KQb KQc0 KQf0 KQc1 KQf1
        have KQb := KQm
        clear KQm
        have KQc0 : World.cell? w12 ⟨q, 0, none⟩ = some (.int .u64 pH) := KQb.get 0 rfl
        have KQf0 := Blk.frozen KQb 0
        have KQc1 : World.cell? w12 ⟨q, 1, none⟩ = some (.int .u64 pL) := KQb.get 1 rfl
        have KQf1 := Blk.frozen KQb 1
        have KQn := Blk.lt KQb
        have B12 : Below w.heap.size w w12 := by first | with_reducible exact below_next B11 hb12 | exact below_step B11 (by go_grown) hb12
        clear hb12 B11
        go_wp2_with fail
        with_reducible refine (C1.out _).mono ?_
        rintro e w13 ⟨rfl, hb13⟩
        have K0m : Blk w13 (w.heap.size) 25 #[.int .u64 h1, .int .u64 l1] := Blk.next (by repeat (first | (with_reducible exact K0b) | (refine Blk.new_at ?_; simp only [World.size_alloc]; done) | (with_reducible refine Blk.alloc ?_ _) | (with_reducible refine Blk.drewN ?_ _))) hb13
        clear K0n K0b K0c0 K0f0 K0c1 K0f1
        have K0b := K0m
        clear K0m
        have K0c0 : World.cell? w13 ⟨w.heap.size, 0, none⟩ = some (.int .u64 h1) := K0b.get 0 rfl
        have K0f0 := Blk.frozen K0b 0
        have K0c1 : World.cell? w13 ⟨w.heap.size, 1, none⟩ = some (.int .u64 l1) := K0b.get 1 rfl
        have K0f1 := Blk.frozen K0b 1
        have K0n := Blk.lt K0b
        have K1m : Blk w13 (w.heap.size + 1) 25 #[.int .u64 h2, .int .u64 l2] := Blk.next (by repeat (first | (with_reducible exact K1b) | (refine Blk.new_at ?_; simp only [World.size_alloc]; done) | (with_reducible refine Blk.alloc ?_ _) | (with_reducible refine Blk.drewN ?_ _))) hb13
        clear K1n K1b K1c0 K1f0 K1c1 K1f1
        have K1b := K1m
        clear K1m
        have K1c0 : World.cell? w13 ⟨w.heap.size + 1, 0, none⟩ = some (.int .u64 h2) := K1b.get 0 rfl
        have K1f0 := Blk.frozen K1b 0
        have K1c1 : World.cell? w13 ⟨w.heap.size + 1, 1, none⟩ = some (.int .u64 l2) := K1b.get 1 rfl
        have K1f1 := Blk.frozen K1b 1
        have K1n := Blk.lt K1b
        have KPm : Blk w13 (w4.heap.size) 25 #[.int .u64 pH, .int .u64 pL] := Blk.next (by repeat (first | (with_reducible exact KPb) | (refine Blk.new_at ?_; simp only [World.size_alloc]; done) | (with_reducible refine Blk.alloc ?_ _) | (with_reducible refine Blk.drewN ?_ _))) hb13
        clear KPn KPb KPc0 KPf0 KPc1 KPf1
        have KPb := KPm
        clear KPm
        have KPc0 : World.cell? w13 ⟨w4.heap.size, 0, none⟩ = some (.int .u64 pH) := KPb.get 0 rfl
        have KPf0 := Blk.frozen KPb 0
        have KPc1 : World.cell? w13 ⟨w4.heap.size, 1, none⟩ = some (.int .u64 pL) := KPb.get 1 rfl
        have KPf1 := Blk.frozen KPb 1
        have KPn := Blk.lt KPb
        have KQm : Blk w13 (q) 25 #[.int .u64 pH, .int .u64 pL] := Blk.next (by repeat (first | (with_reducible exact KQb) | (refine Blk.new_at ?_; simp only [World.size_alloc]; done) | (with_reducible refine Blk.alloc ?_ _) | (with_reducible refine Blk.drewN ?_ _))) hb13
        clear KQn KQb KQc0 KQf0 KQc1 KQf1
        have KQb := KQm
        clear KQm
        have KQc0 : World.cell? w13 ⟨q, 0, none⟩ = some (.int .u64 pH) := KQb.get 0 rfl
        have KQf0 := Blk.frozen KQb 0
        have KQc1 : World.cell? w13 ⟨q, 1, none⟩ = some (.int .u64 pL) := KQb.get 1 rfl
        have KQf1 := Blk.frozen KQb 1
        have KQn := Blk.lt KQb
        have KYm : Blk w13 (w12.heap.size) 25 #[.int .u64 0, .int .u64 0] := Blk.next (by repeat (first | (refine Blk.new_at ?_; simp only [World.size_alloc]; done) | (with_reducible refine Blk.alloc ?_ _) | (with_reducible refine Blk.drewN ?_ _))) hb13
        have KYb := KYm
        clear KYm
        have KYc0 : World.cell? w13 ⟨w12.heap.size, 0, none⟩ = some (.int .u64 0) := KYb.get 0 rfl
        have KYf0 := Blk.frozen KYb 0
        have KYc1 : World.cell? w13 ⟨w12.heap.size, 1, none⟩ = some (.int .u64 0) := KYb.get 1 rfl
        have KYf1 := Blk.frozen KYb 1
        have KYn := Blk.lt KYb
        have B13 : Below w.heap.size w w13 := by first | with_reducible exact below_next B12 hb13 | exact below_step B12 (by go_grown) hb13
        clear hb13 B12
        go_wp2_with fail
        with_reducible refine (C2.out _).mono ?_
        rintro e w14 ⟨rfl, hb14⟩
        have K0m : Blk w14 (w.heap.size) 25 #[.int .u64 h1, .int .u64 l1] := Blk.next (by repeat (first | (with_reducible exact K0b) | (refine Blk.new_at ?_; simp only [World.size_alloc]; done) | (with_reducible refine Blk.alloc ?_ _) | (with_reducible refine Blk.drewN ?_ _))) hb14
        clear K0n K0b K0c0 K0f0 K0c1 K0f1
        have K0b := K0m
        clear K0m
        have K0c0 : World.cell? w14 ⟨w.heap.size, 0, none⟩ = some (.int .u64 h1) := K0b.get 0 rfl
        have K0f0 := Blk.frozen K0b 0
        have K0c1 : World.cell? w14 ⟨w.heap.size, 1, none⟩ = some (.int .u64 l1) := K0b.get 1 rfl
        have K0f1 := Blk.frozen K0b 1
        have K0n := Blk.lt K0b
        have K1m : Blk w14 (w.heap.size + 1) 25 #[.int .u64 h2, .int .u64 l2] := Blk.next (by repeat (first | (with_reducible exact K1b) | (refine Blk.new_at ?_; simp only [World.size_alloc]; done) | (with_reducible refine Blk.alloc ?_ _) | (with_reducible refine Blk.drewN ?_ _))) hb14
        clear K1n K1b K1c0 K1f0 K1c1 K1f1
        have K1b := K1m
        clear K1m
        have K1c0 : World.cell? w14 ⟨w.heap.size + 1, 0, none⟩ = some (.int .u64 h2) := K1b.get 0 rfl
        have K1f0 := Blk.frozen K1b 0
        have K1c1 : World.cell? w14 ⟨w.heap.size + 1, 1, none⟩ = some (.int .u64 l2) := K1b.get 1 rfl
        have K1f1 := Blk.frozen K1b 1
        have K1n := Blk.lt K1b
        have KPm : Blk w14 (w4.heap.size) 25 #[.int .u64 pH, .int .u64 pL] := Blk.next (by repeat (first | (with_reducible exact KPb) | (refine Blk.new_at ?_; simp only [World.size_alloc]; done) | (with_reducible refine Blk.alloc ?_ _) | (with_reducible refine Blk.drewN ?_ _))) hb14
        clear KPn KPb KPc0 KPf0 KPc1 KPf1
        have KPb := KPm
        clear KPm
        have KPc0 : World.cell? w14 ⟨w4.heap.size, 0, none⟩ = some (.int .u64 pH) := KPb.get 0 rfl
        have KPf0 := Blk.frozen KPb 0
        have KPc1 : World.cell? w14 ⟨w4.heap.size, 1, none⟩ = some (.int .u64 pL) := KPb.get 1 rfl
        have KPf1 := Blk.frozen KPb 1
        have KPn := Blk.lt KPb
        have KQm : Blk w14 (q) 25 #[.int .u64 pH, .int .u64 pL] := Blk.next (by repeat (first | (with_reducible exact KQb) | (refine Blk.new_at ?_; simp only [World.size_alloc]; done) | (with_reducible refine Blk.alloc ?_ _) | (with_reducible refine Blk.drewN ?_ _))) hb14
        clear KQn KQb KQc0 KQf0 KQc1 KQf1
        have KQb := KQm
        clear KQm
        have KQc0 : World.cell? w14 ⟨q, 0, none⟩ = some (.int .u64 pH) := KQb.get 0 rfl
        have KQf0 := Blk.frozen KQb 0
        have KQc1 : World.cell? w14 ⟨q, 1, none⟩ = some (.int .u64 pL) := KQb.get 1 rfl
        have KQf1 := Blk.frozen KQb 1
        have KQn := Blk.lt KQb
        have KYm : Blk w14 (w12.heap.size) 25 #[.int .u64 0, .int .u64 0] := Blk.next (by repeat (first | (with_reducible exact KYb) | (refine Blk.new_at ?_; simp only [World.size_alloc]; done) | (with_reducible refine Blk.alloc ?_ _) | (with_reducible refine Blk.drewN ?_ _))) hb14
        clear KYn KYb KYc0 KYf0 KYc1 KYf1
        have KYb := KYm
        clear KYm
        have KYc0 : World.cell? w14 ⟨w12.heap.size, 0, none⟩ = some (.int .u64 0) := KYb.get 0 rfl
        have KYf0 := Blk.frozen KYb 0
        have KYc1 : World.cell? w14 ⟨w12.heap.size, 1, none⟩ = some (.int .u64 0) := KYb.get 1 rfl
        have KYf1 := Blk.frozen KYb 1
        have KYn := Blk.lt KYb
        have B14 : Below w.heap.size w w14 := by first | with_reducible exact below_next B13 hb14 | exact below_step B13 (by go_grown) hb14
        clear hb14 B13
        go_wp2_with fail
        go_ret
        exact ⟨by simp, B14⟩
    · have PW := Lib.hid (fun w => wplus_val h1 l1 h2 l2 yH yL 0 w v1 v2 v3 v4 g2 g3 g1)
      obtain ⟨d1, d2, d3⟩ := less_of (h1 := yH) (l1 := yL) (h2 := h2) (l2 := l2) v1 v2 g5 v4 (by omega)
      obtain ⟨d4, d5, d6⟩ := less_of (h1 := yH) (l1 := yL) (h2 := h1) (l2 := l1) v3 v4 g5 v2 (by omega)
      have D1 := Lib.hid (fun w => wminus_val yH yL h2 l2 h1 l1 0 w g4 g5 v3 v4 d1 d2 d3)
      have D2 := Lib.hid (fun w => wminus_val yH yL h1 l1 h2 l2 0 w g4 g5 v1 v2 d4 d5 d6)
      have n1 : 0 ≤ wv h1 l1 := by unfold wv Word at *; omega
      have n2 : 0 ≤ wv h2 l2 := by unfold wv Word at *; omega
      obtain ⟨k1, ek1⟩ : ∃ k, cmpN (wv yH yL) (wv h1 l1) = k := ⟨_, rfl⟩
      obtain ⟨k2, ek2⟩ : ∃ k, cmpN (wv yH yL) (wv h2 l2) = k := ⟨_, rfl⟩
      have kk1 : 0 ≤ k1 := by rw [← ek1]; unfold cmpN; split <;> (try split) <;> omega
      have kk2 : 0 ≤ k2 := by rw [← ek2]; unfold cmpN; split <;> (try split) <;> omega
      have C3 := Lib.hid (fun w => cmpw_val yH yL h1 l1 k1 w g5 v2 ek1)
      have C4 := Lib.hid (fun w => cmpw_val yH yL h2 l2 k2 w g5 v4 ek2)
      clear g1 g2 g3 g4 g5 g6 d1 d2 d3 d4 d5 d6 n1 n2 ek1 ek2
      go_enter Try.func6, Try.ntmps6
      go_wp2_with fail
      with_reducible refine (AW.out _).mono ?_
      rintro e w1 ⟨rfl, hb1⟩
      have K0m : Blk w1 (w.heap.size) 25 #[.int .u64 h1, .int .u64 l1] := Blk.next (by repeat (first | (refine Blk.new_at ?_; simp only [World.size_alloc]; done) | (with_reducible refine Blk.alloc ?_ _) | (with_reducible refine Blk.drewN ?_ _))) hb1
      have K0b := K0m
      clear K0m
      have K0c0 : World.cell? w1 ⟨w.heap.size, 0, none⟩ = some (.int .u64 h1) := K0b.get 0 rfl
      have K0f0 := Blk.frozen K0b 0
      have K0c1 : World.cell? w1 ⟨w.heap.size, 1, none⟩ = some (.int .u64 l1) := K0b.get 1 rfl
      have K0f1 := Blk.frozen K0b 1
      have K0n := Blk.lt K0b
      have K1m : Blk w1 (w.heap.size + 1) 25 #[.int .u64 h2, .int .u64 l2] := Blk.next (by repeat (first | (refine Blk.new_at ?_; simp only [World.size_alloc]; done) | (with_reducible refine Blk.alloc ?_ _) | (with_reducible refine Blk.drewN ?_ _))) hb1
      have K1b := K1m
      clear K1m
      have K1c0 : World.cell? w1 ⟨w.heap.size + 1, 0, none⟩ = some (.int .u64 h2) := K1b.get 0 rfl
      have K1f0 := Blk.frozen K1b 0
      have K1c1 : World.cell? w1 ⟨w.heap.size + 1, 1, none⟩ = some (.int .u64 l2) := K1b.get 1 rfl
      have K1f1 := Blk.frozen K1b 1
      have K1n := Blk.lt K1b
      have B1 : Below w.heap.size w w1 := by first | with_reducible exact hb1 | exact Below.trans (by go_grown) (hb1.mono (by simp only [World.size_alloc]; omega))
      clear hb1
      go_wp2_with fail
      with_reducible refine (M1.out _).mono ?_
      rintro e w2 ⟨rfl, hb2⟩
      have K0m : Blk w2 (w.heap.size) 25 #[.int .u64 h1, .int .u64 l1] := Blk.next (by repeat (first | (with_reducible exact K0b) | (refine Blk.new_at ?_; simp only [World.size_alloc]; done) | (with_reducible refine Blk.alloc ?_ _) | (with_reducible refine Blk.drewN ?_ _))) hb2
      clear K0n K0b K0c0 K0f0 K0c1 K0f1
      have K0b := K0m
      clear K0m
      have K0c0 : World.cell? w2 ⟨w.heap.size, 0, none⟩ = some (.int .u64 h1) := K0b.get 0 rfl
      have K0f0 := Blk.frozen K0b 0
      have K0c1 : World.cell? w2 ⟨w.heap.size, 1, none⟩ = some (.int .u64 l1) := K0b.get 1 rfl
      have K0f1 := Blk.frozen K0b 1
      have K0n := Blk.lt K0b
      have K1m : Blk w2 (w.heap.size + 1) 25 #[.int .u64 h2, .int .u64 l2] := Blk.next (by repeat (first | (with_reducible exact K1b) | (refine Blk.new_at ?_; simp only [World.size_alloc]; done) | (with_reducible refine Blk.alloc ?_ _) | (with_reducible refine Blk.drewN ?_ _))) hb2
      clear K1n K1b K1c0 K1f0 K1c1 K1f1
      have K1b := K1m
      clear K1m
      have K1c0 : World.cell? w2 ⟨w.heap.size + 1, 0, none⟩ = some (.int .u64 h2) := K1b.get 0 rfl
      have K1f0 := Blk.frozen K1b 0
      have K1c1 : World.cell? w2 ⟨w.heap.size + 1, 1, none⟩ = some (.int .u64 l2) := K1b.get 1 rfl
      have K1f1 := Blk.frozen K1b 1
      have K1n := Blk.lt K1b
      have KSm : Blk w2 (w1.heap.size) 25 #[.int .u64 0, .int .u64 s] := Blk.next (by repeat (first | (refine Blk.new_at ?_; simp only [World.size_alloc]; done) | (with_reducible refine Blk.alloc ?_ _) | (with_reducible refine Blk.drewN ?_ _))) hb2
      have KSb := KSm
      clear KSm
      have KSc0 : World.cell? w2 ⟨w1.heap.size, 0, none⟩ = some (.int .u64 0) := KSb.get 0 rfl
      have KSf0 := Blk.frozen KSb 0
      have KSc1 : World.cell? w2 ⟨w1.heap.size, 1, none⟩ = some (.int .u64 s) := KSb.get 1 rfl
      have KSf1 := Blk.frozen KSb 1
      have KSn := Blk.lt KSb
      have B2 : Below w.heap.size w w2 := by first | with_reducible exact below_next B1 hb2 | exact below_step B1 (by go_grown) hb2
      clear hb2 B1
      go_wp2_with fail
      with_reducible refine (M2.out _).mono ?_
      rintro e w3 ⟨rfl, hb3⟩
      have K0m : Blk w3 (w.heap.size) 25 #[.int .u64 h1, .int .u64 l1] := Blk.next (by repeat (first | (with_reducible exact K0b) | (refine Blk.new_at ?_; simp only [World.size_alloc]; done) | (with_reducible refine Blk.alloc ?_ _) | (with_reducible refine Blk.drewN ?_ _))) hb3
      clear K0n K0b K0c0 K0f0 K0c1 K0f1
      have K0b := K0m
      clear K0m
      have K0c0 : World.cell? w3 ⟨w.heap.size, 0, none⟩ = some (.int .u64 h1) := K0b.get 0 rfl
      have K0f0 := Blk.frozen K0b 0
      have K0c1 : World.cell? w3 ⟨w.heap.size, 1, none⟩ = some (.int .u64 l1) := K0b.get 1 rfl
      have K0f1 := Blk.frozen K0b 1
      have K0n := Blk.lt K0b
      have K1m : Blk w3 (w.heap.size + 1) 25 #[.int .u64 h2, .int .u64 l2] := Blk.next (by repeat (first | (with_reducible exact K1b) | (refine Blk.new_at ?_; simp only [World.size_alloc]; done) | (with_reducible refine Blk.alloc ?_ _) | (with_reducible refine Blk.drewN ?_ _))) hb3
      clear K1n K1b K1c0 K1f0 K1c1 K1f1
      have K1b := K1m
      clear K1m
      have K1c0 : World.cell? w3 ⟨w.heap.size + 1, 0, none⟩ = some (.int .u64 h2) := K1b.get 0 rfl
      have K1f0 := Blk.frozen K1b 0
      have K1c1 : World.cell? w3 ⟨w.heap.size + 1, 1, none⟩ = some (.int .u64 l2) := K1b.get 1 rfl
      have K1f1 := Blk.frozen K1b 1
      have K1n := Blk.lt K1b
      have KSm : Blk w3 (w1.heap.size) 25 #[.int .u64 0, .int .u64 s] := Blk.next (by repeat (first | (with_reducible exact KSb) | (refine Blk.new_at ?_; simp only [World.size_alloc]; done) | (with_reducible refine Blk.alloc ?_ _) | (with_reducible refine Blk.drewN ?_ _))) hb3
      clear KSn KSb KSc0 KSf0 KSc1 KSf1
      have KSb := KSm
      clear KSm
      have KSc0 : World.cell? w3 ⟨w1.heap.size, 0, none⟩ = some (.int .u64 0) := KSb.get 0 rfl
      have KSf0 := Blk.frozen KSb 0
      have KSc1 : World.cell? w3 ⟨w1.heap.size, 1, none⟩ = some (.int .u64 s) := KSb.get 1 rfl
      have KSf1 := Blk.frozen KSb 1
      have KSn := Blk.lt KSb
      have B3 : Below w.heap.size w w3 := by first | with_reducible exact below_next B2 hb3 | exact below_step B2 (by go_grown) hb3
      clear hb3 B2
      go_wp2_with fail
      with_reducible refine (P1.out _).mono ?_
      rintro e w4 ⟨rfl, hb4⟩
      have K0m : Blk w4 (w.heap.size) 25 #[.int .u64 h1, .int .u64 l1] := Blk.next (by repeat (first | (with_reducible exact K0b) | (refine Blk.new_at ?_; simp only [World.size_alloc]; done) | (with_reducible refine Blk.alloc ?_ _) | (with_reducible refine Blk.drewN ?_ _))) hb4
      clear K0n K0b K0c0 K0f0 K0c1 K0f1
      have K0b := K0m
      clear K0m
      have K0c0 : World.cell? w4 ⟨w.heap.size, 0, none⟩ = some (.int .u64 h1) := K0b.get 0 rfl
      have K0f0 := Blk.frozen K0b 0
      have K0c1 : World.cell? w4 ⟨w.heap.size, 1, none⟩ = some (.int .u64 l1) := K0b.get 1 rfl
      have K0f1 := Blk.frozen K0b 1
      have K0n := Blk.lt K0b
      have K1m : Blk w4 (w.heap.size + 1) 25 #[.int .u64 h2, .int .u64 l2] := Blk.next (by repeat (first | (with_reducible exact K1b) | (refine Blk.new_at ?_; simp only [World.size_alloc]; done) | (with_reducible refine Blk.alloc ?_ _) | (with_reducible refine Blk.drewN ?_ _))) hb4
      clear K1n K1b K1c0 K1f0 K1c1 K1f1
      have K1b := K1m
      clear K1m
      have K1c0 : World.cell? w4 ⟨w.heap.size + 1, 0, none⟩ = some (.int .u64 h2) := K1b.get 0 rfl
      have K1f0 := Blk.frozen K1b 0
      have K1c1 : World.cell? w4 ⟨w.heap.size + 1, 1, none⟩ = some (.int .u64 l2) := K1b.get 1 rfl
      have K1f1 := Blk.frozen K1b 1
      have K1n := Blk.lt K1b
      have KSm : Blk w4 (w1.heap.size) 25 #[.int .u64 0, .int .u64 s] := Blk.next (by repeat (first | (with_reducible exact KSb) | (refine Blk.new_at ?_; simp only [World.size_alloc]; done) | (with_reducible refine Blk.alloc ?_ _) | (with_reducible refine Blk.drewN ?_ _))) hb4
      clear KSn KSb KSc0 KSf0 KSc1 KSf1
      have KSb := KSm
      clear KSm
      have KSc0 : World.cell? w4 ⟨w1.heap.size, 0, none⟩ = some (.int .u64 0) := KSb.get 0 rfl
      have KSf0 := Blk.frozen KSb 0
      have KSc1 : World.cell? w4 ⟨w1.heap.size, 1, none⟩ = some (.int .u64 s) := KSb.get 1 rfl
      have KSf1 := Blk.frozen KSb 1
      have KSn := Blk.lt KSb
      have B4 : Below w.heap.size w w4 := by first | with_reducible exact below_next B3 hb4 | exact below_step B3 (by go_grown) hb4
      clear hb4 B3
      go_wp2_with fail
      have G0 := Blk.alloc K0b (.cells #[.int .u64 pH, .int .u64 pL] 25)
      have G1 := Blk.alloc K1b (.cells #[.int .u64 pH, .int .u64 pL] 25)
      have GS := Blk.alloc KSb (.cells #[.int .u64 pH, .int .u64 pL] 25)
      have GP := Blk.new w4 25 #[.int .u64 pH, .int .u64 pL]
      have BB := B4.alloc B4.size (.cells #[.int .u64 pH, .int .u64 pL] 25)
      obtain ⟨w5, hw5⟩ : ∃ W, w4.alloc (.cells #[.int .u64 pH, .int .u64 pL] 25) = W := ⟨_, rfl⟩
      rw [hw5] at G0 G1 GS GP BB
      rw [hw5]
      clear hw5 K0b K0c0 K0c1 K0f0 K0f1 K0n K1b K1c0 K1c1 K1f0 K1f1 K1n KSb KSc0 KSc1 KSf0 KSf1 KSn B4
      have hs0 := GS.get 0 rfl
      have hlt5 := GS.lt
      have S5 : ∀ w', Below w5.heap.size w5 w' → w'.cell? ⟨w1.heap.size, 0, none⟩ = some (.int .u64 0) ∧ Below w5.heap.size w5 w' := fun w' hb => ⟨(hb.cell (p := ⟨w1.heap.size, 0, none⟩) hlt5).trans hs0, hb⟩
      have S6 := Lib.hid S5
      clear S5
      go_cut [15, 16] (fun qv ev wc => ∃ q : Nat, qv = .pointer (some ⟨q, 0, none⟩) ∧ ev = .int .i64 pE ∧ Blk wc q 25 #[.int .u64 pH, .int .u64 pL] ∧ Below w5.heap.size w5 wc)
      case first =>
        go_region_held3 (fun w' => w'.cell? ⟨w1.heap.size, 0, none⟩ = some (.int .u64 0) ∧ Below w5.heap.size w5 w') (first | (exact S6.out _ (Below.refl _ _)) | (exact S6.out _ (below_of_drew (Below.refl _ _))) | assumption | (exact S6.out _ hS7) | (exact S6.out _ (hS7.alloc hS7.size _)) | (exact S6.out _ (hS6.alloc hS6.size _)) | (exact S6.out _ hS6) | (exact S6.out _ (balloc5 w1.heap.size (.int .u64 0) ‹_› _)) | (exact S6.out _ ((below_of_drew (Below.refl _ _)).alloc (Nat.le_refl _) _)) | (exact S6.out _ (hS7.setCell (by first | exact Nat.le_refl _ | exact hS6.size) _)) | (exact S6.out _ ((hS7.setCell (by first | exact Nat.le_refl _ | exact hS6.size) _).setCell (by first | exact Nat.le_refl _ | exact hS6.size) _)))
          (first | ((with_reducible refine (M3.out _).mono ?_); rintro e w6 ⟨rfl, hb6⟩; have hS6 : Below w5.heap.size w5 w6 := (by first | (refine bnext5 w1.heap.size (.int .u64 0) ?_ hb6; with_reducible assumption) | exact below_next (below_of_drew (Below.refl _ _)) hb6 | exact below_next ((below_of_drew (Below.refl _ _)).alloc (Nat.le_refl _) _) hb6); (try (have Y : Blk w6 w5.heap.size 25 #[.int .u64 0, .int .u64 0] := Blk.next (Blk.new w5.drew 25 #[.int .u64 0, .int .u64 0]) hb6; have Y0 : World.cell? w6 ⟨w5.heap.size, 0, none⟩ = some (.int .u64 0) := Y.get 0 rfl; have Y1 : World.cell? w6 ⟨w5.heap.size, 1, none⟩ = some (.int .u64 0) := Y.get 1 rfl; have Y2 : World.frozen? w6 ⟨w5.heap.size, 0, none⟩ = false := Y.frozen 0; have Y3 : World.frozen? w6 ⟨w5.heap.size, 1, none⟩ = false := Y.frozen 1; have Y4 := Y.lt))) | ((with_reducible refine (P2.out _).mono ?_); rintro e w7 ⟨rfl, hb7⟩; have hS7 : Below w5.heap.size w5 w7 := (by first | (refine bnext5 w1.heap.size (.int .u64 0) ?_ hb7; assumption) | exact below_next hS6 hb7); (first | (have Y : Blk w7 w5.heap.size 25 #[.int .u64 0, .int .u64 0] := Blk.next Y hb7; have Y0 : World.cell? w7 ⟨w5.heap.size, 0, none⟩ = some (.int .u64 0) := Y.get 0 rfl; have Y1 : World.cell? w7 ⟨w5.heap.size, 1, none⟩ = some (.int .u64 0) := Y.get 1 rfl; have Y2 : World.frozen? w7 ⟨w5.heap.size, 0, none⟩ = false := Y.frozen 0; have Y3 : World.frozen? w7 ⟨w5.heap.size, 1, none⟩ = false := Y.frozen 1; have Y4 := Y.lt) | (have Y : Blk w7 w6.heap.size 25 #[.int .u64 0, .int .u64 0] := Blk.next (Blk.new w6 25 #[.int .u64 0, .int .u64 0]) hb7; have Y0 : World.cell? w7 ⟨w6.heap.size, 0, none⟩ = some (.int .u64 0) := Y.get 0 rfl; have Y1 : World.cell? w7 ⟨w6.heap.size, 1, none⟩ = some (.int .u64 0) := Y.get 1 rfl; have Y2 : World.frozen? w7 ⟨w6.heap.size, 0, none⟩ = false := Y.frozen 0; have Y3 : World.frozen? w7 ⟨w6.heap.size, 1, none⟩ = false := Y.frozen 1; have Y4 := Y.lt) | skip)))
        all_goals go_wp2_with fail
        all_goals go_meet
        all_goals first
          | exact ⟨_, rfl, rfl, Blk.new w7 _ _, hS7.alloc hS7.size _⟩
          | exact ⟨_, rfl, rfl, Blk.put (Blk.put Y 0 _) 1 _, (hS7.setCell (Nat.le_refl _) _).setCell (Nat.le_refl _) _⟩
          | exact ⟨_, rfl, rfl, Blk.put (Blk.put Y 0 _) 1 _, (hS7.setCell hS6.size _).setCell hS6.size _⟩
      case rest =>
        obtain ⟨q, rfl, rfl, KQb, hbc⟩ := hcut
        obtain ⟨w7, rfl⟩ : ∃ x, x = wc := ⟨_, rfl⟩
        have B7 := below_next BB hbc
        have K0b : Blk w7 (w.heap.size) 25 #[.int .u64 h1, .int .u64 l1] := Blk.next G0 hbc
        have K0c0 : World.cell? w7 ⟨w.heap.size, 0, none⟩ = some (.int .u64 h1) := K0b.get 0 rfl
        have K0f0 := Blk.frozen K0b 0
        have K0c1 : World.cell? w7 ⟨w.heap.size, 1, none⟩ = some (.int .u64 l1) := K0b.get 1 rfl
        have K0f1 := Blk.frozen K0b 1
        have K0n := Blk.lt K0b
        have K1b : Blk w7 (w.heap.size + 1) 25 #[.int .u64 h2, .int .u64 l2] := Blk.next G1 hbc
        have K1c0 : World.cell? w7 ⟨w.heap.size + 1, 0, none⟩ = some (.int .u64 h2) := K1b.get 0 rfl
        have K1f0 := Blk.frozen K1b 0
        have K1c1 : World.cell? w7 ⟨w.heap.size + 1, 1, none⟩ = some (.int .u64 l2) := K1b.get 1 rfl
        have K1f1 := Blk.frozen K1b 1
        have K1n := Blk.lt K1b
        have KPb : Blk w7 (w4.heap.size) 25 #[.int .u64 pH, .int .u64 pL] := Blk.next GP hbc
        have KPc0 : World.cell? w7 ⟨w4.heap.size, 0, none⟩ = some (.int .u64 pH) := KPb.get 0 rfl
        have KPf0 := Blk.frozen KPb 0
        have KPc1 : World.cell? w7 ⟨w4.heap.size, 1, none⟩ = some (.int .u64 pL) := KPb.get 1 rfl
        have KPf1 := Blk.frozen KPb 1
        have KPn := Blk.lt KPb
        have KQb : Blk w7 (q) 25 #[.int .u64 pH, .int .u64 pL] := KQb
        have KQc0 : World.cell? w7 ⟨q, 0, none⟩ = some (.int .u64 pH) := KQb.get 0 rfl
        have KQf0 := Blk.frozen KQb 0
        have KQc1 : World.cell? w7 ⟨q, 1, none⟩ = some (.int .u64 pL) := KQb.get 1 rfl
        have KQf1 := Blk.frozen KQb 1
        have KQn := Blk.lt KQb
        clear G0 G1 GS GP BB hs0 hlt5 hbc S6
        go_wp2_with fail
        with_reducible refine (M1.out _).mono ?_
        rintro e w8 ⟨rfl, hb8⟩
        have K0m : Blk w8 (w.heap.size) 25 #[.int .u64 h1, .int .u64 l1] := Blk.next (by repeat (first | (with_reducible exact K0b) | (refine Blk.new_at ?_; simp only [World.size_alloc]; done) | (with_reducible refine Blk.alloc ?_ _) | (with_reducible refine Blk.drewN ?_ _))) hb8
        clear K0n K0b K0c0 K0f0 K0c1 K0f1
        have K0b := K0m
        clear K0m
        have K0c0 : World.cell? w8 ⟨w.heap.size, 0, none⟩ = some (.int .u64 h1) := K0b.get 0 rfl
        have K0f0 := Blk.frozen K0b 0
        have K0c1 : World.cell? w8 ⟨w.heap.size, 1, none⟩ = some (.int .u64 l1) := K0b.get 1 rfl
        have K0f1 := Blk.frozen K0b 1
        have K0n := Blk.lt K0b
        have K1m : Blk w8 (w.heap.size + 1) 25 #[.int .u64 h2, .int .u64 l2] := Blk.next (by repeat (first | (with_reducible exact K1b) | (refine Blk.new_at ?_; simp only [World.size_alloc]; done) | (with_reducible refine Blk.alloc ?_ _) | (with_reducible refine Blk.drewN ?_ _))) hb8
        clear K1n K1b K1c0 K1f0 K1c1 K1f1
        have K1b := K1m
        clear K1m
        have K1c0 : World.cell? w8 ⟨w.heap.size + 1, 0, none⟩ = some (.int .u64 h2) := K1b.get 0 rfl
        have K1f0 := Blk.frozen K1b 0
        have K1c1 : World.cell? w8 ⟨w.heap.size + 1, 1, none⟩ = some (.int .u64 l2) := K1b.get 1 rfl
        have K1f1 := Blk.frozen K1b 1
        have K1n := Blk.lt K1b
        have KPm : Blk w8 (w4.heap.size) 25 #[.int .u64 pH, .int .u64 pL] := Blk.next (by repeat (first | (with_reducible exact KPb) | (refine Blk.new_at ?_; simp only [World.size_alloc]; done) | (with_reducible refine Blk.alloc ?_ _) | (with_reducible refine Blk.drewN ?_ _))) hb8
        clear KPn KPb KPc0 KPf0 KPc1 KPf1
        have KPb := KPm
        clear KPm
        have KPc0 : World.cell? w8 ⟨w4.heap.size, 0, none⟩ = some (.int .u64 pH) := KPb.get 0 rfl
        have KPf0 := Blk.frozen KPb 0
        have KPc1 : World.cell? w8 ⟨w4.heap.size, 1, none⟩ = some (.int .u64 pL) := KPb.get 1 rfl
        have KPf1 := Blk.frozen KPb 1
        have KPn := Blk.lt KPb
        have KQm : Blk w8 (q) 25 #[.int .u64 pH, .int .u64 pL] := Blk.next (by repeat (first | (with_reducible exact KQb) | (refine Blk.new_at ?_; simp only [World.size_alloc]; done) | (with_reducible refine Blk.alloc ?_ _) | (with_reducible refine Blk.drewN ?_ _))) hb8
        clear KQn KQb KQc0 KQf0 KQc1 KQf1
        have KQb := KQm
        clear KQm
        have KQc0 : World.cell? w8 ⟨q, 0, none⟩ = some (.int .u64 pH) := KQb.get 0 rfl
        have KQf0 := Blk.frozen KQb 0
        have KQc1 : World.cell? w8 ⟨q, 1, none⟩ = some (.int .u64 pL) := KQb.get 1 rfl
        have KQf1 := Blk.frozen KQb 1
        have KQn := Blk.lt KQb
        have B8 : Below w.heap.size w w8 := by first | with_reducible exact below_next B7 hb8 | exact below_step B7 (by go_grown) hb8
        clear hb8 B7
        go_wp2_with fail
        with_reducible refine (M4.out _).mono ?_
        rintro e w9 ⟨rfl, hb9⟩
        have K0m : Blk w9 (w.heap.size) 25 #[.int .u64 h1, .int .u64 l1] := Blk.next (by repeat (first | (with_reducible exact K0b) | (refine Blk.new_at ?_; simp only [World.size_alloc]; done) | (with_reducible refine Blk.alloc ?_ _) | (with_reducible refine Blk.drewN ?_ _))) hb9
        clear K0n K0b K0c0 K0f0 K0c1 K0f1
        have K0b := K0m
        clear K0m
        have K0c0 : World.cell? w9 ⟨w.heap.size, 0, none⟩ = some (.int .u64 h1) := K0b.get 0 rfl
        have K0f0 := Blk.frozen K0b 0
        have K0c1 : World.cell? w9 ⟨w.heap.size, 1, none⟩ = some (.int .u64 l1) := K0b.get 1 rfl
        have K0f1 := Blk.frozen K0b 1
        have K0n := Blk.lt K0b
        have K1m : Blk w9 (w.heap.size + 1) 25 #[.int .u64 h2, .int .u64 l2] := Blk.next (by repeat (first | (with_reducible exact K1b) | (refine Blk.new_at ?_; simp only [World.size_alloc]; done) | (with_reducible refine Blk.alloc ?_ _) | (with_reducible refine Blk.drewN ?_ _))) hb9
        clear K1n K1b K1c0 K1f0 K1c1 K1f1
        have K1b := K1m
        clear K1m
        have K1c0 : World.cell? w9 ⟨w.heap.size + 1, 0, none⟩ = some (.int .u64 h2) := K1b.get 0 rfl
        have K1f0 := Blk.frozen K1b 0
        have K1c1 : World.cell? w9 ⟨w.heap.size + 1, 1, none⟩ = some (.int .u64 l2) := K1b.get 1 rfl
        have K1f1 := Blk.frozen K1b 1
        have K1n := Blk.lt K1b
        have KPm : Blk w9 (w4.heap.size) 25 #[.int .u64 pH, .int .u64 pL] := Blk.next (by repeat (first | (with_reducible exact KPb) | (refine Blk.new_at ?_; simp only [World.size_alloc]; done) | (with_reducible refine Blk.alloc ?_ _) | (with_reducible refine Blk.drewN ?_ _))) hb9
        clear KPn KPb KPc0 KPf0 KPc1 KPf1
        have KPb := KPm
        clear KPm
        have KPc0 : World.cell? w9 ⟨w4.heap.size, 0, none⟩ = some (.int .u64 pH) := KPb.get 0 rfl
        have KPf0 := Blk.frozen KPb 0
        have KPc1 : World.cell? w9 ⟨w4.heap.size, 1, none⟩ = some (.int .u64 pL) := KPb.get 1 rfl
        have KPf1 := Blk.frozen KPb 1
        have KPn := Blk.lt KPb
        have KQm : Blk w9 (q) 25 #[.int .u64 pH, .int .u64 pL] := Blk.next (by repeat (first | (with_reducible exact KQb) | (refine Blk.new_at ?_; simp only [World.size_alloc]; done) | (with_reducible refine Blk.alloc ?_ _) | (with_reducible refine Blk.drewN ?_ _))) hb9
        clear KQn KQb KQc0 KQf0 KQc1 KQf1
        have KQb := KQm
        clear KQm
        have KQc0 : World.cell? w9 ⟨q, 0, none⟩ = some (.int .u64 pH) := KQb.get 0 rfl
        have KQf0 := Blk.frozen KQb 0
        have KQc1 : World.cell? w9 ⟨q, 1, none⟩ = some (.int .u64 pL) := KQb.get 1 rfl
        have KQf1 := Blk.frozen KQb 1
        have KQn := Blk.lt KQb
        have B9 : Below w.heap.size w w9 := by first | with_reducible exact below_next B8 hb9 | exact below_step B8 (by go_grown) hb9
        clear hb9 B8
        go_wp2_with fail
        with_reducible refine (M5.out _).mono ?_
        rintro e w10 ⟨rfl, hb10⟩
        have K0m : Blk w10 (w.heap.size) 25 #[.int .u64 h1, .int .u64 l1] := Blk.next (by repeat (first | (with_reducible exact K0b) | (refine Blk.new_at ?_; simp only [World.size_alloc]; done) | (with_reducible refine Blk.alloc ?_ _) | (with_reducible refine Blk.drewN ?_ _))) hb10
        clear K0n K0b K0c0 K0f0 K0c1 K0f1
        have K0b := K0m
        clear K0m
        have K0c0 : World.cell? w10 ⟨w.heap.size, 0, none⟩ = some (.int .u64 h1) := K0b.get 0 rfl
        have K0f0 := Blk.frozen K0b 0
        have K0c1 : World.cell? w10 ⟨w.heap.size, 1, none⟩ = some (.int .u64 l1) := K0b.get 1 rfl
        have K0f1 := Blk.frozen K0b 1
        have K0n := Blk.lt K0b
        have K1m : Blk w10 (w.heap.size + 1) 25 #[.int .u64 h2, .int .u64 l2] := Blk.next (by repeat (first | (with_reducible exact K1b) | (refine Blk.new_at ?_; simp only [World.size_alloc]; done) | (with_reducible refine Blk.alloc ?_ _) | (with_reducible refine Blk.drewN ?_ _))) hb10
        clear K1n K1b K1c0 K1f0 K1c1 K1f1
        have K1b := K1m
        clear K1m
        have K1c0 : World.cell? w10 ⟨w.heap.size + 1, 0, none⟩ = some (.int .u64 h2) := K1b.get 0 rfl
        have K1f0 := Blk.frozen K1b 0
        have K1c1 : World.cell? w10 ⟨w.heap.size + 1, 1, none⟩ = some (.int .u64 l2) := K1b.get 1 rfl
        have K1f1 := Blk.frozen K1b 1
        have K1n := Blk.lt K1b
        have KPm : Blk w10 (w4.heap.size) 25 #[.int .u64 pH, .int .u64 pL] := Blk.next (by repeat (first | (with_reducible exact KPb) | (refine Blk.new_at ?_; simp only [World.size_alloc]; done) | (with_reducible refine Blk.alloc ?_ _) | (with_reducible refine Blk.drewN ?_ _))) hb10
        clear KPn KPb KPc0 KPf0 KPc1 KPf1
        have KPb := KPm
        clear KPm
        have KPc0 : World.cell? w10 ⟨w4.heap.size, 0, none⟩ = some (.int .u64 pH) := KPb.get 0 rfl
        have KPf0 := Blk.frozen KPb 0
        have KPc1 : World.cell? w10 ⟨w4.heap.size, 1, none⟩ = some (.int .u64 pL) := KPb.get 1 rfl
        have KPf1 := Blk.frozen KPb 1
        have KPn := Blk.lt KPb
        have KQm : Blk w10 (q) 25 #[.int .u64 pH, .int .u64 pL] := Blk.next (by repeat (first | (with_reducible exact KQb) | (refine Blk.new_at ?_; simp only [World.size_alloc]; done) | (with_reducible refine Blk.alloc ?_ _) | (with_reducible refine Blk.drewN ?_ _))) hb10
        clear KQn KQb KQc0 KQf0 KQc1 KQf1
        have KQb := KQm
        clear KQm
        have KQc0 : World.cell? w10 ⟨q, 0, none⟩ = some (.int .u64 pH) := KQb.get 0 rfl
        have KQf0 := Blk.frozen KQb 0
        have KQc1 : World.cell? w10 ⟨q, 1, none⟩ = some (.int .u64 pL) := KQb.get 1 rfl
        have KQf1 := Blk.frozen KQb 1
        have KQn := Blk.lt KQb
        have B10 : Below w.heap.size w w10 := by first | with_reducible exact below_next B9 hb10 | exact below_step B9 (by go_grown) hb10
        clear hb10 B9
        go_wp2_with fail
        with_reducible refine (M6.out _).mono ?_
        rintro e w11 ⟨rfl, hb11⟩
        have K0m : Blk w11 (w.heap.size) 25 #[.int .u64 h1, .int .u64 l1] := Blk.next (by repeat (first | (with_reducible exact K0b) | (refine Blk.new_at ?_; simp only [World.size_alloc]; done) | (with_reducible refine Blk.alloc ?_ _) | (with_reducible refine Blk.drewN ?_ _))) hb11
        clear K0n K0b K0c0 K0f0 K0c1 K0f1
        have K0b := K0m
        clear K0m
        have K0c0 : World.cell? w11 ⟨w.heap.size, 0, none⟩ = some (.int .u64 h1) := K0b.get 0 rfl
        have K0f0 := Blk.frozen K0b 0
        have K0c1 : World.cell? w11 ⟨w.heap.size, 1, none⟩ = some (.int .u64 l1) := K0b.get 1 rfl
        have K0f1 := Blk.frozen K0b 1
        have K0n := Blk.lt K0b
        have K1m : Blk w11 (w.heap.size + 1) 25 #[.int .u64 h2, .int .u64 l2] := Blk.next (by repeat (first | (with_reducible exact K1b) | (refine Blk.new_at ?_; simp only [World.size_alloc]; done) | (with_reducible refine Blk.alloc ?_ _) | (with_reducible refine Blk.drewN ?_ _))) hb11
        clear K1n K1b K1c0 K1f0 K1c1 K1f1
        have K1b := K1m
        clear K1m
        have K1c0 : World.cell? w11 ⟨w.heap.size + 1, 0, none⟩ = some (.int .u64 h2) := K1b.get 0 rfl
        have K1f0 := Blk.frozen K1b 0
        have K1c1 : World.cell? w11 ⟨w.heap.size + 1, 1, none⟩ = some (.int .u64 l2) := K1b.get 1 rfl
        have K1f1 := Blk.frozen K1b 1
        have K1n := Blk.lt K1b
        have KPm : Blk w11 (w4.heap.size) 25 #[.int .u64 pH, .int .u64 pL] := Blk.next (by repeat (first | (with_reducible exact KPb) | (refine Blk.new_at ?_; simp only [World.size_alloc]; done) | (with_reducible refine Blk.alloc ?_ _) | (with_reducible refine Blk.drewN ?_ _))) hb11
        clear KPn KPb KPc0 KPf0 KPc1 KPf1
        have KPb := KPm
        clear KPm
        have KPc0 : World.cell? w11 ⟨w4.heap.size, 0, none⟩ = some (.int .u64 pH) := KPb.get 0 rfl
        have KPf0 := Blk.frozen KPb 0
        have KPc1 : World.cell? w11 ⟨w4.heap.size, 1, none⟩ = some (.int .u64 pL) := KPb.get 1 rfl
        have KPf1 := Blk.frozen KPb 1
        have KPn := Blk.lt KPb
        have KQm : Blk w11 (q) 25 #[.int .u64 pH, .int .u64 pL] := Blk.next (by repeat (first | (with_reducible exact KQb) | (refine Blk.new_at ?_; simp only [World.size_alloc]; done) | (with_reducible refine Blk.alloc ?_ _) | (with_reducible refine Blk.drewN ?_ _))) hb11
        clear KQn KQb KQc0 KQf0 KQc1 KQf1
        have KQb := KQm
        clear KQm
        have KQc0 : World.cell? w11 ⟨q, 0, none⟩ = some (.int .u64 pH) := KQb.get 0 rfl
        have KQf0 := Blk.frozen KQb 0
        have KQc1 : World.cell? w11 ⟨q, 1, none⟩ = some (.int .u64 pL) := KQb.get 1 rfl
        have KQf1 := Blk.frozen KQb 1
        have KQn := Blk.lt KQb
        have B11 : Below w.heap.size w w11 := by first | with_reducible exact below_next B10 hb11 | exact below_step B10 (by go_grown) hb11
        clear hb11 B10
        go_wp2_with fail
        with_reducible refine (PW.out _).mono ?_
        rintro e w12 ⟨rfl, hb12⟩
        have K0m : Blk w12 (w.heap.size) 25 #[.int .u64 h1, .int .u64 l1] := Blk.next (by repeat (first | (with_reducible exact K0b) | (refine Blk.new_at ?_; simp only [World.size_alloc]; done) | (with_reducible refine Blk.alloc ?_ _) | (with_reducible refine Blk.drewN ?_ _))) hb12
        clear K0n K0b K0c0 K0f0 K0c1 K0f1
        have K0b := K0m
        clear K0m
        have K0c0 : World.cell? w12 ⟨w.heap.size, 0, none⟩ = some (.int .u64 h1) := K0b.get 0 rfl
        have K0f0 := Blk.frozen K0b 0
        have K0c1 : World.cell? w12 ⟨w.heap.size, 1, none⟩ = some (.int .u64 l1) := K0b.get 1 rfl
        have K0f1 := Blk.frozen K0b 1
        have K0n := Blk.lt K0b
        have K1m : Blk w12 (w.heap.size + 1) 25 #[.int .u64 h2, .int .u64 l2] := Blk.next (by repeat (first | (with_reducible exact K1b) | (refine Blk.new_at ?_; simp only [World.size_alloc]; done) | (with_reducible refine Blk.alloc ?_ _) | (with_reducible refine Blk.drewN ?_ _))) hb12
        clear K1n K1b K1c0 K1f0 K1c1 K1f1
        have K1b := K1m
        clear K1m
        have K1c0 : World.cell? w12 ⟨w.heap.size + 1, 0, none⟩ = some (.int .u64 h2) := K1b.get 0 rfl
        have K1f0 := Blk.frozen K1b 0
        have K1c1 : World.cell? w12 ⟨w.heap.size + 1, 1, none⟩ = some (.int .u64 l2) := K1b.get 1 rfl
        have K1f1 := Blk.frozen K1b 1
        have K1n := Blk.lt K1b
        have KPm : Blk w12 (w4.heap.size) 25 #[.int .u64 pH, .int .u64 pL] := Blk.next (by repeat (first | (with_reducible exact KPb) | (refine Blk.new_at ?_; simp only [World.size_alloc]; done) | (with_reducible refine Blk.alloc ?_ _) | (with_reducible refine Blk.drewN ?_ _))) hb12
        clear KPn KPb KPc0 KPf0 KPc1 KPf1
        have KPb := KPm
        clear KPm
        have KPc0 : World.cell? w12 ⟨w4.heap.size, 0, none⟩ = some (.int .u64 pH) := KPb.get 0 rfl
        have KPf0 := Blk.frozen KPb 0
        have KPc1 : World.cell? w12 ⟨w4.heap.size, 1, none⟩ = some (.int .u64 pL) := KPb.get 1 rfl
        have KPf1 := Blk.frozen KPb 1
        have KPn := Blk.lt KPb
        have KQm : Blk w12 (q) 25 #[.int .u64 pH, .int .u64 pL] := Blk.next (by repeat (first | (with_reducible exact KQb) | (refine Blk.new_at ?_; simp only [World.size_alloc]; done) | (with_reducible refine Blk.alloc ?_ _) | (with_reducible refine Blk.drewN ?_ _))) hb12
        clear KQn KQb KQc0 KQf0 KQc1 KQf1
        have KQb := KQm
        clear KQm
        have KQc0 : World.cell? w12 ⟨q, 0, none⟩ = some (.int .u64 pH) := KQb.get 0 rfl
        have KQf0 := Blk.frozen KQb 0
        have KQc1 : World.cell? w12 ⟨q, 1, none⟩ = some (.int .u64 pL) := KQb.get 1 rfl
        have KQf1 := Blk.frozen KQb 1
        have KQn := Blk.lt KQb
        have B12 : Below w.heap.size w w12 := by first | with_reducible exact below_next B11 hb12 | exact below_step B11 (by go_grown) hb12
        clear hb12 B11
        go_wp2_with fail
        with_reducible refine (D1.out _).mono ?_
        rintro e w13 ⟨rfl, hb13⟩
        have K0m : Blk w13 (w.heap.size) 25 #[.int .u64 h1, .int .u64 l1] := Blk.next (by repeat (first | (with_reducible exact K0b) | (refine Blk.new_at ?_; simp only [World.size_alloc]; done) | (with_reducible refine Blk.alloc ?_ _) | (with_reducible refine Blk.drewN ?_ _))) hb13
        clear K0n K0b K0c0 K0f0 K0c1 K0f1
        have K0b := K0m
        clear K0m
        have K0c0 : World.cell? w13 ⟨w.heap.size, 0, none⟩ = some (.int .u64 h1) := K0b.get 0 rfl
        have K0f0 := Blk.frozen K0b 0
        have K0c1 : World.cell? w13 ⟨w.heap.size, 1, none⟩ = some (.int .u64 l1) := K0b.get 1 rfl
        have K0f1 := Blk.frozen K0b 1
        have K0n := Blk.lt K0b
        have K1m : Blk w13 (w.heap.size + 1) 25 #[.int .u64 h2, .int .u64 l2] := Blk.next (by repeat (first | (with_reducible exact K1b) | (refine Blk.new_at ?_; simp only [World.size_alloc]; done) | (with_reducible refine Blk.alloc ?_ _) | (with_reducible refine Blk.drewN ?_ _))) hb13
        clear K1n K1b K1c0 K1f0 K1c1 K1f1
        have K1b := K1m
        clear K1m
        have K1c0 : World.cell? w13 ⟨w.heap.size + 1, 0, none⟩ = some (.int .u64 h2) := K1b.get 0 rfl
        have K1f0 := Blk.frozen K1b 0
        have K1c1 : World.cell? w13 ⟨w.heap.size + 1, 1, none⟩ = some (.int .u64 l2) := K1b.get 1 rfl
        have K1f1 := Blk.frozen K1b 1
        have K1n := Blk.lt K1b
        have KPm : Blk w13 (w4.heap.size) 25 #[.int .u64 pH, .int .u64 pL] := Blk.next (by repeat (first | (with_reducible exact KPb) | (refine Blk.new_at ?_; simp only [World.size_alloc]; done) | (with_reducible refine Blk.alloc ?_ _) | (with_reducible refine Blk.drewN ?_ _))) hb13
        clear KPn KPb KPc0 KPf0 KPc1 KPf1
        have KPb := KPm
        clear KPm
        have KPc0 : World.cell? w13 ⟨w4.heap.size, 0, none⟩ = some (.int .u64 pH) := KPb.get 0 rfl
        have KPf0 := Blk.frozen KPb 0
        have KPc1 : World.cell? w13 ⟨w4.heap.size, 1, none⟩ = some (.int .u64 pL) := KPb.get 1 rfl
        have KPf1 := Blk.frozen KPb 1
        have KPn := Blk.lt KPb
        have KQm : Blk w13 (q) 25 #[.int .u64 pH, .int .u64 pL] := Blk.next (by repeat (first | (with_reducible exact KQb) | (refine Blk.new_at ?_; simp only [World.size_alloc]; done) | (with_reducible refine Blk.alloc ?_ _) | (with_reducible refine Blk.drewN ?_ _))) hb13
        clear KQn KQb KQc0 KQf0 KQc1 KQf1
        have KQb := KQm
        clear KQm
        have KQc0 : World.cell? w13 ⟨q, 0, none⟩ = some (.int .u64 pH) := KQb.get 0 rfl
        have KQf0 := Blk.frozen KQb 0
        have KQc1 : World.cell? w13 ⟨q, 1, none⟩ = some (.int .u64 pL) := KQb.get 1 rfl
        have KQf1 := Blk.frozen KQb 1
        have KQn := Blk.lt KQb
        have KYm : Blk w13 (w12.heap.size) 25 #[.int .u64 yH, .int .u64 yL] := Blk.next (by repeat (first | (refine Blk.new_at ?_; simp only [World.size_alloc]; done) | (with_reducible refine Blk.alloc ?_ _) | (with_reducible refine Blk.drewN ?_ _))) hb13
        have KYb := KYm
        clear KYm
        have KYc0 : World.cell? w13 ⟨w12.heap.size, 0, none⟩ = some (.int .u64 yH) := KYb.get 0 rfl
        have KYf0 := Blk.frozen KYb 0
        have KYc1 : World.cell? w13 ⟨w12.heap.size, 1, none⟩ = some (.int .u64 yL) := KYb.get 1 rfl
        have KYf1 := Blk.frozen KYb 1
        have KYn := Blk.lt KYb
        have B13 : Below w.heap.size w w13 := by first | with_reducible exact below_next B12 hb13 | exact below_step B12 (by go_grown) hb13
        clear hb13 B12
        go_wp2_with fail
        with_reducible refine (D2.out _).mono ?_
        rintro e w14 ⟨rfl, hb14⟩
        have K0m : Blk w14 (w.heap.size) 25 #[.int .u64 h1, .int .u64 l1] := Blk.next (by repeat (first | (with_reducible exact K0b) | (refine Blk.new_at ?_; simp only [World.size_alloc]; done) | (with_reducible refine Blk.alloc ?_ _) | (with_reducible refine Blk.drewN ?_ _))) hb14
        clear K0n K0b K0c0 K0f0 K0c1 K0f1
        have K0b := K0m
        clear K0m
        have K0c0 : World.cell? w14 ⟨w.heap.size, 0, none⟩ = some (.int .u64 h1) := K0b.get 0 rfl
        have K0f0 := Blk.frozen K0b 0
        have K0c1 : World.cell? w14 ⟨w.heap.size, 1, none⟩ = some (.int .u64 l1) := K0b.get 1 rfl
        have K0f1 := Blk.frozen K0b 1
        have K0n := Blk.lt K0b
        have K1m : Blk w14 (w.heap.size + 1) 25 #[.int .u64 h2, .int .u64 l2] := Blk.next (by repeat (first | (with_reducible exact K1b) | (refine Blk.new_at ?_; simp only [World.size_alloc]; done) | (with_reducible refine Blk.alloc ?_ _) | (with_reducible refine Blk.drewN ?_ _))) hb14
        clear K1n K1b K1c0 K1f0 K1c1 K1f1
        have K1b := K1m
        clear K1m
        have K1c0 : World.cell? w14 ⟨w.heap.size + 1, 0, none⟩ = some (.int .u64 h2) := K1b.get 0 rfl
        have K1f0 := Blk.frozen K1b 0
        have K1c1 : World.cell? w14 ⟨w.heap.size + 1, 1, none⟩ = some (.int .u64 l2) := K1b.get 1 rfl
        have K1f1 := Blk.frozen K1b 1
        have K1n := Blk.lt K1b
        have KPm : Blk w14 (w4.heap.size) 25 #[.int .u64 pH, .int .u64 pL] := Blk.next (by repeat (first | (with_reducible exact KPb) | (refine Blk.new_at ?_; simp only [World.size_alloc]; done) | (with_reducible refine Blk.alloc ?_ _) | (with_reducible refine Blk.drewN ?_ _))) hb14
        clear KPn KPb KPc0 KPf0 KPc1 KPf1
        have KPb := KPm
        clear KPm
        have KPc0 : World.cell? w14 ⟨w4.heap.size, 0, none⟩ = some (.int .u64 pH) := KPb.get 0 rfl
        have KPf0 := Blk.frozen KPb 0
        have KPc1 : World.cell? w14 ⟨w4.heap.size, 1, none⟩ = some (.int .u64 pL) := KPb.get 1 rfl
        have KPf1 := Blk.frozen KPb 1
        have KPn := Blk.lt KPb
        have KQm : Blk w14 (q) 25 #[.int .u64 pH, .int .u64 pL] := Blk.next (by repeat (first | (with_reducible exact KQb) | (refine Blk.new_at ?_; simp only [World.size_alloc]; done) | (with_reducible refine Blk.alloc ?_ _) | (with_reducible refine Blk.drewN ?_ _))) hb14
        clear KQn KQb KQc0 KQf0 KQc1 KQf1
        have KQb := KQm
        clear KQm
        have KQc0 : World.cell? w14 ⟨q, 0, none⟩ = some (.int .u64 pH) := KQb.get 0 rfl
        have KQf0 := Blk.frozen KQb 0
        have KQc1 : World.cell? w14 ⟨q, 1, none⟩ = some (.int .u64 pL) := KQb.get 1 rfl
        have KQf1 := Blk.frozen KQb 1
        have KQn := Blk.lt KQb
        have KYm : Blk w14 (w12.heap.size) 25 #[.int .u64 yH, .int .u64 yL] := Blk.next (by repeat (first | (with_reducible exact KYb) | (refine Blk.new_at ?_; simp only [World.size_alloc]; done) | (with_reducible refine Blk.alloc ?_ _) | (with_reducible refine Blk.drewN ?_ _))) hb14
        clear KYn KYb KYc0 KYf0 KYc1 KYf1
        have KYb := KYm
        clear KYm
        have KYc0 : World.cell? w14 ⟨w12.heap.size, 0, none⟩ = some (.int .u64 yH) := KYb.get 0 rfl
        have KYf0 := Blk.frozen KYb 0
        have KYc1 : World.cell? w14 ⟨w12.heap.size, 1, none⟩ = some (.int .u64 yL) := KYb.get 1 rfl
        have KYf1 := Blk.frozen KYb 1
        have KYn := Blk.lt KYb
        have KZm : Blk w14 (w13.heap.size) 25 #[.int .u64 h1, .int .u64 l1] := Blk.next (by repeat (first | (refine Blk.new_at ?_; simp only [World.size_alloc]; done) | (with_reducible refine Blk.alloc ?_ _) | (with_reducible refine Blk.drewN ?_ _))) hb14
        have KZb := KZm
        clear KZm
        have KZc0 : World.cell? w14 ⟨w13.heap.size, 0, none⟩ = some (.int .u64 h1) := KZb.get 0 rfl
        have KZf0 := Blk.frozen KZb 0
        have KZc1 : World.cell? w14 ⟨w13.heap.size, 1, none⟩ = some (.int .u64 l1) := KZb.get 1 rfl
        have KZf1 := Blk.frozen KZb 1
        have KZn := Blk.lt KZb
        have B14 : Below w.heap.size w w14 := by first | with_reducible exact below_next B13 hb14 | exact below_step B13 (by go_grown) hb14
        clear hb14 B13
        go_wp2_with fail
        with_reducible refine (C3.out _).mono ?_
        rintro e w15 ⟨rfl, hb15⟩
        have K0m : Blk w15 (w.heap.size) 25 #[.int .u64 h1, .int .u64 l1] := Blk.next (by repeat (first | (with_reducible exact K0b) | (refine Blk.new_at ?_; simp only [World.size_alloc]; done) | (with_reducible refine Blk.alloc ?_ _) | (with_reducible refine Blk.drewN ?_ _))) hb15
        clear K0n K0b K0c0 K0f0 K0c1 K0f1
        have K0b := K0m
        clear K0m
        have K0c0 : World.cell? w15 ⟨w.heap.size, 0, none⟩ = some (.int .u64 h1) := K0b.get 0 rfl
        have K0f0 := Blk.frozen K0b 0
        have K0c1 : World.cell? w15 ⟨w.heap.size, 1, none⟩ = some (.int .u64 l1) := K0b.get 1 rfl
        have K0f1 := Blk.frozen K0b 1
        have K0n := Blk.lt K0b
        have K1m : Blk w15 (w.heap.size + 1) 25 #[.int .u64 h2, .int .u64 l2] := Blk.next (by repeat (first | (with_reducible exact K1b) | (refine Blk.new_at ?_; simp only [World.size_alloc]; done) | (with_reducible refine Blk.alloc ?_ _) | (with_reducible refine Blk.drewN ?_ _))) hb15
        clear K1n K1b K1c0 K1f0 K1c1 K1f1
        have K1b := K1m
        clear K1m
        have K1c0 : World.cell? w15 ⟨w.heap.size + 1, 0, none⟩ = some (.int .u64 h2) := K1b.get 0 rfl
        have K1f0 := Blk.frozen K1b 0
        have K1c1 : World.cell? w15 ⟨w.heap.size + 1, 1, none⟩ = some (.int .u64 l2) := K1b.get 1 rfl
        have K1f1 := Blk.frozen K1b 1
        have K1n := Blk.lt K1b
        have KPm : Blk w15 (w4.heap.size) 25 #[.int .u64 pH, .int .u64 pL] := Blk.next (by repeat (first | (with_reducible exact KPb) | (refine Blk.new_at ?_; simp only [World.size_alloc]; done) | (with_reducible refine Blk.alloc ?_ _) | (with_reducible refine Blk.drewN ?_ _))) hb15
        clear KPn KPb KPc0 KPf0 KPc1 KPf1
        have KPb := KPm
        clear KPm
        have KPc0 : World.cell? w15 ⟨w4.heap.size, 0, none⟩ = some (.int .u64 pH) := KPb.get 0 rfl
        have KPf0 := Blk.frozen KPb 0
        have KPc1 : World.cell? w15 ⟨w4.heap.size, 1, none⟩ = some (.int .u64 pL) := KPb.get 1 rfl
        have KPf1 := Blk.frozen KPb 1
        have KPn := Blk.lt KPb
        have KQm : Blk w15 (q) 25 #[.int .u64 pH, .int .u64 pL] := Blk.next (by repeat (first | (with_reducible exact KQb) | (refine Blk.new_at ?_; simp only [World.size_alloc]; done) | (with_reducible refine Blk.alloc ?_ _) | (with_reducible refine Blk.drewN ?_ _))) hb15
        clear KQn KQb KQc0 KQf0 KQc1 KQf1
        have KQb := KQm
        clear KQm
        have KQc0 : World.cell? w15 ⟨q, 0, none⟩ = some (.int .u64 pH) := KQb.get 0 rfl
        have KQf0 := Blk.frozen KQb 0
        have KQc1 : World.cell? w15 ⟨q, 1, none⟩ = some (.int .u64 pL) := KQb.get 1 rfl
        have KQf1 := Blk.frozen KQb 1
        have KQn := Blk.lt KQb
        have KYm : Blk w15 (w12.heap.size) 25 #[.int .u64 yH, .int .u64 yL] := Blk.next (by repeat (first | (with_reducible exact KYb) | (refine Blk.new_at ?_; simp only [World.size_alloc]; done) | (with_reducible refine Blk.alloc ?_ _) | (with_reducible refine Blk.drewN ?_ _))) hb15
        clear KYn KYb KYc0 KYf0 KYc1 KYf1
        have KYb := KYm
        clear KYm
        have KYc0 : World.cell? w15 ⟨w12.heap.size, 0, none⟩ = some (.int .u64 yH) := KYb.get 0 rfl
        have KYf0 := Blk.frozen KYb 0
        have KYc1 : World.cell? w15 ⟨w12.heap.size, 1, none⟩ = some (.int .u64 yL) := KYb.get 1 rfl
        have KYf1 := Blk.frozen KYb 1
        have KYn := Blk.lt KYb
        have KZm : Blk w15 (w13.heap.size) 25 #[.int .u64 h1, .int .u64 l1] := Blk.next (by repeat (first | (with_reducible exact KZb) | (refine Blk.new_at ?_; simp only [World.size_alloc]; done) | (with_reducible refine Blk.alloc ?_ _) | (with_reducible refine Blk.drewN ?_ _))) hb15
        clear KZn KZb KZc0 KZf0 KZc1 KZf1
        have KZb := KZm
        clear KZm
        have KZc0 : World.cell? w15 ⟨w13.heap.size, 0, none⟩ = some (.int .u64 h1) := KZb.get 0 rfl
        have KZf0 := Blk.frozen KZb 0
        have KZc1 : World.cell? w15 ⟨w13.heap.size, 1, none⟩ = some (.int .u64 l1) := KZb.get 1 rfl
        have KZf1 := Blk.frozen KZb 1
        have KZn := Blk.lt KZb
        have KVm : Blk w15 (w14.heap.size) 25 #[.int .u64 h2, .int .u64 l2] := Blk.next (by repeat (first | (refine Blk.new_at ?_; simp only [World.size_alloc]; done) | (with_reducible refine Blk.alloc ?_ _) | (with_reducible refine Blk.drewN ?_ _))) hb15
        have KVb := KVm
        clear KVm
        have KVc0 : World.cell? w15 ⟨w14.heap.size, 0, none⟩ = some (.int .u64 h2) := KVb.get 0 rfl
        have KVf0 := Blk.frozen KVb 0
        have KVc1 : World.cell? w15 ⟨w14.heap.size, 1, none⟩ = some (.int .u64 l2) := KVb.get 1 rfl
        have KVf1 := Blk.frozen KVb 1
        have KVn := Blk.lt KVb
        have B15 : Below w.heap.size w w15 := by first | with_reducible exact below_next B14 hb15 | exact below_step B14 (by go_grown) hb15
        clear hb15 B14
        go_wp2_with fail
        with_reducible refine (C4.out _).mono ?_
        rintro e w16 ⟨rfl, hb16⟩
        have K0m : Blk w16 (w.heap.size) 25 #[.int .u64 h1, .int .u64 l1] := Blk.next (by repeat (first | (with_reducible exact K0b) | (refine Blk.new_at ?_; simp only [World.size_alloc]; done) | (with_reducible refine Blk.alloc ?_ _) | (with_reducible refine Blk.drewN ?_ _))) hb16
        clear K0n K0b K0c0 K0f0 K0c1 K0f1
        have K0b := K0m
        clear K0m
        have K0c0 : World.cell? w16 ⟨w.heap.size, 0, none⟩ = some (.int .u64 h1) := K0b.get 0 rfl
        have K0f0 := Blk.frozen K0b 0
        have K0c1 : World.cell? w16 ⟨w.heap.size, 1, none⟩ = some (.int .u64 l1) := K0b.get 1 rfl
        have K0f1 := Blk.frozen K0b 1
        have K0n := Blk.lt K0b
        have K1m : Blk w16 (w.heap.size + 1) 25 #[.int .u64 h2, .int .u64 l2] := Blk.next (by repeat (first | (with_reducible exact K1b) | (refine Blk.new_at ?_; simp only [World.size_alloc]; done) | (with_reducible refine Blk.alloc ?_ _) | (with_reducible refine Blk.drewN ?_ _))) hb16
        clear K1n K1b K1c0 K1f0 K1c1 K1f1
        have K1b := K1m
        clear K1m
        have K1c0 : World.cell? w16 ⟨w.heap.size + 1, 0, none⟩ = some (.int .u64 h2) := K1b.get 0 rfl
        have K1f0 := Blk.frozen K1b 0
        have K1c1 : World.cell? w16 ⟨w.heap.size + 1, 1, none⟩ = some (.int .u64 l2) := K1b.get 1 rfl
        have K1f1 := Blk.frozen K1b 1
        have K1n := Blk.lt K1b
        have KPm : Blk w16 (w4.heap.size) 25 #[.int .u64 pH, .int .u64 pL] := Blk.next (by repeat (first | (with_reducible exact KPb) | (refine Blk.new_at ?_; simp only [World.size_alloc]; done) | (with_reducible refine Blk.alloc ?_ _) | (with_reducible refine Blk.drewN ?_ _))) hb16
        clear KPn KPb KPc0 KPf0 KPc1 KPf1
        have KPb := KPm
        clear KPm
        have KPc0 : World.cell? w16 ⟨w4.heap.size, 0, none⟩ = some (.int .u64 pH) := KPb.get 0 rfl
        have KPf0 := Blk.frozen KPb 0
        have KPc1 : World.cell? w16 ⟨w4.heap.size, 1, none⟩ = some (.int .u64 pL) := KPb.get 1 rfl
        have KPf1 := Blk.frozen KPb 1
        have KPn := Blk.lt KPb
        have KQm : Blk w16 (q) 25 #[.int .u64 pH, .int .u64 pL] := Blk.next (by repeat (first | (with_reducible exact KQb) | (refine Blk.new_at ?_; simp only [World.size_alloc]; done) | (with_reducible refine Blk.alloc ?_ _) | (with_reducible refine Blk.drewN ?_ _))) hb16
        clear KQn KQb KQc0 KQf0 KQc1 KQf1
        have KQb := KQm
        clear KQm
        have KQc0 : World.cell? w16 ⟨q, 0, none⟩ = some (.int .u64 pH) := KQb.get 0 rfl
        have KQf0 := Blk.frozen KQb 0
        have KQc1 : World.cell? w16 ⟨q, 1, none⟩ = some (.int .u64 pL) := KQb.get 1 rfl
        have KQf1 := Blk.frozen KQb 1
        have KQn := Blk.lt KQb
        have KYm : Blk w16 (w12.heap.size) 25 #[.int .u64 yH, .int .u64 yL] := Blk.next (by repeat (first | (with_reducible exact KYb) | (refine Blk.new_at ?_; simp only [World.size_alloc]; done) | (with_reducible refine Blk.alloc ?_ _) | (with_reducible refine Blk.drewN ?_ _))) hb16
        clear KYn KYb KYc0 KYf0 KYc1 KYf1
        have KYb := KYm
        clear KYm
        have KYc0 : World.cell? w16 ⟨w12.heap.size, 0, none⟩ = some (.int .u64 yH) := KYb.get 0 rfl
        have KYf0 := Blk.frozen KYb 0
        have KYc1 : World.cell? w16 ⟨w12.heap.size, 1, none⟩ = some (.int .u64 yL) := KYb.get 1 rfl
        have KYf1 := Blk.frozen KYb 1
        have KYn := Blk.lt KYb
        have KZm : Blk w16 (w13.heap.size) 25 #[.int .u64 h1, .int .u64 l1] := Blk.next (by repeat (first | (with_reducible exact KZb) | (refine Blk.new_at ?_; simp only [World.size_alloc]; done) | (with_reducible refine Blk.alloc ?_ _) | (with_reducible refine Blk.drewN ?_ _))) hb16
        clear KZn KZb KZc0 KZf0 KZc1 KZf1
        have KZb := KZm
        clear KZm
        have KZc0 : World.cell? w16 ⟨w13.heap.size, 0, none⟩ = some (.int .u64 h1) := KZb.get 0 rfl
        have KZf0 := Blk.frozen KZb 0
        have KZc1 : World.cell? w16 ⟨w13.heap.size, 1, none⟩ = some (.int .u64 l1) := KZb.get 1 rfl
        have KZf1 := Blk.frozen KZb 1
        have KZn := Blk.lt KZb
        have KVm : Blk w16 (w14.heap.size) 25 #[.int .u64 h2, .int .u64 l2] := Blk.next (by repeat (first | (with_reducible exact KVb) | (refine Blk.new_at ?_; simp only [World.size_alloc]; done) | (with_reducible refine Blk.alloc ?_ _) | (with_reducible refine Blk.drewN ?_ _))) hb16
        clear KVn KVb KVc0 KVf0 KVc1 KVf1
        have KVb := KVm
        clear KVm
        have KVc0 : World.cell? w16 ⟨w14.heap.size, 0, none⟩ = some (.int .u64 h2) := KVb.get 0 rfl
        have KVf0 := Blk.frozen KVb 0
        have KVc1 : World.cell? w16 ⟨w14.heap.size, 1, none⟩ = some (.int .u64 l2) := KVb.get 1 rfl
        have KVf1 := Blk.frozen KVb 1
        have KVn := Blk.lt KVb
        have B16 : Below w.heap.size w w16 := by first | with_reducible exact below_next B15 hb16 | exact below_step B15 (by go_grown) hb16
        clear hb16 B15
        go_wp2_with fail
        go_ret
        exact ⟨by simp, B16⟩

end Go.Proofs.Ytafhdpldkbhdcaa
