/-
  The walk of the law RatioStops: nothing is more than Cap; sums and products don't hang on the order.
-/
import Derived.Test.YtmfikclnidbncaaProg
import Derived.Test.YtmfikclnidbncaaRatioAwake
namespace Go.Proofs.Ytmfikclnidbncaa
set_option linter.unusedVariables false
set_option linter.unusedSimpArgs false
open Go.RowKit Go.Shelf

theorem stopN_cap (p : Int) : stopN p ≤ 4611686018427387904 := by unfold stopN; split <;> omega
theorem stopN_nn {p : Int} (h : 0 ≤ p) : 0 ≤ stopN p := by unfold stopN; split <;> omega
theorem stopN_word {p : Int} (h : 0 ≤ p) : Word (stopN p) := ⟨stopN_nn h, by have := stopN_cap p; omega⟩
theorem minusN_word {a b : Int} : Word (minusN a b) ∧ minusN a b ≤ 4611686018427387904 := by
  unfold minusN
  split
  · exact ⟨by constructor <;> decide, by decide⟩
  · exact ⟨stopN_word (by omega), stopN_cap _⟩
theorem stopN_mono {p q : Int} (h : p ≤ q) : stopN p ≤ stopN q := by
  unfold stopN; split <;> split <;> omega
theorem minusN_mono {a b c d : Int} (h : a ≤ c) (h' : d ≤ b) : minusN a b ≤ minusN c d := by
  unfold minusN stopN
  split <;> split <;> (try split) <;> (try split) <;> omega
theorem plus_assoc {a b c : Int} (ha : 0 ≤ a) (hc : 0 ≤ c) : stopN (stopN (a + b) + c) = stopN (a + stopN (b + c)) := by
  unfold stopN
  by_cases h1 : a + b > 4611686018427387904 <;> by_cases h2 : b + c > 4611686018427387904 <;> simp only [h1, h2, if_true, if_false] <;> (repeat' split) <;> omega
theorem times_cap {a c : Int} (hc : 0 < c) (ha : 4611686018427387904 ≤ a) : stopN (a * c) = 4611686018427387904 := by
  have : 4611686018427387904 * 1 ≤ a * c := Int.mul_le_mul ha hc (by omega) (by omega)
  unfold stopN; split <;> omega
theorem times_stop {p c : Int} (hp : 0 ≤ p) (hc : 0 ≤ c) : stopN (stopN p * c) = stopN (p * c) := by
  by_cases h : 4611686018427387904 < p
  · by_cases h0 : c = 0
    · subst h0; rw [Int.mul_zero, Int.mul_zero]
    · rw [stop_big h, times_cap (by omega) (Int.le_refl _), times_cap (by omega) (by omega)]
  · have : stopN p = p := by unfold stopN; rw [if_neg (by omega)]
    rw [this]
theorem times_assoc {a b c : Int} (ha : 0 ≤ a) (hb : 0 ≤ b) (hc : 0 ≤ c) : stopN (stopN (a * b) * c) = stopN (a * stopN (b * c)) := by
  rw [times_stop (Int.mul_nonneg ha hb) hc, Int.mul_comm a (stopN (b * c)), times_stop (Int.mul_nonneg hb hc) ha, Int.mul_comm (b * c) a, Int.mul_assoc]

set_option maxHeartbeats 2000000 in
theorem ratioStops_walk (w : World) (a : Int) (ha : (Lit.int .u64 a).wf = true) (b : Int) (hb : (Lit.int .u64 b).wf = true) (c : Int) (hc : (Lit.int .u64 c).wf = true) :
    Calls Try.prog 9 #[.int .u64 a, .int .u64 b, .int .u64 c] w fun e w' => e = .returned (.bool true) ∧ Below w.heap.size w w' := by
  have wa := word_of_wf ha
  have wb := word_of_wf hb
  have wc := word_of_wf hc
  clear ha hb hc
  have AW := Lib.hid (fun w => awake02 w)
  have a0 := wa.1
  have b0 := wb.1
  have c0 := wc.1
  have a9 := wa.2
  have b9 := wb.2
  have xa : Word (min a b) ∧ Word (max a b) ∧ min a b ≤ max a b := by unfold Word at *; omega
  obtain ⟨x, hx⟩ : ∃ x, min a b = x := ⟨_, rfl⟩
  obtain ⟨y, hy⟩ : ∃ x, max a b = x := ⟨_, rfl⟩
  rw [hx, hy] at xa
  obtain ⟨wx, wy, xy⟩ := xa
  have x0 := wx.1
  have y9 := wy.2
  have y0 := wy.1
  obtain ⟨s, hs⟩ : ∃ v, stopN (a + b) = v := ⟨_, rfl⟩
  obtain ⟨t, ht⟩ : ∃ v, stopN (a * b) = v := ⟨_, rfl⟩
  obtain ⟨m, hm⟩ : ∃ v, minusN a b = v := ⟨_, rfl⟩
  have hs' : stopN (b + a) = s := by rw [Int.add_comm]; exact hs
  have ht' : stopN (b * a) = t := by rw [Int.mul_comm]; exact ht
  have s1 : s ≤ 4611686018427387904 := by rw [← hs]; exact stopN_cap _
  have t1 : t ≤ 4611686018427387904 := by rw [← ht]; exact stopN_cap _
  have m1 : m ≤ 4611686018427387904 := by rw [← hm]; exact minusN_word.2
  have ws : Word s := by rw [← hs]; exact stopN_word (by omega)
  have wt : Word t := by rw [← ht]; exact stopN_word (Int.mul_nonneg a0 b0)
  obtain ⟨s2, hs2⟩ : ∃ v, stopN (b + c) = v := ⟨_, rfl⟩
  obtain ⟨t2, ht2⟩ : ∃ v, stopN (b * c) = v := ⟨_, rfl⟩
  have ws2 : Word s2 := by rw [← hs2]; exact stopN_word (by omega)
  have wt2 : Word t2 := by rw [← ht2]; exact stopN_word (Int.mul_nonneg b0 c0)
  obtain ⟨s3, hs3⟩ : ∃ v, stopN (s + c) = v := ⟨_, rfl⟩
  obtain ⟨t3, ht3⟩ : ∃ v, stopN (t * c) = v := ⟨_, rfl⟩
  have hs3' : stopN (a + s2) = s3 := by rw [← hs2, ← hs3, ← hs]; exact (plus_assoc a0 c0).symm
  have ht3' : stopN (a * t2) = t3 := by rw [← ht2, ← ht3, ← ht]; exact (times_assoc a0 b0 c0).symm
  obtain ⟨p1, hp1⟩ : ∃ v, stopN (x + c) = v := ⟨_, rfl⟩
  obtain ⟨p2, hp2⟩ : ∃ v, stopN (y + c) = v := ⟨_, rfl⟩
  obtain ⟨p3, hp3⟩ : ∃ v, stopN (x * c) = v := ⟨_, rfl⟩
  obtain ⟨p4, hp4⟩ : ∃ v, stopN (y * c) = v := ⟨_, rfl⟩
  obtain ⟨p5, hp5⟩ : ∃ v, minusN x c = v := ⟨_, rfl⟩
  obtain ⟨p6, hp6⟩ : ∃ v, minusN y c = v := ⟨_, rfl⟩
  obtain ⟨p7, hp7⟩ : ∃ v, minusN c y = v := ⟨_, rfl⟩
  obtain ⟨p8, hp8⟩ : ∃ v, minusN c x = v := ⟨_, rfl⟩
  have l1 : p1 ≤ p2 := by rw [← hp1, ← hp2]; exact stopN_mono (by omega)
  have l2 : p3 ≤ p4 := by rw [← hp3, ← hp4]; exact stopN_mono (Int.mul_le_mul_of_nonneg_right xy c0)
  have l3 : p5 ≤ p6 := by rw [← hp5, ← hp6]; exact minusN_mono xy (Int.le_refl _)
  have l4 : p7 ≤ p8 := by rw [← hp7, ← hp8]; exact minusN_mono (Int.le_refl _) xy
  obtain ⟨d, hd⟩ : ∃ v, minusN y x = v := ⟨_, rfl⟩
  have wd : Word d := by rw [← hd]; exact minusN_word.1
  obtain ⟨z, hz⟩ : ∃ v, stopN (d + x) = v := ⟨_, rfl⟩
  obtain ⟨z2, hz2⟩ : ∃ v, stopN (y + 0) = v := ⟨_, rfl⟩
  have PL := Lib.hid (fun w => plus_val a b s w wa wb hs)
  have TI := Lib.hid (fun w => times_val a b t w wa wb ht)
  have MI := Lib.hid (fun w => minus_val a b m w wa wb hm)
  have PL2 := Lib.hid (fun w => plus_val b a s w wb wa hs')
  have TI2 := Lib.hid (fun w => times_val b a t w wb wa ht')
  have PL3 := Lib.hid (fun w => plus_val s c s3 w ws wc hs3)
  have PL4 := Lib.hid (fun w => plus_val b c s2 w wb wc hs2)
  have PL5 := Lib.hid (fun w => plus_val a s2 s3 w wa ws2 hs3')
  have TI3 := Lib.hid (fun w => times_val t c t3 w wt wc ht3)
  have TI4 := Lib.hid (fun w => times_val b c t2 w wb wc ht2)
  have TI5 := Lib.hid (fun w => times_val a t2 t3 w wa wt2 ht3')
  have Q1 := Lib.hid (fun w => plus_val x c p1 w wx wc hp1)
  have Q2 := Lib.hid (fun w => plus_val y c p2 w wy wc hp2)
  have Q3 := Lib.hid (fun w => times_val x c p3 w wx wc hp3)
  have Q4 := Lib.hid (fun w => times_val y c p4 w wy wc hp4)
  have Q5 := Lib.hid (fun w => minus_val x c p5 w wx wc hp5)
  have Q6 := Lib.hid (fun w => minus_val y c p6 w wy wc hp6)
  have Q7 := Lib.hid (fun w => minus_val c y p7 w wc wy hp7)
  have Q8 := Lib.hid (fun w => minus_val c x p8 w wc wx hp8)
  have R1 := Lib.hid (fun w => minus_val y x d w wy wx hd)
  have R2 := Lib.hid (fun w => plus_val d x z w wd wx hz)
  have R3 := Lib.hid (fun w => plus_val y 0 z2 w wy word0 hz2)
  have e0 : IntKind.u64.wrap (y - x) = y - x := by rw [IntKind.wrap_u64]; omega
  have fin : z = z2 ∨ 4611686018427387904 < y - x := by
    rcases Int.lt_or_le 4611686018427387904 (y - x) with h | h
    · exact .inr h
    · left
      rw [← hz, ← hz2, ← hd]
      have : minusN y x = y - x := by unfold minusN stopN; rw [if_neg (by omega), if_neg (by omega)]
      rw [this, Int.sub_add_cancel, Int.add_zero]
  clear hs ht hm hs' ht' hs2 ht2 hs3 ht3 hs3' ht3' hp1 hp2 hp3 hp4 hp5 hp6 hp7 hp8 hd hz hz2 a9 b9
  by_cases hf : z = z2
  · have hg : (z == z2) = true := beq_iff_eq.2 hf
    clear fin hf
    go_enter Try.func9, Try.ntmps9
    go_wp2_with fail
    with_reducible refine (AW.out _).mono ?_
    rintro e w1 ⟨rfl, B1⟩
    go_wp2_with fail
    with_reducible refine (PL.out _).mono ?_
    rintro e wx ⟨rfl, rfl⟩
    go_wp2_with fail
    with_reducible refine (TI.out _).mono ?_
    rintro e w2 ⟨rfl, hb2⟩
    have B2 := below_next B1 hb2
    clear hb2 B1
    go_wp2_with fail
    with_reducible refine (MI.out _).mono ?_
    rintro e wx ⟨rfl, rfl⟩
    go_wp2_with fail
    with_reducible refine (PL.out _).mono ?_
    rintro e wx ⟨rfl, rfl⟩
    go_wp2_with fail
    with_reducible refine (PL2.out _).mono ?_
    rintro e wx ⟨rfl, rfl⟩
    go_wp2_with fail
    with_reducible refine (TI.out _).mono ?_
    rintro e w3 ⟨rfl, hb3⟩
    have B3 := below_next B2 hb3
    clear hb3 B2
    go_wp2_with fail
    with_reducible refine (TI2.out _).mono ?_
    rintro e w4 ⟨rfl, hb4⟩
    have B4 := below_next B3 hb4
    clear hb4 B3
    go_wp2_with fail
    with_reducible refine (PL.out _).mono ?_
    rintro e wx ⟨rfl, rfl⟩
    go_wp2_with fail
    with_reducible refine (PL3.out _).mono ?_
    rintro e wx ⟨rfl, rfl⟩
    go_wp2_with fail
    with_reducible refine (PL4.out _).mono ?_
    rintro e wx ⟨rfl, rfl⟩
    go_wp2_with fail
    with_reducible refine (PL5.out _).mono ?_
    rintro e wx ⟨rfl, rfl⟩
    go_wp2_with fail
    with_reducible refine (TI.out _).mono ?_
    rintro e w5 ⟨rfl, hb5⟩
    have B5 := below_next B4 hb5
    clear hb5 B4
    go_wp2_with fail
    with_reducible refine (TI3.out _).mono ?_
    rintro e w6 ⟨rfl, hb6⟩
    have B6 := below_next B5 hb6
    clear hb6 B5
    go_wp2_with fail
    with_reducible refine (TI4.out _).mono ?_
    rintro e w7 ⟨rfl, hb7⟩
    have B7 := below_next B6 hb7
    clear hb7 B6
    go_wp2_with fail
    with_reducible refine (TI5.out _).mono ?_
    rintro e w8 ⟨rfl, hb8⟩
    have B8 := below_next B7 hb8
    clear hb8 B7
    go_wp2_with fail
    with_reducible refine (Q1.out _).mono ?_
    rintro e wx ⟨rfl, rfl⟩
    go_wp2_with fail
    with_reducible refine (Q2.out _).mono ?_
    rintro e wx ⟨rfl, rfl⟩
    go_wp2_with fail
    with_reducible refine (Q3.out _).mono ?_
    rintro e w9 ⟨rfl, hb9⟩
    have B9 := below_next B8 hb9
    clear hb9 B8
    go_wp2_with fail
    with_reducible refine (Q4.out _).mono ?_
    rintro e w10 ⟨rfl, hb10⟩
    have B10 := below_next B9 hb10
    clear hb10 B9
    go_wp2_with fail
    with_reducible refine (Q5.out _).mono ?_
    rintro e wx ⟨rfl, rfl⟩
    go_wp2_with fail
    with_reducible refine (Q6.out _).mono ?_
    rintro e wx ⟨rfl, rfl⟩
    go_wp2_with fail
    with_reducible refine (Q7.out _).mono ?_
    rintro e wx ⟨rfl, rfl⟩
    go_wp2_with fail
    with_reducible refine (Q8.out _).mono ?_
    rintro e wx ⟨rfl, rfl⟩
    go_wp2_with fail
    with_reducible refine (R1.out _).mono ?_
    rintro e wx ⟨rfl, rfl⟩
    go_wp2_with fail
    with_reducible refine (R2.out _).mono ?_
    rintro e wx ⟨rfl, rfl⟩
    go_wp2_with fail
    with_reducible refine (R3.out _).mono ?_
    rintro e wx ⟨rfl, rfl⟩
    go_wp2_with fail
    go_ret
    exact ⟨by simp, B10⟩
  · have hg : (z == z2) = false := beq_eq_false_iff_ne.2 hf
    have hk : 4611686018427387904 < y - x := by omega
    clear fin hf
    go_enter Try.func9, Try.ntmps9
    go_wp2_with fail
    with_reducible refine (AW.out _).mono ?_
    rintro e w1 ⟨rfl, B1⟩
    go_wp2_with fail
    with_reducible refine (PL.out _).mono ?_
    rintro e wx ⟨rfl, rfl⟩
    go_wp2_with fail
    with_reducible refine (TI.out _).mono ?_
    rintro e w2 ⟨rfl, hb2⟩
    have B2 := below_next B1 hb2
    clear hb2 B1
    go_wp2_with fail
    with_reducible refine (MI.out _).mono ?_
    rintro e wx ⟨rfl, rfl⟩
    go_wp2_with fail
    with_reducible refine (PL.out _).mono ?_
    rintro e wx ⟨rfl, rfl⟩
    go_wp2_with fail
    with_reducible refine (PL2.out _).mono ?_
    rintro e wx ⟨rfl, rfl⟩
    go_wp2_with fail
    with_reducible refine (TI.out _).mono ?_
    rintro e w3 ⟨rfl, hb3⟩
    have B3 := below_next B2 hb3
    clear hb3 B2
    go_wp2_with fail
    with_reducible refine (TI2.out _).mono ?_
    rintro e w4 ⟨rfl, hb4⟩
    have B4 := below_next B3 hb4
    clear hb4 B3
    go_wp2_with fail
    with_reducible refine (PL.out _).mono ?_
    rintro e wx ⟨rfl, rfl⟩
    go_wp2_with fail
    with_reducible refine (PL3.out _).mono ?_
    rintro e wx ⟨rfl, rfl⟩
    go_wp2_with fail
    with_reducible refine (PL4.out _).mono ?_
    rintro e wx ⟨rfl, rfl⟩
    go_wp2_with fail
    with_reducible refine (PL5.out _).mono ?_
    rintro e wx ⟨rfl, rfl⟩
    go_wp2_with fail
    with_reducible refine (TI.out _).mono ?_
    rintro e w5 ⟨rfl, hb5⟩
    have B5 := below_next B4 hb5
    clear hb5 B4
    go_wp2_with fail
    with_reducible refine (TI3.out _).mono ?_
    rintro e w6 ⟨rfl, hb6⟩
    have B6 := below_next B5 hb6
    clear hb6 B5
    go_wp2_with fail
    with_reducible refine (TI4.out _).mono ?_
    rintro e w7 ⟨rfl, hb7⟩
    have B7 := below_next B6 hb7
    clear hb7 B6
    go_wp2_with fail
    with_reducible refine (TI5.out _).mono ?_
    rintro e w8 ⟨rfl, hb8⟩
    have B8 := below_next B7 hb8
    clear hb8 B7
    go_wp2_with fail
    with_reducible refine (Q1.out _).mono ?_
    rintro e wx ⟨rfl, rfl⟩
    go_wp2_with fail
    with_reducible refine (Q2.out _).mono ?_
    rintro e wx ⟨rfl, rfl⟩
    go_wp2_with fail
    with_reducible refine (Q3.out _).mono ?_
    rintro e w9 ⟨rfl, hb9⟩
    have B9 := below_next B8 hb9
    clear hb9 B8
    go_wp2_with fail
    with_reducible refine (Q4.out _).mono ?_
    rintro e w10 ⟨rfl, hb10⟩
    have B10 := below_next B9 hb10
    clear hb10 B9
    go_wp2_with fail
    with_reducible refine (Q5.out _).mono ?_
    rintro e wx ⟨rfl, rfl⟩
    go_wp2_with fail
    with_reducible refine (Q6.out _).mono ?_
    rintro e wx ⟨rfl, rfl⟩
    go_wp2_with fail
    with_reducible refine (Q7.out _).mono ?_
    rintro e wx ⟨rfl, rfl⟩
    go_wp2_with fail
    with_reducible refine (Q8.out _).mono ?_
    rintro e wx ⟨rfl, rfl⟩
    go_wp2_with fail
    with_reducible refine (R1.out _).mono ?_
    rintro e wx ⟨rfl, rfl⟩
    go_wp2_with fail
    with_reducible refine (R2.out _).mono ?_
    rintro e wx ⟨rfl, rfl⟩
    go_wp2_with fail
    with_reducible refine (R3.out _).mono ?_
    rintro e wx ⟨rfl, rfl⟩
    go_wp2_with fail
    go_ret
    exact ⟨by simp, B10⟩

end Go.Proofs.Ytmfikclnidbncaa
