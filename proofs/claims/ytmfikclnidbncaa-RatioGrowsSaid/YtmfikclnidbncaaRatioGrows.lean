/-
  The walk of the law RatioGrows: a quotient grows with what is divided.
-/
import Derived.Test.YtmfikclnidbncaaProg
import Derived.Test.YtmfikclnidbncaaRatioAwake
namespace Go.Proofs.Ytmfikclnidbncaa
set_option linter.unusedVariables false
set_option linter.unusedSimpArgs false
open Go.RowKit Go.Shelf

theorem stopN_le {p q : Int} (h : p ≤ q) : stopN p ≤ stopN q := by
  unfold stopN; split <;> split <;> omega
theorem div_le_num {x y b c : Int} (hc : 0 < c) (hb : 0 ≤ b) (h : x ≤ y) : x * b / c ≤ y * b / c :=
  Int.ediv_le_ediv hc (Int.mul_le_mul_of_nonneg_right h hb)
theorem div_le_den {p c : Int} (hc : 0 < c) (hp : 0 ≤ p) : p / (c + 1) ≤ p / c := by
  apply (Int.le_ediv_iff_mul_le hc).2
  have h1 := Int.ediv_mul_le p (show c + 1 ≠ 0 by omega)
  have h2 := Int.ediv_nonneg hp (show 0 ≤ c + 1 by omega)
  rw [Int.mul_add] at h1
  omega
/-- A quotient, rounded up, as one that is rounded down. -/
theorem up_eq {p c : Int} (hc : 0 < c) : p / c + (if p % c = 0 then 0 else 1) = -((-p) / c) := by
  have h := Int.emod_nonneg p (show c ≠ 0 by omega)
  have h1 := Int.emod_lt_of_pos p hc
  have h2 := Int.mul_ediv_add_emod p c
  obtain ⟨q, hq⟩ : ∃ q, p / c = q := ⟨_, rfl⟩
  obtain ⟨r, hr⟩ : ∃ r, p % c = r := ⟨_, rfl⟩
  rw [hr] at h h1
  rw [hq, hr] at h2
  rw [hq, hr]
  by_cases h0 : r = 0
  · rw [if_pos h0]
    have : -p = c * (-q) := by rw [Int.mul_neg]; omega
    rw [this, Int.mul_ediv_cancel_left _ (show c ≠ 0 by omega)]; omega
  · rw [if_neg h0]
    have : -p = (c - r) + c * (-q - 1) := by rw [Int.mul_sub, Int.mul_neg]; omega
    rw [this, Int.add_mul_ediv_left _ _ (show c ≠ 0 by omega), Int.ediv_eq_zero_of_lt (by omega) (by omega)]; omega
theorem up_le_num {p q c : Int} (hc : 0 < c) (h : p ≤ q) : p / c + (if p % c = 0 then 0 else 1) ≤ q / c + (if q % c = 0 then 0 else 1) := by
  rw [up_eq hc, up_eq hc]
  have := Int.ediv_le_ediv hc (show -q ≤ -p by omega)
  omega
theorem up_le_den {p c : Int} (hc : 0 < c) (hp : 0 ≤ p) : p / (c + 1) + (if p % (c + 1) = 0 then 0 else 1) ≤ p / c + (if p % c = 0 then 0 else 1) := by
  -- the least n with p ≤ n * c
  obtain ⟨n, hn⟩ : ∃ n, p / c + (if p % c = 0 then 0 else 1) = n := ⟨_, rfl⟩
  rw [hn]
  have h0 : 0 ≤ n := by
    have := Int.ediv_nonneg hp (show 0 ≤ c by omega)
    rw [← hn]; split <;> omega
  have h1 : p ≤ n * c := by
    have a := Int.mul_ediv_add_emod p c
    have b := Int.emod_lt_of_pos p hc
    rw [← hn, Int.add_mul, Int.mul_comm (p / c) c]
    split <;> omega
  rw [up_eq (by omega)]
  have : -n ≤ (-p) / (c + 1) := by
    apply (Int.le_ediv_iff_mul_le (by omega)).2
    rw [Int.neg_mul, Int.mul_add]
    omega
  omega
theorem downN_num {x y b c : Int} (hb : 0 ≤ b) (hc : 0 ≤ c) (h : x ≤ y) : downN x b c ≤ downN y b c := by
  unfold downN
  by_cases h0 : c = 0
  · rw [if_pos h0, if_pos h0]; exact Int.le_refl _
  · rw [if_neg h0, if_neg h0]; exact stopN_le (div_le_num (by omega) hb h)
theorem upN_num {x y b c : Int} (hb : 0 ≤ b) (hc : 0 ≤ c) (h : x ≤ y) : upN x b c ≤ upN y b c := by
  unfold upN
  by_cases h0 : c = 0
  · rw [if_pos h0, if_pos h0]; exact Int.le_refl _
  · rw [if_neg h0, if_neg h0]; exact stopN_le (up_le_num (by omega) (Int.mul_le_mul_of_nonneg_right h hb))
theorem downN_den {x b c : Int} (hx : 0 ≤ x) (hb : 0 ≤ b) (hc : 0 < c) : downN x b (c + 1) ≤ downN x b c := by
  unfold downN
  rw [if_neg (by omega), if_neg (by omega)]; exact stopN_le (div_le_den hc (Int.mul_nonneg hx hb))
theorem upN_den {x b c : Int} (hx : 0 ≤ x) (hb : 0 ≤ b) (hc : 0 < c) : upN x b (c + 1) ≤ upN x b c := by
  unfold upN
  have h1 : ¬ c + 1 = 0 := by omega
  have h2 : ¬ c = 0 := by omega
  rw [if_neg h1, if_neg h2]; exact stopN_le (up_le_den hc (Int.mul_nonneg hx hb))

set_option maxHeartbeats 1000000 in
theorem ratioGrows_walk (w : World) (a : Int) (ha : (Lit.int .u64 a).wf = true) (b : Int) (hb : (Lit.int .u64 b).wf = true) (c : Int) (hc : (Lit.int .u64 c).wf = true) (d : Int) (hd : (Lit.int .u64 d).wf = true) :
    Calls Try.prog 10 #[.int .u64 a, .int .u64 b, .int .u64 c, .int .u64 d] w fun e w' => e = .returned (.bool true) ∧ Below w.heap.size w w' := by
  have wa := word_of_wf ha
  have wb := word_of_wf hb
  have wc := word_of_wf hc
  have wd := word_of_wf hd
  clear ha hb hc hd
  have AW := Lib.hid (fun w => awake02 w)
  obtain ⟨b0, b1⟩ := id wb
  obtain ⟨c0, c1⟩ := id wc
  have xa : Word (min a d) ∧ Word (max a d) ∧ min a d ≤ max a d := by unfold Word at *; omega
  obtain ⟨x, hx⟩ : ∃ x, min a d = x := ⟨_, rfl⟩
  obtain ⟨y, hy⟩ : ∃ x, max a d = x := ⟨_, rfl⟩
  rw [hx, hy] at xa
  obtain ⟨wx, wy, xy⟩ := xa
  have x0 := wx.1
  obtain ⟨p, hp⟩ : ∃ p, downN x b c = p := ⟨_, rfl⟩
  obtain ⟨q, hq⟩ : ∃ p, downN y b c = p := ⟨_, rfl⟩
  obtain ⟨r, hr⟩ : ∃ p, upN x b c = p := ⟨_, rfl⟩
  obtain ⟨s, hs⟩ : ∃ p, upN y b c = p := ⟨_, rfl⟩
  obtain ⟨o, ho⟩ : ∃ p, stopN (a * b) = p := ⟨_, rfl⟩
  have pq : p ≤ q := by rw [← hp, ← hq]; exact downN_num b0 c0 xy
  have rs : r ≤ s := by rw [← hr, ← hs]; exact upN_num b0 c0 xy
  have ho1 : downN a b 1 = o := by unfold downN; rw [if_neg (by omega), Int.ediv_one, ho]
  have D1 := Lib.hid (fun w => down_val a b 1 o 0 w wa wb word1 ho1 rfl)
  have T1 := Lib.hid (fun w => times_val a b o w wa wb ho)
  by_cases hz : c = 0
  · subst hz
    have P := Lib.hid (fun w => down_val x b 0 p 2 w wx wb word0 hp rfl)
    have Q := Lib.hid (fun w => down_val y b 0 q 2 w wy wb word0 hq rfl)
    have R := Lib.hid (fun w => up_val x b 0 r 2 w wx wb word0 hr rfl)
    have S := Lib.hid (fun w => up_val y b 0 s 2 w wy wb word0 hs rfl)
    clear hp hq hr hs ho ho1 c0 c1 b0 b1 x0 xy
    go_enter Try.func10, Try.ntmps10
    go_wp2_with fail
    with_reducible refine (AW.out _).mono ?_
    rintro e w1 ⟨rfl, B1⟩
    go_wp2_with fail
    with_reducible refine (P.out _).mono ?_
    rintro e w2 ⟨rfl, hb2⟩
    have B2 := below_next B1 hb2
    clear hb2 B1
    go_wp2_with fail
    with_reducible refine (Q.out _).mono ?_
    rintro e w3 ⟨rfl, hb3⟩
    have B3 := below_next B2 hb3
    clear hb3 B2
    go_wp2_with fail
    with_reducible refine (R.out _).mono ?_
    rintro e w4 ⟨rfl, hb4⟩
    have B4 := below_next B3 hb4
    clear hb4 B3
    go_wp2_with fail
    with_reducible refine (S.out _).mono ?_
    rintro e w5 ⟨rfl, hb5⟩
    have B5 := below_next B4 hb5
    clear hb5 B4
    go_wp2_with fail
    with_reducible refine (D1.out _).mono ?_
    rintro e w6 ⟨rfl, hb6⟩
    have B6 := below_next B5 hb6
    clear hb6 B5
    go_wp2_with fail
    with_reducible refine (T1.out _).mono ?_
    rintro e w7 ⟨rfl, hb7⟩
    have B7 := below_next B6 hb7
    clear hb7 B6
    go_wp2_with fail
    go_ret
    exact ⟨by simp, B7⟩
  by_cases hm : c = 18446744073709551615
  · subst hm
    have P := Lib.hid (fun w => down_val x b 18446744073709551615 p 0 w wx wb wc hp rfl)
    have Q := Lib.hid (fun w => down_val y b 18446744073709551615 q 0 w wy wb wc hq rfl)
    have R := Lib.hid (fun w => up_val x b 18446744073709551615 r 0 w wx wb wc hr rfl)
    have S := Lib.hid (fun w => up_val y b 18446744073709551615 s 0 w wy wb wc hs rfl)
    clear hp hq hr hs ho ho1 c0 c1 b0 b1 x0 xy
    go_enter Try.func10, Try.ntmps10
    go_wp2_with fail
    with_reducible refine (AW.out _).mono ?_
    rintro e w1 ⟨rfl, B1⟩
    go_wp2_with fail
    with_reducible refine (P.out _).mono ?_
    rintro e w2 ⟨rfl, hb2⟩
    have B2 := below_next B1 hb2
    clear hb2 B1
    go_wp2_with fail
    with_reducible refine (Q.out _).mono ?_
    rintro e w3 ⟨rfl, hb3⟩
    have B3 := below_next B2 hb3
    clear hb3 B2
    go_wp2_with fail
    with_reducible refine (R.out _).mono ?_
    rintro e w4 ⟨rfl, hb4⟩
    have B4 := below_next B3 hb4
    clear hb4 B3
    go_wp2_with fail
    with_reducible refine (S.out _).mono ?_
    rintro e w5 ⟨rfl, hb5⟩
    have B5 := below_next B4 hb5
    clear hb5 B4
    go_wp2_with fail
    with_reducible refine (D1.out _).mono ?_
    rintro e w6 ⟨rfl, hb6⟩
    have B6 := below_next B5 hb6
    clear hb6 B5
    go_wp2_with fail
    with_reducible refine (T1.out _).mono ?_
    rintro e w7 ⟨rfl, hb7⟩
    have B7 := below_next B6 hb7
    clear hb7 B6
    go_wp2_with fail
    go_ret
    exact ⟨by simp, B7⟩
  · have cz : (c == 0) = false := beq_eq_false_iff_ne.2 hz
    have cm : (c == 18446744073709551615) = false := beq_eq_false_iff_ne.2 hm
    have ez : errN c = 0 := by unfold errN; rw [if_neg hz]
    have ez1 : errN (c + 1) = 0 := by unfold errN; rw [if_neg (by omega)]
    have wc1 : Word (c + 1) := by unfold Word; omega
    obtain ⟨t, ht⟩ : ∃ p, downN x b (c + 1) = p := ⟨_, rfl⟩
    obtain ⟨u, hu⟩ : ∃ p, upN x b (c + 1) = p := ⟨_, rfl⟩
    have tp : t ≤ p := by rw [← hp, ← ht]; exact downN_den x0 b0 (by omega)
    have ur : u ≤ r := by rw [← hr, ← hu]; exact upN_den x0 b0 (by omega)
    have P := Lib.hid (fun w => down_val x b c p 0 w wx wb wc hp ez)
    have Q := Lib.hid (fun w => down_val y b c q 0 w wy wb wc hq ez)
    have R := Lib.hid (fun w => up_val x b c r 0 w wx wb wc hr ez)
    have S := Lib.hid (fun w => up_val y b c s 0 w wy wb wc hs ez)
    obtain ⟨f, hf⟩ : ∃ f, c + 1 = f := ⟨_, rfl⟩
    have hfw : IntKind.u64.wrap f = f := by rw [IntKind.wrap_u64]; omega
    rw [hf] at ht hu ez1 wc1
    have T := Lib.hid (fun w => down_val x b f t 0 w wx wb wc1 ht ez1)
    have U := Lib.hid (fun w => up_val x b f u 0 w wx wb wc1 hu ez1)
    clear ez ez1 ht hu hz hm
    clear hp hq hr hs ho ho1 c0 c1 b0 b1 x0 xy
    go_enter Try.func10, Try.ntmps10
    go_wp2_with fail
    with_reducible refine (AW.out _).mono ?_
    rintro e w1 ⟨rfl, B1⟩
    go_wp2_with fail
    with_reducible refine (P.out _).mono ?_
    rintro e w2 ⟨rfl, hb2⟩
    have B2 := below_next B1 hb2
    clear hb2 B1
    go_wp2_with fail
    with_reducible refine (Q.out _).mono ?_
    rintro e w3 ⟨rfl, hb3⟩
    have B3 := below_next B2 hb3
    clear hb3 B2
    go_wp2_with fail
    with_reducible refine (R.out _).mono ?_
    rintro e w4 ⟨rfl, hb4⟩
    have B4 := below_next B3 hb4
    clear hb4 B3
    go_wp2_with fail
    with_reducible refine (S.out _).mono ?_
    rintro e w5 ⟨rfl, hb5⟩
    have B5 := below_next B4 hb5
    clear hb5 B4
    go_wp2_with fail
    with_reducible refine (D1.out _).mono ?_
    rintro e w6 ⟨rfl, hb6⟩
    have B6 := below_next B5 hb6
    clear hb6 B5
    go_wp2_with fail
    with_reducible refine (T1.out _).mono ?_
    rintro e w7 ⟨rfl, hb7⟩
    have B7 := below_next B6 hb7
    clear hb7 B6
    go_wp2_with fail
    with_reducible refine (T.out _).mono ?_
    rintro e w8 ⟨rfl, hb8⟩
    have B8 := below_next B7 hb8
    clear hb8 B7
    go_wp2_with fail
    with_reducible refine (U.out _).mono ?_
    rintro e w9 ⟨rfl, hb9⟩
    have B9 := below_next B8 hb9
    clear hb9 B8
    go_wp2_with fail
    go_ret
    exact ⟨by simp, B9⟩

end Go.Proofs.Ytmfikclnidbncaa
