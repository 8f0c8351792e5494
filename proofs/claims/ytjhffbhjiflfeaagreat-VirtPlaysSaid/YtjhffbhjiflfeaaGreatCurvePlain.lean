/-
  What a curve has and when it reaches an amount, in plain integers: the laws of chapter 03 with no program in sight.
-/
import Derived.Test.YtjhffbhjiflfeaaGreatLib
import Derived.Test.YtjhffbhjiflfeaaGreatRatioC
namespace Go.Proofs.YtjhffbhjiflfeaaGreat
set_option linter.unusedVariables false
set_option linter.unusedSimpArgs false

/-- What a curve has, without an end. -/
def rawN (F L R t : Int) : Int := F * min t L + R * (t - min t L)
/-- What it has, stopped. -/
def atN (F L R t : Int) : Int := stopN (rawN F L R t)
/-- A curve may be. -/
def mayB (F L R : Int) : Bool := if F > 1048576 ∨ R > 1048576 ∨ L > 1099511627776 then false else if L = 0 then F == 0 else F != R
def steepN (F L R : Int) : Int := if 0 < L then max F R else R
/-- When it has so much. -/
def reachN (F L R y : Int) : Int :=
  if 4611686018427387904 < y then 9223372036854775808
  else if 0 < L ∧ y ≤ F * L then (if y = 0 then 0 else upN y 1 F)
  else if y - F * L = 0 then L
  else if R = 0 then 9223372036854775808
  else L + upN (y - F * L) 1 R

/-- The parts of a curve that may be. -/
structure May (F L R : Int) : Prop where
  f0 : 0 ≤ F
  f1 : F ≤ 1048576
  l0 : 0 ≤ L
  l1 : L ≤ 1099511627776
  r0 : 0 ≤ R
  r1 : R ≤ 1048576
  none : L = 0 → F = 0
  apart : 0 < L → F ≠ R

theorem may_of {F L R : Int} (hF : Word F) (hL : Word L) (hR : Word R) (h : mayB F L R = true) : May F L R := by
  unfold mayB at h
  have a := hF.1; have b := hL.1; have c := hR.1
  split at h
  · exact absurd h (by decide)
  · next h1 =>
    simp only [not_or, gt_iff_lt, Int.not_lt] at h1
    split at h
    · next h2 => exact ⟨a, h1.1, b, h1.2.2, c, h1.2.1, fun _ => by simpa using h, fun h => by omega⟩
    · next h2 => exact ⟨a, h1.1, b, h1.2.2, c, h1.2.1, fun h => absurd h h2, fun _ => by simpa using h⟩

theorem stop_le (n : Int) : stopN n ≤ 4611686018427387904 := by unfold stopN; split <;> omega
theorem stop_small {n : Int} (h : n ≤ 4611686018427387904) : stopN n = n := by unfold stopN; rw [if_neg (by omega)]
theorem stop_nonneg {n : Int} (h : 0 ≤ n) : 0 ≤ stopN n := by unfold stopN; split <;> omega
theorem stop_mono {a b : Int} (h : a ≤ b) : stopN a ≤ stopN b := by unfold stopN; split <;> split <;> omega
theorem stop_ge {y n : Int} (h : y ≤ 4611686018427387904) : y ≤ stopN n ↔ y ≤ n := by unfold stopN; split <;> omega
theorem stop_stop {a b : Int} (ha : 0 ≤ a) (hb : 0 ≤ b) : stopN (stopN a + stopN b) = stopN (a + b) := by
  unfold stopN; (repeat' split) <;> omega

theorem raw_low {F L R t : Int} (h : t ≤ L) : rawN F L R t = F * t := by
  unfold rawN; rw [Int.min_eq_left h, Int.sub_self, Int.mul_zero, Int.add_zero]
theorem raw_high {F L R t : Int} (h : L ≤ t) : rawN F L R t = F * L + R * (t - L) := by
  unfold rawN; rw [Int.min_eq_right h]
/-- The other way to say it. -/
theorem raw_over (F L R t : Int) : rawN F L R t = R * t + (F - R) * min t L := by
  unfold rawN
  rw [Int.mul_sub, Int.sub_mul]; omega
theorem raw_nonneg {F L R t : Int} (hF : 0 ≤ F) (hL : 0 ≤ L) (hR : 0 ≤ R) (ht : 0 ≤ t) : 0 ≤ rawN F L R t := by
  unfold rawN
  have a : 0 ≤ F * min t L := Int.mul_nonneg hF (by omega)
  have b : 0 ≤ R * (t - min t L) := Int.mul_nonneg hR (by omega)
  omega
/-- A tick more: the one slope or the other one more. -/
theorem raw_step {F L R t : Int} : rawN F L R (t + 1) = rawN F L R t + (if t < L then F else R) := by
  rcases Int.lt_or_le t L with h | h
  · rw [if_pos h, raw_low (by omega), raw_low (by omega), Int.mul_add, Int.mul_one]
  · rw [if_neg (by omega), raw_high (by omega), raw_high h]
    have : t + 1 - L = (t - L) + 1 := by omega
    rw [this, Int.mul_add R, Int.mul_one]; omega
theorem raw_mono {F L R s t : Int} (hF : 0 ≤ F) (hR : 0 ≤ R) (h : s ≤ t) : rawN F L R s ≤ rawN F L R t := by
  unfold rawN
  have a : F * min s L ≤ F * min t L := Int.mul_le_mul_of_nonneg_left (by omega) hF
  have b : R * (s - min s L) ≤ R * (t - min t L) := Int.mul_le_mul_of_nonneg_left (by omega) hR
  omega

/-- A quotient rounded up, where nothing stops it. -/
theorem up_spec {y s n : Int} (hs : 0 < s) (hy : 0 < y) (hy1 : y ≤ 4611686018427387904) (h : upN y 1 s = n) : y ≤ s * n ∧ s * (n - 1) < y ∧ 1 ≤ n ∧ n ≤ y := by
  unfold upN at h
  rw [if_neg (by omega), Int.mul_one] at h
  have e := Int.emod_add_mul_ediv y s
  have r0 := Int.emod_nonneg y (show s ≠ 0 by omega)
  have r1 := Int.emod_lt_of_pos y hs
  have q0 : 0 ≤ y / s := Int.ediv_nonneg (by omega) (by omega)
  have q1 : y / s ≤ s * (y / s) := by
    have := Int.mul_le_mul_of_nonneg_right (show 1 ≤ s by omega) q0
    rw [Int.one_mul] at this; exact this
  obtain ⟨q, hq⟩ : ∃ q, y / s = q := ⟨_, rfl⟩
  obtain ⟨r, hr⟩ : ∃ r, y % s = r := ⟨_, rfl⟩
  rw [hq, hr] at h e
  rw [hr] at r0 r1
  rw [hq] at q0 q1
  by_cases hz : r = 0
  · rw [if_pos hz, Int.add_zero, stop_small (by omega)] at h
    subst h
    have p : 1 ≤ q := by
      rcases Int.lt_or_le q 1 with k | k
      · have : q = 0 := by omega
        rw [this, Int.mul_zero] at e; omega
      · exact k
    rw [Int.mul_sub, Int.mul_one]
    exact ⟨by omega, by omega, p, by omega⟩
  · rw [if_neg hz, stop_small (by omega)] at h
    subst h
    rw [Int.mul_sub, Int.mul_add, Int.mul_one]
    exact ⟨by omega, by omega, by omega, by omega⟩
theorem up_le {y s n t : Int} (hs : 0 < s) (h1 : y ≤ s * n) (h2 : s * (n - 1) < y) : y ≤ s * t ↔ n ≤ t := by
  constructor
  · intro h
    rcases Int.lt_or_le t n with k | k
    · have := Int.mul_le_mul_of_nonneg_left (show t ≤ n - 1 by omega) (Int.le_of_lt hs)
      omega
    · exact k
  · intro h
    have := Int.mul_le_mul_of_nonneg_left h (Int.le_of_lt hs)
    omega

/-- When a curve has so much, and what it has: the one tells the other. -/
theorem reach_at {F L R y t : Int} (hm : May F L R) (hy : 0 ≤ y) (ht : 0 ≤ t) (ht1 : t < 9223372036854775808) : y ≤ atN F L R t ↔ reachN F L R y ≤ t := by
  obtain ⟨f0, f1, l0, l1, r0, r1, hn, hap⟩ := hm
  unfold reachN
  by_cases h1 : 4611686018427387904 < y
  · rw [if_pos h1]
    have := stop_le (rawN F L R t)
    unfold atN
    omega
  · rw [if_neg h1]
    unfold atN
    rw [stop_ge (by omega)]
    by_cases h2 : 0 < L ∧ y ≤ F * L
    · rw [if_pos h2]
      by_cases h3 : y = 0
      · rw [if_pos h3]
        have := raw_nonneg f0 l0 r0 ht
        omega
      · rw [if_neg h3]
        have hF : 0 < F := by
          rcases Int.lt_or_le 0 F with k | k
          · exact k
          · have : F = 0 := by omega
            rw [this, Int.zero_mul] at h2; omega
        obtain ⟨n, hN⟩ : ∃ n, upN y 1 F = n := ⟨_, rfl⟩
        rw [hN]
        obtain ⟨a, b, c, d⟩ := up_spec hF (by omega) (by omega) hN
        have hnL := (up_le (t := L) hF a b).1 h2.2
        rcases Int.le_total t L with k | k
        · rw [raw_low k]
          exact up_le hF a b
        · rw [raw_high k]
          have : 0 ≤ R * (t - L) := Int.mul_nonneg r0 (by omega)
          omega
    · rw [if_neg h2]
      have h4 : L = 0 ∨ F * L < y := by omega
      by_cases h3 : y - F * L = 0
      · rw [if_pos h3]
        have hL : L = 0 := by omega
        subst hL
        rw [Int.mul_zero] at h3
        have := raw_nonneg f0 l0 r0 ht
        omega
      · rw [if_neg h3]
        have h5 : F * L < y := by
          rcases h4 with k | k
          · subst k; rw [Int.mul_zero] at h3 ⊢; omega
          · exact k
        have h6 : ∀ s, s ≤ L → F * s ≤ F * L := fun s hs => Int.mul_le_mul_of_nonneg_left hs f0
        have hFL : 0 ≤ F * L := Int.mul_nonneg f0 l0
        by_cases hR : R = 0
        · rw [if_pos hR]
          subst hR
          rcases Int.le_total t L with k | k
          · rw [raw_low k]; have := h6 t k; omega
          · rw [raw_high k, Int.zero_mul]; omega
        · rw [if_neg hR]
          have hR' : 0 < R := by omega
          obtain ⟨n, hN⟩ : ∃ n, upN (y - F * L) 1 R = n := ⟨_, rfl⟩
          rw [hN]
          obtain ⟨a, b, c, d⟩ := up_spec hR' (by omega) (by omega) hN
          rcases Int.le_total t L with k | k
          · rw [raw_low k]; have := h6 t k; omega
          · rw [raw_high k]
            have := up_le (t := t - L) hR' a b
            omega
theorem reach_bounds {F L R y : Int} (hm : May F L R) (hy : 0 ≤ y) : 0 ≤ reachN F L R y ∧ (reachN F L R y = 9223372036854775808 ∨ reachN F L R y ≤ 5711686018427387904) := by
  obtain ⟨f0, f1, l0, l1, r0, r1, hn, hap⟩ := hm
  have hFL : 0 ≤ F * L := Int.mul_nonneg f0 l0
  unfold reachN
  by_cases h1 : 4611686018427387904 < y
  · rw [if_pos h1]; omega
  rw [if_neg h1]
  by_cases h2 : 0 < L ∧ y ≤ F * L
  · rw [if_pos h2]
    by_cases h3 : y = 0
    · rw [if_pos h3]; omega
    · rw [if_neg h3]
      have hF : 0 < F := by
        rcases Int.lt_or_le 0 F with k | k
        · exact k
        · have : F = 0 := by omega
          rw [this, Int.zero_mul] at h2; omega
      have := up_spec hF (by omega) (by omega) (n := upN y 1 F) rfl
      omega
  · rw [if_neg h2]
    by_cases h3 : y - F * L = 0
    · rw [if_pos h3]; omega
    · rw [if_neg h3]
      by_cases hR : R = 0
      · rw [if_pos hR]; omega
      · rw [if_neg hR]
        have h4 : L = 0 ∨ F * L < y := by omega
        have h5 : F * L < y := by
          rcases h4 with k | k
          · subst k; rw [Int.mul_zero] at h3 ⊢; omega
          · exact k
        have := up_spec (show 0 < R by omega) (show 0 < y - F * L by omega) (by omega) (n := upN (y - F * L) 1 R) rfl
        omega

theorem at_mono {F L R s t : Int} (hm : May F L R) (h : s ≤ t) : atN F L R s ≤ atN F L R t := stop_mono (raw_mono hm.f0 hm.r0 h)
theorem at_nonneg {F L R t : Int} (hm : May F L R) (h : 0 ≤ t) : 0 ≤ atN F L R t := stop_nonneg (raw_nonneg hm.f0 hm.l0 hm.r0 h)
theorem at_le (F L R t : Int) : atN F L R t ≤ 4611686018427387904 := stop_le _
theorem at_zero {F L R : Int} (h : 0 ≤ L) : atN F L R 0 = 0 := by
  unfold atN; rw [raw_low h, Int.mul_zero]; rfl

/-! ### The law CurveBack -/
theorem back_never {F L R y : Int} (hm : May F L R) (hy : 0 ≤ y) (h : reachN F L R y = 9223372036854775808) : atN F L R 9223372036854775807 < y := by
  rcases Int.lt_or_le (atN F L R 9223372036854775807) y with k | k
  · exact k
  · have := (reach_at hm hy (by omega) (by omega)).1 k
    omega
theorem back_at {F L R y n : Int} (hm : May F L R) (hy : 0 ≤ y) (h : reachN F L R y = n) (hn : n ≠ 9223372036854775808) : y ≤ atN F L R n ∧ 0 ≤ n ∧ n < 9223372036854775808 ∧ (0 < n → atN F L R (n - 1) < y) := by
  have b := reach_bounds (F := F) (L := L) (R := R) hm hy
  have n0 : 0 ≤ n := by omega
  have n1 : n < 9223372036854775808 := by omega
  refine ⟨(reach_at hm hy n0 n1).2 (by omega), n0, n1, fun hp => ?_⟩
  rcases Int.lt_or_le (atN F L R (n - 1)) y with k | k
  · exact k
  · have := (reach_at hm hy (by omega) (by omega)).1 k
    omega
theorem back_has {F L R t b : Int} (hm : May F L R) (ht : 0 ≤ t) (ht1 : t < 4611686018427387904) (h : reachN F L R (atN F L R t) = b) :
    0 ≤ b ∧ b ≤ t ∧ atN F L R b = atN F L R t ∧ (0 < t → (b = t ↔ atN F L R (t - 1) < atN F L R t)) := by
  have a0 := at_nonneg hm ht
  have b0 := reach_bounds (y := atN F L R t) hm a0
  have b1 := (reach_at (y := atN F L R t) hm a0 ht (by omega)).1 (Int.le_refl _)
  rw [h] at b0 b1
  have b2 := (reach_at (y := atN F L R t) (t := b) hm a0 b0.1 (by omega)).2 (by omega)
  have b3 := at_mono hm b1
  refine ⟨b0.1, b1, by omega, fun hp => ?_⟩
  have b4 := reach_at (y := atN F L R t) (t := t - 1) hm a0 (by omega) (by omega)
  rw [h] at b4
  omega

/-! ### The law CurveGrows -/
theorem grows_many {F L R t m : Int} (hm : May F L R) (ht : 0 ≤ t) (hmo : 0 ≤ m) : rawN F L R (t + m) - rawN F L R t ≤ steepN F L R * m := by
  have f0 := hm.f0
  have r0 := hm.r0
  have l0 := hm.l0
  unfold steepN
  by_cases h : 0 < L
  · rw [if_pos h]
    unfold rawN
    have a : F * (min (t + m) L - min t L) ≤ max F R * (min (t + m) L - min t L) := Int.mul_le_mul_of_nonneg_right (by omega) (by omega)
    have b : R * ((t + m - min (t + m) L) - (t - min t L)) ≤ max F R * ((t + m - min (t + m) L) - (t - min t L)) := Int.mul_le_mul_of_nonneg_right (by omega) (by omega)
    have c : max F R * m = max F R * (min (t + m) L - min t L) + max F R * ((t + m - min (t + m) L) - (t - min t L)) := by
      rw [← Int.mul_add]; congr 1; omega
    rw [Int.mul_sub] at a
    rw [Int.mul_sub R] at b
    omega
  · rw [if_neg h]
    have : L = 0 := by omega
    subst this
    rw [raw_high (by omega), raw_high (by omega)]
    have : R * (t + m - 0) = R * (t - 0) + R * m := by rw [← Int.mul_add]; congr 1; omega
    omega
theorem steep_bounds {F L R : Int} (hm : May F L R) : 0 ≤ steepN F L R ∧ steepN F L R ≤ 1048576 := by
  have := hm.f0; have := hm.f1; have := hm.r0; have := hm.r1
  unfold steepN; split <;> omega
theorem grows_all {F L R t m a b c s d : Int} (hm : May F L R) (ht : 0 ≤ t) (hmo : 0 ≤ m) (ha : atN F L R t = a) (hb : atN F L R (t + m) = b) (hc : atN F L R (t + 1) = c) (hs : steepN F L R = s) (hd : stopN (s * m) = d) :
    0 ≤ a ∧ a ≤ 4611686018427387904 ∧ a ≤ b ∧ b ≤ 4611686018427387904 ∧ b - a ≤ d ∧ a ≤ c ∧ c - a ≤ s ∧ (4611686018427387904 - s ≤ a ∨ c - a = F ∨ c - a = R) := by
  have g1 := grows_many hm ht hmo
  have g2 := grows_many hm ht (show (0 : Int) ≤ 1 by omega)
  have st := raw_step (F := F) (L := L) (R := R) (t := t)
  have sb := steep_bounds hm
  rw [hs] at g1 g2 sb
  rw [Int.mul_one] at g2
  have n0 := raw_nonneg hm.f0 hm.l0 hm.r0 ht
  have m1 := raw_mono (L := L) hm.f0 hm.r0 (show t ≤ t + m by omega)
  have m2 := raw_mono (L := L) hm.f0 hm.r0 (show t ≤ t + 1 by omega)
  have f0 := hm.f0
  have r0 := hm.r0
  unfold atN at ha hb hc
  generalize rawN F L R t = x at *
  generalize rawN F L R (t + m) = y at *
  generalize rawN F L R (t + 1) = z at *
  generalize s * m = p at *
  have hz : z - x = F ∨ z - x = R := by split at st <;> omega
  clear st
  unfold stopN at ha hb hc hd
  have ha' : (x ≤ 4611686018427387904 ∧ a = x) ∨ (4611686018427387904 < x ∧ a = 4611686018427387904) := by split at ha <;> omega
  have hb' : (y ≤ 4611686018427387904 ∧ b = y) ∨ (4611686018427387904 < y ∧ b = 4611686018427387904) := by split at hb <;> omega
  have hc' : (z ≤ 4611686018427387904 ∧ c = z) ∨ (4611686018427387904 < z ∧ c = 4611686018427387904) := by split at hc <;> omega
  have hd' : (p ≤ 4611686018427387904 ∧ d = p) ∨ (4611686018427387904 < p ∧ d = 4611686018427387904) := by split at hd <;> omega
  clear ha hb hc hd
  refine ⟨by omega, by omega, by omega, by omega, by omega, by omega, by omega, by omega⟩

/-! ### The law CurveShape -/
theorem shape_low {F L R t : Int} (hm : May F L R) (ht : 0 ≤ t) (ht1 : t < 2199023255552) : rawN F L R t ≤ 1048576 * t := by
  have a : F * min t L ≤ 1048576 * min t L := Int.mul_le_mul_of_nonneg_right hm.f1 (by have := hm.l0; omega)
  have b : R * (t - min t L) ≤ 1048576 * (t - min t L) := Int.mul_le_mul_of_nonneg_right hm.r1 (by omega)
  unfold rawN
  omega
theorem shape_at {F L R t : Int} (hm : May F L R) (ht : 0 ≤ t) (ht1 : t < 2199023255552) : atN F L R t = rawN F L R t ∧ 0 ≤ rawN F L R t ∧ rawN F L R t ≤ 2305843009213693952 := by
  have := shape_low hm ht ht1
  exact ⟨stop_small (by omega), raw_nonneg hm.f0 hm.l0 hm.r0 ht, by omega⟩
theorem shape_apart {F L R s t : Int} (hs : 0 ≤ s) (ht : 0 ≤ t) (hL : 0 ≤ L) : (R < F → rawN F L R (s + t) ≤ rawN F L R s + rawN F L R t) ∧ (F ≤ R → rawN F L R s + rawN F L R t ≤ rawN F L R (s + t)) := by
  rw [raw_over, raw_over, raw_over]
  have e : (F - R) * (min s L + min t L - min (s + t) L) = (F - R) * min s L + (F - R) * min t L - (F - R) * min (s + t) L := by
    rw [Int.mul_sub, Int.mul_add]
  have e2 : R * (s + t) = R * s + R * t := Int.mul_add _ _ _
  have p : 0 ≤ min s L + min t L - min (s + t) L := by omega
  constructor
  · intro h
    have := Int.mul_nonneg (show 0 ≤ F - R by omega) p
    omega
  · intro h
    have := Int.mul_nonneg (show 0 ≤ R - F by omega) p
    have e3 : (R - F) * (min s L + min t L - min (s + t) L) = -((F - R) * (min s L + min t L - min (s + t) L)) := by rw [← Int.neg_mul]; congr 1; omega
    omega
theorem shape_burst {F L R t : Int} (h : R < F) (ht : 0 ≤ t) : (t < L → rawN F L R t < (F - R) * L + R * t) ∧ (L ≤ t → rawN F L R t = (F - R) * L + R * t) := by
  rw [raw_over]
  constructor
  · intro k
    rw [Int.min_eq_left (by omega)]
    have := Int.mul_lt_mul_of_pos_left k (show 0 < F - R by omega)
    omega
  · intro k
    rw [Int.min_eq_right k]; omega

/-! ### The law CurveOne -/
theorem one_same {F L R F' L' R' : Int} (hm : May F L R) (hm' : May F' L' R') (h1 : rawN F L R 1 = rawN F' L' R' 1)
    (h2 : rawN F L R (L + L' + 2) = rawN F' L' R' (L + L' + 2)) (h3 : rawN F L R (L + L' + 3) = rawN F' L' R' (L + L' + 3)) : F = F' ∧ L = L' ∧ R = R' := by
  have l0 := hm.l0
  have l0' := hm'.l0
  have s1 := raw_step (F := F) (L := L) (R := R) (t := L + L' + 2)
  have s2 := raw_step (F := F') (L := L') (R := R') (t := L + L' + 2)
  rw [if_neg (by omega)] at s1 s2
  have e : L + L' + 2 + 1 = L + L' + 3 := by omega
  rw [e] at s1 s2
  have hR : R = R' := by omega
  subst hR
  rw [raw_over, raw_over, Int.min_eq_right (by omega), Int.min_eq_right (by omega)] at h2
  have hD : (F - R) * L = (F' - R) * L' := by omega
  rcases Int.lt_or_le 0 L with k | k
  · have ap := hm.apart k
    have k' : 0 < L' := by
      rcases Int.lt_or_le 0 L' with q | q
      · exact q
      · have : L' = 0 := by omega
        rw [this, Int.mul_zero] at hD
        rcases Int.mul_eq_zero.1 hD with z | z <;> omega
    rw [raw_low (by omega), raw_low (by omega), Int.mul_one, Int.mul_one] at h1
    subst h1
    have : L = L' := Int.eq_of_mul_eq_mul_left (show F - R ≠ 0 by omega) hD
    exact ⟨rfl, this, rfl⟩
  · have : L = 0 := by omega
    subst this
    have f := hm.none rfl
    subst f
    rw [Int.mul_zero] at hD
    have : L' = 0 := by
      rcases Int.lt_or_le 0 L' with q | q
      · have ap := hm'.apart q
        rcases Int.mul_eq_zero.1 hD.symm with z | z <;> omega
      · omega
    subst this
    exact ⟨(hm'.none rfl).symm, rfl, rfl⟩

/-! ### The law CurveParts -/
def oneF (F L R : Int) : Int := if F = R ∨ L = 0 then 0 else F
def oneL (F L R : Int) : Int := if F = R ∨ L = 0 then 0 else L
def partE (F L R a b : Int) : Int :=
  if mayB F L R then (if b = 0 then 2 else if mayB (oneF (downN F a b) L (downN R a b)) (oneL (downN F a b) L (downN R a b)) (downN R a b) then 0 else 30) else 30
def partF (F L R a b : Int) : Int := if partE F L R a b = 0 then oneF (downN F a b) L (downN R a b) else 0
def partL (F L R a b : Int) : Int := if partE F L R a b = 0 then oneL (downN F a b) L (downN R a b) else 0
def partR (F L R a b : Int) : Int := if partE F L R a b = 0 then downN R a b else 0

theorem raw_one (F L R t : Int) (ht : 0 ≤ t) : rawN (oneF F L R) (oneL F L R) R t = rawN F L R t := by
  unfold oneF oneL
  by_cases h : F = R ∨ L = 0
  · rw [if_pos h, if_pos h, raw_over, raw_over]
    rcases h with h | h
    · subst h
      rw [Int.min_eq_right (by omega), Int.mul_zero, Int.sub_self, Int.zero_mul]
    · subst h
      rw [Int.min_eq_right (by omega), Int.mul_zero, Int.mul_zero]
  · rw [if_neg h, if_neg h]
theorem down_small {F a b : Int} (h0 : 0 ≤ F) (h1 : F ≤ 1048576) (ha : 0 ≤ a) (ha1 : a < 1048576) (hb : 0 < b) : downN F a b = F * a / b ∧ 0 ≤ F * a / b := by
  have p0 : 0 ≤ F * a := Int.mul_nonneg h0 ha
  have p1 : F * a ≤ 1048576 * a := Int.mul_le_mul_of_nonneg_right h1 ha
  have q0 : 0 ≤ F * a / b := Int.ediv_nonneg p0 (by omega)
  have q1 : F * a / b ≤ F * a := Int.ediv_le_self _ p0
  unfold downN
  rw [if_neg (by omega), stop_small (by omega)]
  exact ⟨rfl, q0⟩
theorem part_sum {F R a b m k : Int} (hb : 0 < b) (hm : 0 ≤ m) (hk : 0 ≤ k) :
    F * a / b * m + R * a / b * k ≤ (F * m + R * k) * a / b ∧ (F * m + R * k) * a / b ≤ F * a / b * m + R * a / b * k + (m + k) := by
  have e1 := Int.emod_add_mul_ediv (F * a) b
  have e2 := Int.emod_add_mul_ediv (R * a) b
  have u0 := Int.emod_nonneg (F * a) (show b ≠ 0 by omega)
  have u1 := Int.emod_lt_of_pos (F * a) hb
  have v0 := Int.emod_nonneg (R * a) (show b ≠ 0 by omega)
  have v1 := Int.emod_lt_of_pos (R * a) hb
  generalize F * a / b = p at *
  generalize R * a / b = q at *
  generalize hu : F * a % b = u at *
  generalize hv : R * a % b = v at *
  have e : (F * m + R * k) * a = b * (p * m + q * k) + (u * m + v * k) := by
    have c1 : F * m * a = F * a * m := Int.mul_right_comm _ _ _
    have c2 : R * k * a = R * a * k := Int.mul_right_comm _ _ _
    rw [Int.add_mul, c1, c2, ← e1, ← e2, Int.add_mul, Int.add_mul, Int.mul_add b, Int.mul_assoc b p m, Int.mul_assoc b q k]
    omega
  rw [e, Int.mul_add_ediv_left _ _ (by omega)]
  have n0 : 0 ≤ u * m + v * k := by
    have := Int.mul_nonneg u0 hm; have := Int.mul_nonneg v0 hk; omega
  have n1 : u * m + v * k ≤ b * (m + k) := by
    have a1 := Int.mul_le_mul_of_nonneg_right (show u ≤ b by omega) hm
    have a2 := Int.mul_le_mul_of_nonneg_right (show v ≤ b by omega) hk
    rw [Int.mul_add]; omega
  have d0 := Int.ediv_nonneg n0 (show 0 ≤ b by omega)
  have d1 : (u * m + v * k) / b ≤ m + k := by
    have := Int.ediv_le_ediv hb n1
    rw [Int.mul_ediv_cancel_left _ (by omega)] at this
    exact this
  omega
theorem part_at {F L R a b t : Int} (hm : May F L R) (ha : 0 ≤ a) (ha1 : a < 1048576) (hb : 0 < b) (ht : 0 ≤ t) (ht1 : t < 1099511627776) :
    atN (oneF (downN F a b) L (downN R a b)) (oneL (downN F a b) L (downN R a b)) (downN R a b) t ≤ downN (atN F L R t) a b ∧
    downN (atN F L R t) a b ≤ stopN (atN (oneF (downN F a b) L (downN R a b)) (oneL (downN F a b) L (downN R a b)) (downN R a b) t + stopN (t + 1)) := by
  have sa := (shape_at hm ht (by omega)).1
  obtain ⟨eF, nF⟩ := down_small hm.f0 hm.f1 ha ha1 hb
  obtain ⟨eR, nR⟩ := down_small hm.r0 hm.r1 ha ha1 hb
  have l0 := hm.l0
  rw [sa]
  unfold atN
  rw [raw_one _ _ _ _ ht, eF, eR]
  have p := part_sum (F := F) (R := R) (a := a) (m := min t L) (k := t - min t L) hb (by omega) (by omega)
  have hd : downN (rawN F L R t) a b = stopN (rawN F L R t * a / b) := by unfold downN; rw [if_neg (by omega)]
  rw [hd]
  have p2 : rawN (F * a / b) L (R * a / b) t ≤ rawN F L R t * a / b ∧ rawN F L R t * a / b ≤ rawN (F * a / b) L (R * a / b) t + t := by
    unfold rawN; exact ⟨p.1, by omega⟩
  refine ⟨stop_mono p2.1, ?_⟩
  have n := raw_nonneg nF l0 nR ht
  rw [stop_stop n (by omega)]
  exact stop_mono (by omega)
theorem part_self {F b : Int} (h0 : 0 ≤ F) (h1 : F ≤ 1048576) (hb : 0 < b) (hb1 : b < 1048576) : downN F b b = F := by
  rw [(down_small h0 h1 (by omega) hb1 hb).1, Int.mul_ediv_cancel _ (by omega)]
theorem one_may {F L R : Int} (hm : May F L R) : oneF F L R = F ∧ oneL F L R = L := by
  unfold oneF oneL
  by_cases h : F = R ∨ L = 0
  · rw [if_pos h, if_pos h]
    rcases Int.lt_or_le 0 L with k | k
    · have := hm.apart k; rcases h with h | h <;> omega
    · have := hm.l0
      have : L = 0 := by omega
      exact ⟨(hm.none this).symm, this.symm⟩
  · rw [if_neg h, if_neg h]; exact ⟨rfl, rfl⟩
/-- What is told in its one way may be, if its slopes are no more than the steepest. -/
theorem one_mayB {F L R : Int} (h0 : 0 ≤ F) (hL : 0 ≤ L) (hL1 : L ≤ 1099511627776) (hR : 0 ≤ R) : mayB (oneF F L R) (oneL F L R) R = true ∨ 1048576 < max F R := by
  rcases Int.lt_or_le 1048576 (max F R) with k | k
  · exact .inr k
  · left
    unfold oneF oneL mayB
    by_cases h : F = R ∨ L = 0
    · rw [if_pos h, if_pos h, if_neg (by omega), if_pos rfl]; rfl
    · rw [if_neg h, if_neg h, if_neg (by omega), if_neg (by omega)]
      simp only [not_or] at h
      simpa using h.1
theorem down_max {F R a b : Int} (hF : 0 ≤ F) (hR : 0 ≤ R) (ha : 0 ≤ a) (hb : 0 < b) : downN (max F R) a b = max (downN F a b) (downN R a b) := by
  unfold downN
  rw [if_neg (by omega), if_neg (by omega), if_neg (by omega)]
  rcases Int.le_total F R with h | h
  · have : F * a / b ≤ R * a / b := Int.ediv_le_ediv hb (Int.mul_le_mul_of_nonneg_right h ha)
    have := stop_mono this
    rw [Int.max_eq_right h]; omega
  · have : R * a / b ≤ F * a / b := Int.ediv_le_ediv hb (Int.mul_le_mul_of_nonneg_right h ha)
    have := stop_mono this
    rw [Int.max_eq_left h]; omega

end Go.Proofs.YtjhffbhjiflfeaaGreat
