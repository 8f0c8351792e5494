/-
  The walk of the law WideFractions: fractions are ordered, whatever both parts are multiplied by.
-/
import Derived.Test.YtafhdpldkbhdcaaProg
import Derived.Test.YtafhdpldkbhdcaaWideAwake
namespace Go.Proofs.Ytafhdpldkbhdcaa
set_option linter.unusedVariables false
set_option linter.unusedSimpArgs false
open Go.RowKit Go.Shelf

theorem u32_of_wf {x : Int} (h : (Lit.int .u32 x).wf = true) : 0 ≤ x ∧ x < 4294967296 := by
  have := bounds_u32 h
  exact ⟨by omega, by omega⟩

/-- How fractions compare. -/
def fr (p q r s : Int) : Int := cmpN (p * s) (r * q)
theorem cmpN_cases (x y : Int) : (cmpN x y = -1 ∧ x < y) ∨ (cmpN x y = 0 ∧ x = y) ∨ (cmpN x y = 1 ∧ y < x) := by
  unfold cmpN; split <;> (try split) <;> omega
theorem cmpN_anti (x y : Int) : cmpN x y = -cmpN y x := by
  unfold cmpN; split <;> split <;> omega
theorem cmpN_scale {x y m : Int} (hm : 0 < m) : cmpN (x * m) (y * m) = cmpN x y := by
  rcases Int.lt_trichotomy x y with h | h | h
  · rw [cmpN_lt h, cmpN_lt (Int.mul_lt_mul_of_pos_right h hm)]
  · subst h; rw [cmpN_eq, cmpN_eq]
  · rw [cmpN_gt h, cmpN_gt (Int.mul_lt_mul_of_pos_right h hm)]
/-- At most goes on. -/
theorem fr_trans {p q r s t u : Int} (hq : 0 < q) (hs : 0 < s) (hu : 0 < u) (h1 : p * s ≤ r * q) (h2 : r * u ≤ t * s) : p * u ≤ t * q := by
  have a : p * s * u ≤ r * q * u := Int.mul_le_mul_of_nonneg_right h1 (by omega)
  have b : r * u * q ≤ t * s * q := Int.mul_le_mul_of_nonneg_right h2 (by omega)
  have e : r * q * u = r * u * q := by rw [Int.mul_assoc, Int.mul_comm q u, ← Int.mul_assoc]
  have c : p * u * s ≤ t * q * s := by
    have e1 : p * s * u = p * u * s := by rw [Int.mul_assoc, Int.mul_comm s u, ← Int.mul_assoc]
    have e2 : t * s * q = t * q * s := by rw [Int.mul_assoc, Int.mul_comm s q, ← Int.mul_assoc]
    omega
  exact Int.le_of_mul_le_mul_right c hs
theorem fr_trans_lt {p q r s t u : Int} (hq : 0 < q) (hs : 0 < s) (hu : 0 < u) (h1 : p * s = r * q) (h2 : r * u < t * s) : p * u < t * q := by
  have b : r * u * q < t * s * q := Int.mul_lt_mul_of_pos_right h2 hq
  have a : p * s * u = r * q * u := by rw [h1]
  have e : r * q * u = r * u * q := by rw [Int.mul_assoc, Int.mul_comm q u, ← Int.mul_assoc]
  have c : p * u * s < t * q * s := by
    have e1 : p * s * u = p * u * s := by rw [Int.mul_assoc, Int.mul_comm s u, ← Int.mul_assoc]
    have e2 : t * s * q = t * q * s := by rw [Int.mul_assoc, Int.mul_comm s q, ← Int.mul_assoc]
    omega
  exact Int.lt_of_mul_lt_mul_right c (by omega)
theorem fr_lt_eq {p q r s t u : Int} (hq : 0 < q) (hs : 0 < s) (hu : 0 < u) (h1 : p * s < r * q) (h2 : r * u = t * s) : p * u < t * q := by
  have b : p * s * u < r * q * u := Int.mul_lt_mul_of_pos_right h1 hu
  have a : r * u * q = t * s * q := by rw [h2]
  have e : r * q * u = r * u * q := by rw [Int.mul_assoc, Int.mul_comm q u, ← Int.mul_assoc]
  have c : p * u * s < t * q * s := by
    have e1 : p * s * u = p * u * s := by rw [Int.mul_assoc, Int.mul_comm s u, ← Int.mul_assoc]
    have e2 : t * s * q = t * q * s := by rw [Int.mul_assoc, Int.mul_comm s q, ← Int.mul_assoc]
    omega
  exact Int.lt_of_mul_lt_mul_right c (by omega)
/-- What the first test asks. -/
theorem fr_order {p q r s t u k1 k2 k3 : Int} (hq : 0 < q) (hs : 0 < s) (hu : 0 < u) (e1 : cmpN (p * s) (r * q) = k1) (e2 : cmpN (r * u) (t * s) = k2) (e3 : cmpN (p * u) (t * q) = k3) :
    (k1 = 1) ∨ (k1 = -1 ∧ k2 = 1) ∨ (k1 = -1 ∧ k2 ≤ 0 ∧ k3 ≤ 0) ∨ (k1 = 0 ∧ k2 = 1 ∧ k3 = 1) ∨ (k1 = 0 ∧ k2 = k3 ∧ k3 ≤ 0) := by
  rcases cmpN_cases (p * s) (r * q) with ⟨f1, h1⟩ | ⟨f1, h1⟩ | ⟨f1, h1⟩ <;> rcases cmpN_cases (r * u) (t * s) with ⟨f2, h2⟩ | ⟨f2, h2⟩ | ⟨f2, h2⟩ <;> rcases cmpN_cases (p * u) (t * q) with ⟨f3, h3⟩ | ⟨f3, h3⟩ | ⟨f3, h3⟩ <;> rw [f1] at e1 <;> rw [f2] at e2 <;> rw [f3] at e3 <;> first | omega | skip
  all_goals exfalso
  all_goals first
    | (have := fr_trans hq hs hu (Int.le_of_lt h1) (Int.le_of_lt h2); omega)
    | (have := fr_trans hq hs hu (Int.le_of_lt h1) (Int.le_of_eq h2); omega)
    | (have := fr_trans_lt hq hs hu h1 h2; omega)
    | (have a := fr_trans hq hs hu (Int.le_of_eq h1) (Int.le_of_eq h2); have b := fr_trans (p := t) (q := u) (r := r) (s := s) (t := p) (u := q) hu hs hq (Int.le_of_eq h2.symm) (Int.le_of_eq h1.symm); omega)
    | (have b := fr_lt_eq (p := t) (q := u) (r := r) (s := s) (t := p) (u := q) hu hs hq h2 h1.symm; omega)

set_option maxHeartbeats 4000000 in
theorem wideFractions_walk (w : World) (a : Int) (xa : (Lit.int .u32 a).wf = true) (b : Int) (xb : (Lit.int .u32 b).wf = true) (c : Int) (xc : (Lit.int .u32 c).wf = true) (d : Int) (xd : (Lit.int .u32 d).wf = true)
    (t : Int) (xt : (Lit.int .u32 t).wf = true) (f : Int) (xf : (Lit.int .u32 f).wf = true) (n : Int) (xn : (Lit.int .u32 n).wf = true) :
    Calls Try.prog 4 #[.int .u32 a, .int .u32 b, .int .u32 c, .int .u32 d, .int .u32 t, .int .u32 f, .int .u32 n] w fun e w' => e = .returned (.bool true) ∧ Below w.heap.size w w' := by
  obtain ⟨a0, a1⟩ := u32_of_wf xa
  obtain ⟨b0, b1⟩ := u32_of_wf xb
  obtain ⟨c0, c1⟩ := u32_of_wf xc
  obtain ⟨d0, d1⟩ := u32_of_wf xd
  obtain ⟨t0, t1⟩ := u32_of_wf xt
  obtain ⟨f0, f1⟩ := u32_of_wf xf
  obtain ⟨n0, n1⟩ := u32_of_wf xn
  clear xa xb xc xd xt xf xn
  have AW := Lib.hid (fun w => awake01 w)
  by_cases hb : b = 0
  · subst hb
    go_enter Try.func4, Try.ntmps4
    go_wp2_with fail
    with_reducible refine (AW.out _).mono ?_
    rintro e w1 ⟨rfl, hb1⟩
    have B1 : Below w.heap.size w w1 := by first | with_reducible exact hb1 | exact Below.trans (by go_grown) (hb1.mono (by simp only [World.size_alloc]; omega))
    clear hb1
    go_wp2_with fail
    go_ret
    exact ⟨by simp, B1⟩
  have zb : (b == 0) = false := beq_eq_false_iff_ne.2 hb
  by_cases hd : d = 0
  · subst hd
    go_enter Try.func4, Try.ntmps4
    go_wp2_with fail
    with_reducible refine (AW.out _).mono ?_
    rintro e w1 ⟨rfl, hb1⟩
    have B1 : Below w.heap.size w w1 := by first | with_reducible exact hb1 | exact Below.trans (by go_grown) (hb1.mono (by simp only [World.size_alloc]; omega))
    clear hb1
    go_wp2_with fail
    go_ret
    exact ⟨by simp, B1⟩
  have zd : (d == 0) = false := beq_eq_false_iff_ne.2 hd
  by_cases hf : f = 0
  · subst hf
    go_enter Try.func4, Try.ntmps4
    go_wp2_with fail
    with_reducible refine (AW.out _).mono ?_
    rintro e w1 ⟨rfl, hb1⟩
    have B1 : Below w.heap.size w w1 := by first | with_reducible exact hb1 | exact Below.trans (by go_grown) (hb1.mono (by simp only [World.size_alloc]; omega))
    clear hb1
    go_wp2_with fail
    go_ret
    exact ⟨by simp, B1⟩
  have zf : (f == 0) = false := beq_eq_false_iff_ne.2 hf
  have bp : 0 < b := by omega
  have wa : Word a := ⟨a0, by omega⟩
  have wb : Word b := ⟨b0, by omega⟩
  have wc : Word c := ⟨c0, by omega⟩
  have wd : Word d := ⟨d0, by omega⟩
  have wt : Word t := ⟨t0, by omega⟩
  have wf : Word f := ⟨f0, by omega⟩
  obtain ⟨k1, e1⟩ : ∃ k, cmpN (a * d) (c * b) = k := ⟨_, rfl⟩
  obtain ⟨k2, e2⟩ : ∃ k, cmpN (c * f) (t * d) = k := ⟨_, rfl⟩
  obtain ⟨k3, e3⟩ : ∃ k, cmpN (a * f) (t * b) = k := ⟨_, rfl⟩
  have cases := fr_order (p := a) (q := b) (r := c) (s := d) (t := t) (u := f) (by omega) (by omega) (by omega) e1 e2 e3
  have e4 : cmpN (c * b) (a * d) = -k1 := by rw [cmpN_anti, e1]
  have F1 := Lib.hid (fun w => frac_val a b c d k1 w wa wb wc wd e1)
  have F2 := Lib.hid (fun w => frac_val c d t f k2 w wc wd wt wf e2)
  have F3 := Lib.hid (fun w => frac_val a b t f k3 w wa wb wt wf e3)
  have F4 := Lib.hid (fun w => frac_val c d a b (-k1) w wc wd wa wb e4)
  have bk2 : -1 ≤ k2 ∧ k2 ≤ 1 := by have := cmpN_cases (c * f) (t * d); rw [e2] at this; omega
  have bk3 : -1 ≤ k3 ∧ k3 ≤ 1 := by have := cmpN_cases (a * f) (t * b); rw [e3] at this; omega
  obtain ⟨g1, g2⟩ := bk2
  obtain ⟨g3, g4⟩ := bk3
  have E1 := Lib.hid e1
  clear e1 e2 e3 e4 hb hd hf
  by_cases hm : 4294967295 < n + 1
  · rcases cases with rfl | ⟨rfl, rfl⟩ | ⟨rfl, h2, h3⟩ | ⟨rfl, rfl, rfl⟩ | ⟨rfl, rfl, h3⟩
    all_goals
      go_enter Try.func4, Try.ntmps4
      go_wp2_with fail
      with_reducible refine (AW.out _).mono ?_
      rintro e w1 ⟨rfl, hb1⟩
      have B1 : Below w.heap.size w w1 := by first | with_reducible exact hb1 | exact Below.trans (by go_grown) (hb1.mono (by simp only [World.size_alloc]; omega))
      clear hb1
      go_wp2_with fail
      with_reducible refine (F1.out _).mono ?_
      rintro e w2 ⟨rfl, hb2⟩
      have B2 : Below w.heap.size w w2 := by first | with_reducible exact below_next B1 hb2 | exact below_step B1 (by go_grown) hb2
      clear hb2 B1
      go_wp2_with fail
      with_reducible refine (F2.out _).mono ?_
      rintro e w3 ⟨rfl, hb3⟩
      have B3 : Below w.heap.size w w3 := by first | with_reducible exact below_next B2 hb3 | exact below_step B2 (by go_grown) hb3
      clear hb3 B2
      go_wp2_with fail
      with_reducible refine (F3.out _).mono ?_
      rintro e w4 ⟨rfl, hb4⟩
      have B4 : Below w.heap.size w w4 := by first | with_reducible exact below_next B3 hb4 | exact below_step B3 (by go_grown) hb4
      clear hb4 B3
      go_wp2_with fail
      with_reducible refine (F4.out _).mono ?_
      rintro e w5 ⟨rfl, hb5⟩
      have B5 : Below w.heap.size w w5 := by first | with_reducible exact below_next B4 hb5 | exact below_step B4 (by go_grown) hb5
      clear hb5 B4
      go_wp2_with fail
      go_ret
      exact ⟨by simp, B5⟩
  · have m0 : 0 < n + 1 := by omega
    have bnd : ∀ x : Int, 0 ≤ x → x < 4294967296 → 0 ≤ x * (n + 1) ∧ x * (n + 1) < 18446744073709551616 := by
      intro x h0 h1
      refine ⟨Int.mul_nonneg h0 (by omega), ?_⟩
      have : x * (n + 1) ≤ 4294967295 * (n + 1) := Int.mul_le_mul_of_nonneg_right (by omega) (by omega)
      omega
    obtain ⟨pm0, pm1⟩ := bnd a a0 a1
    obtain ⟨qm0, qm1⟩ := bnd b b0 b1
    obtain ⟨pm, hpm⟩ : ∃ x, a * (n + 1) = x := ⟨_, rfl⟩
    obtain ⟨qm, hqm⟩ : ∃ x, b * (n + 1) = x := ⟨_, rfl⟩
    have s1 : a * b * (n + 1) = pm * b := by rw [← hpm, Int.mul_assoc, Int.mul_comm b, ← Int.mul_assoc]
    have s2 : a * b * (n + 1) = a * qm := by rw [← hqm, Int.mul_assoc]
    have s3 : a * d * (n + 1) = pm * d := by rw [← hpm, Int.mul_assoc, Int.mul_comm d, ← Int.mul_assoc]
    have s4 : c * b * (n + 1) = c * qm := by rw [← hqm, Int.mul_assoc]
    have q1 : cmpN (pm * b) (a * qm) = 0 := by rw [← s1, ← s2]; exact cmpN_eq _
    have q2 : cmpN (pm * d) (c * qm) = k1 := by rw [← s3, ← s4, cmpN_scale m0]; exact E1.out
    have q3 : cmpN ((a + 1) * b) (a * b) = 1 := cmpN_gt (Int.mul_lt_mul_of_pos_right (by omega) (by omega))
    have q4 : cmpN ((a + 1) * b) ((a + 1) * (b + 1)) = -1 := cmpN_lt (Int.mul_lt_mul_of_pos_left (by omega) (by omega))
    have r1 : IntKind.u64.wrap (a * (n + 1)) = pm := by rw [IntKind.wrap_u64]; omega
    have r2 : IntKind.u64.wrap (b * (n + 1)) = qm := by rw [IntKind.wrap_u64]; omega
    rw [hpm] at pm0 pm1
    rw [hqm] at qm0 qm1
    have wpm : Word pm := ⟨pm0, pm1⟩
    have wqm : Word qm := ⟨qm0, qm1⟩
    have wa1 : Word (a + 1) := ⟨by omega, by omega⟩
    have wb1 : Word (b + 1) := ⟨by omega, by omega⟩
    have F5 := Lib.hid (fun w => frac_val pm qm a b 0 w wpm wqm wa wb q1)
    have F6 := Lib.hid (fun w => frac_val pm qm c d k1 w wpm wqm wc wd q2)
    have F7 := Lib.hid (fun w => frac_val (a + 1) b a b 1 w wa1 wb wa wb q3)
    have F8 := Lib.hid (fun w => frac_val (a + 1) (b + 1) (a + 1) b (-1) w wa1 wb1 wa1 wb q4)
    clear s1 s2 s3 s4 q1 q2 q3 q4 hpm hqm bnd wa wb wc wd wt wf wpm wqm wa1 wb1
    rcases cases with rfl | ⟨rfl, rfl⟩ | ⟨rfl, h2, h3⟩ | ⟨rfl, rfl, rfl⟩ | ⟨rfl, rfl, h3⟩
    all_goals
      go_enter Try.func4, Try.ntmps4
      go_wp2_with fail
      with_reducible refine (AW.out _).mono ?_
      rintro e w1 ⟨rfl, hb1⟩
      have B1 : Below w.heap.size w w1 := by first | with_reducible exact hb1 | exact Below.trans (by go_grown) (hb1.mono (by simp only [World.size_alloc]; omega))
      clear hb1
      go_wp2_with fail
      with_reducible refine (F1.out _).mono ?_
      rintro e w2 ⟨rfl, hb2⟩
      have B2 : Below w.heap.size w w2 := by first | with_reducible exact below_next B1 hb2 | exact below_step B1 (by go_grown) hb2
      clear hb2 B1
      go_wp2_with fail
      with_reducible refine (F2.out _).mono ?_
      rintro e w3 ⟨rfl, hb3⟩
      have B3 : Below w.heap.size w w3 := by first | with_reducible exact below_next B2 hb3 | exact below_step B2 (by go_grown) hb3
      clear hb3 B2
      go_wp2_with fail
      with_reducible refine (F3.out _).mono ?_
      rintro e w4 ⟨rfl, hb4⟩
      have B4 : Below w.heap.size w w4 := by first | with_reducible exact below_next B3 hb4 | exact below_step B3 (by go_grown) hb4
      clear hb4 B3
      go_wp2_with fail
      with_reducible refine (F4.out _).mono ?_
      rintro e w5 ⟨rfl, hb5⟩
      have B5 : Below w.heap.size w w5 := by first | with_reducible exact below_next B4 hb5 | exact below_step B4 (by go_grown) hb5
      clear hb5 B4
      go_wp2_with fail
      with_reducible refine (F5.out _).mono ?_
      rintro e w6 ⟨rfl, hb6⟩
      have B6 : Below w.heap.size w w6 := by first | with_reducible exact below_next B5 hb6 | exact below_step B5 (by go_grown) hb6
      clear hb6 B5
      go_wp2_with fail
      with_reducible refine (F6.out _).mono ?_
      rintro e w7 ⟨rfl, hb7⟩
      have B7 : Below w.heap.size w w7 := by first | with_reducible exact below_next B6 hb7 | exact below_step B6 (by go_grown) hb7
      clear hb7 B6
      go_wp2_with fail
      with_reducible refine (F7.out _).mono ?_
      rintro e w8 ⟨rfl, hb8⟩
      have B8 : Below w.heap.size w w8 := by first | with_reducible exact below_next B7 hb8 | exact below_step B7 (by go_grown) hb8
      clear hb8 B7
      go_wp2_with fail
      with_reducible refine (F8.out _).mono ?_
      rintro e w9 ⟨rfl, hb9⟩
      have B9 : Below w.heap.size w w9 := by first | with_reducible exact below_next B8 hb9 | exact below_step B8 (by go_grown) hb9
      clear hb9 B8
      go_wp2_with fail
      go_ret
      exact ⟨by simp, B9⟩

end Go.Proofs.Ytafhdpldkbhdcaa
