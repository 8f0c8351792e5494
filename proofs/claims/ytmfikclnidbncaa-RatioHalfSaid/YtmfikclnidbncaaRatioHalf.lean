/-
  The walk of the law RatioHalf: half is between both; a number is as often in another one as is told.
-/
import Derived.Test.YtmfikclnidbncaaProg
import Derived.Test.YtmfikclnidbncaaRatioAwake
namespace Go.Proofs.Ytmfikclnidbncaa
set_option linter.unusedVariables false
set_option linter.unusedSimpArgs false
open Go.RowKit Go.Shelf

theorem over_qr (a b q r : Int) (w : World) (ha : Word a) (hb : 0 < b) (hq : a / b = q) (hr : a % b = r) : Calls Try.prog 14 #[.int .u64 a, .int .u64 b] w fun e w' => e = .returned (.tuple #[.int .u64 q, .int .u64 r, .int .i64 0]) ∧ Below w.heap.size w w' := by
  rw [← hq, ← hr]; exact over_any a b w ha hb
theorem wplus_hl (h1 l1 h2 l2 h l e : Int) (w : World) (a1 : Word h1) (a2 : Word l1) (a3 : Word h2) (a4 : Word l2) (eh : plusH h1 l1 h2 l2 = h) (el : plusL h1 l1 h2 l2 = l) (ee : plusE h1 l1 h2 l2 = e) :
    Calls Try.prog 42 #[.agg #[.int .u64 h1, .int .u64 l1], .agg #[.int .u64 h2, .int .u64 l2]] w fun e' w' => e' = .returned (.tuple #[.agg #[.int .u64 h, .int .u64 l], .int .i64 e]) ∧ Below w.heap.size w w' := by
  rw [← eh, ← el, ← ee]; exact wplus_any h1 l1 h2 l2 w a1 a2 a3 a4

set_option maxHeartbeats 1000000 in
theorem ratioHalf_walk (w : World) (a : Int) (ha : (Lit.int .u64 a).wf = true) (b : Int) (hb : (Lit.int .u64 b).wf = true) :
    Calls Try.prog 11 #[.int .u64 a, .int .u64 b] w fun e w' => e = .returned (.bool true) ∧ Below w.heap.size w w' := by
  have wa := word_of_wf ha
  have wb := word_of_wf hb
  clear ha hb
  have AW := Lib.hid (fun w => awake02 w)
  obtain ⟨x, hx⟩ : ∃ x, min a b = x := ⟨_, rfl⟩
  obtain ⟨y, hy⟩ : ∃ x, max a b = x := ⟨_, rfl⟩
  obtain ⟨h, hh⟩ : ∃ x, (a + b) / 2 = x := ⟨_, rfl⟩
  have hh2 : (b + a) / 2 = h := by omega
  have k1 : x ≤ h := by omega
  have k2 : h ≤ y := by omega
  have x0 : 0 ≤ x := by have := wa.1; have := wb.1; omega
  have y1 : y < 18446744073709551616 := by have := wa.2; have := wb.2; omega
  have H1 := Lib.hid (fun w => half_val a b h w wa wb hh)
  have H2 := Lib.hid (fun w => half_val b a h w wb wa hh2)
  obtain ⟨u, hu⟩ : ∃ u, y - h = u := ⟨_, rfl⟩
  obtain ⟨v, hv⟩ : ∃ u, h - x = u := ⟨_, rfl⟩
  have huv : u = v ∨ u = v + 1 := by omega
  have u0 : 0 ≤ u := by omega
  have u1 : u < 18446744073709551616 := by omega
  have v0 : 0 ≤ v := by omega
  have hw1 : IntKind.u64.wrap u = u := by rw [IntKind.wrap_u64]; omega
  have hw2 : IntKind.u64.wrap v = v := by rw [IntKind.wrap_u64]; omega
  have hw3 : IntKind.u64.wrap (v + 1) = v + 1 ∨ u = v := by
    rcases huv with h | h
    · exact .inr h
    · left; rw [IntKind.wrap_u64]; omega
  by_cases hz : b = 0
  · subst hz
    rcases huv with huv | huv
    · skip
      have hne : (u != v) = false := by simp [huv]
      clear huv hw3 hh hh2
      go_enter Try.func11, Try.ntmps11
      go_wp2_with fail
      with_reducible refine (AW.out _).mono ?_
      rintro e w1 ⟨rfl, B1⟩
      go_wp2_with fail
      with_reducible refine (H1.out _).mono ?_
      rintro e wx ⟨rfl, rfl⟩
      go_wp2_with fail
      with_reducible refine (H2.out _).mono ?_
      rintro e wx ⟨rfl, rfl⟩
      go_wp2_with fail
      with_reducible refine (over_zero _ _).mono ?_
      rintro e wx ⟨rfl, rfl⟩
      go_wp2_with fail
      go_ret
      exact ⟨by simp, B1⟩
    · skip
      have hne : (u != v) = true := bne_iff_ne.2 (by omega)
      have hn2 : (u != v + 1) = false := by simp [huv]
      have hw4 : IntKind.u64.wrap (v + 1) = v + 1 := by rw [IntKind.wrap_u64]; omega
      clear huv hw3 hh hh2
      go_enter Try.func11, Try.ntmps11
      go_wp2_with fail
      with_reducible refine (AW.out _).mono ?_
      rintro e w1 ⟨rfl, B1⟩
      go_wp2_with fail
      with_reducible refine (H1.out _).mono ?_
      rintro e wx ⟨rfl, rfl⟩
      go_wp2_with fail
      with_reducible refine (H2.out _).mono ?_
      rintro e wx ⟨rfl, rfl⟩
      go_wp2_with fail
      with_reducible refine (over_zero _ _).mono ?_
      rintro e wx ⟨rfl, rfl⟩
      go_wp2_with fail
      go_ret
      exact ⟨by simp, B1⟩
  · rcases huv with huv | huv
    · skip
      have hne : (u != v) = false := by simp [huv]
      obtain ⟨q, hq⟩ : ∃ u, a / b = u := ⟨_, rfl⟩
      obtain ⟨r, hr⟩ : ∃ u, a % b = u := ⟨_, rfl⟩
      have hb0 : 0 < b := by have := wb.1; omega
      have OV := Lib.hid (fun w => over_qr a b q r w wa hb0 hq hr)
      have r0 : 0 ≤ r := by rw [← hr]; exact Int.emod_nonneg _ (by omega)
      have r1 : r < b := by rw [← hr]; exact Int.emod_lt_of_pos _ hb0
      have q0 : 0 ≤ q := by rw [← hq]; exact Int.ediv_nonneg wa.1 (by omega)
      have q1 : q ≤ a := by rw [← hq]; exact Int.ediv_le_self _ wa.1
      have qw : Word q := ⟨q0, by have := wa.2; omega⟩
      have rw1 : Word r := ⟨r0, by have := wb.2; omega⟩
      have key : q * b + r = a := by rw [← hq, ← hr, Int.mul_comm]; exact Int.mul_ediv_add_emod a b
      obtain ⟨p, hp⟩ : ∃ p, q * b = p := ⟨_, rfl⟩
      have p0 : 0 ≤ p := by rw [← hp]; exact Int.mul_nonneg q0 (by omega)
      rw [hp] at key
      have a1 := wa.2
      have e1 : q * b / 18446744073709551616 = 0 := by rw [hp]; omega
      have e2 : q * b % 18446744073709551616 = p := by rw [hp]; omega
      have pw : Word p := ⟨p0, by omega⟩
      have MU := Lib.hid (fun w => mul_hl q b 0 p w qw wb e1 e2)
      have e3 : plusH 0 p 0 r = 0 := by unfold plusH; rw [if_neg (by omega)]; omega
      have e4 : plusL 0 p 0 r = a := by unfold plusL; rw [if_neg (by omega)]; omega
      have e5 : plusE 0 p 0 r = 0 := by unfold plusE; rw [if_neg (by omega)]
      have PL := Lib.hid (fun w => wplus_hl 0 p 0 r 0 a 0 w word0 pw word0 rw1 e3 e4 e5)
      have bz : (b == 0) = false := beq_eq_false_iff_ne.2 hz
      clear hq hr e1 e2 e3 e4 e5 hp key q1 hz
      clear huv hw3 hh hh2
      go_enter Try.func11, Try.ntmps11
      go_wp2_with fail
      with_reducible refine (AW.out _).mono ?_
      rintro e w1 ⟨rfl, B1⟩
      go_wp2_with fail
      with_reducible refine (H1.out _).mono ?_
      rintro e wx ⟨rfl, rfl⟩
      go_wp2_with fail
      with_reducible refine (H2.out _).mono ?_
      rintro e wx ⟨rfl, rfl⟩
      go_wp2_with fail
      with_reducible refine (OV.out _).mono ?_
      rintro e w2 ⟨rfl, hb2⟩
      have B2 := below_next B1 hb2
      clear hb2 B1
      go_wp2_with fail
      with_reducible refine (MU.out _).mono ?_
      rintro e w3 ⟨rfl, hb3⟩
      have B3 := below_next B2 hb3
      clear hb3 B2
      go_wp2_with fail
      with_reducible refine (PL.out _).mono ?_
      rintro e w4 ⟨rfl, hb4⟩
      have B4 : Below w.heap.size w w4 := by
        first
          | exact below_next B3 hb4
          | exact below_next B3 (Below.trans (by go_grown) (hb4.mono (by simp only [World.size_alloc]; omega)))
      clear hb4 B3
      go_wp2_with fail
      go_ret
      have S4 := B4.size
      exact ⟨by simp, by go_grown⟩
    · skip
      have hne : (u != v) = true := bne_iff_ne.2 (by omega)
      have hn2 : (u != v + 1) = false := by simp [huv]
      have hw4 : IntKind.u64.wrap (v + 1) = v + 1 := by rw [IntKind.wrap_u64]; omega
      obtain ⟨q, hq⟩ : ∃ u, a / b = u := ⟨_, rfl⟩
      obtain ⟨r, hr⟩ : ∃ u, a % b = u := ⟨_, rfl⟩
      have hb0 : 0 < b := by have := wb.1; omega
      have OV := Lib.hid (fun w => over_qr a b q r w wa hb0 hq hr)
      have r0 : 0 ≤ r := by rw [← hr]; exact Int.emod_nonneg _ (by omega)
      have r1 : r < b := by rw [← hr]; exact Int.emod_lt_of_pos _ hb0
      have q0 : 0 ≤ q := by rw [← hq]; exact Int.ediv_nonneg wa.1 (by omega)
      have q1 : q ≤ a := by rw [← hq]; exact Int.ediv_le_self _ wa.1
      have qw : Word q := ⟨q0, by have := wa.2; omega⟩
      have rw1 : Word r := ⟨r0, by have := wb.2; omega⟩
      have key : q * b + r = a := by rw [← hq, ← hr, Int.mul_comm]; exact Int.mul_ediv_add_emod a b
      obtain ⟨p, hp⟩ : ∃ p, q * b = p := ⟨_, rfl⟩
      have p0 : 0 ≤ p := by rw [← hp]; exact Int.mul_nonneg q0 (by omega)
      rw [hp] at key
      have a1 := wa.2
      have e1 : q * b / 18446744073709551616 = 0 := by rw [hp]; omega
      have e2 : q * b % 18446744073709551616 = p := by rw [hp]; omega
      have pw : Word p := ⟨p0, by omega⟩
      have MU := Lib.hid (fun w => mul_hl q b 0 p w qw wb e1 e2)
      have e3 : plusH 0 p 0 r = 0 := by unfold plusH; rw [if_neg (by omega)]; omega
      have e4 : plusL 0 p 0 r = a := by unfold plusL; rw [if_neg (by omega)]; omega
      have e5 : plusE 0 p 0 r = 0 := by unfold plusE; rw [if_neg (by omega)]
      have PL := Lib.hid (fun w => wplus_hl 0 p 0 r 0 a 0 w word0 pw word0 rw1 e3 e4 e5)
      have bz : (b == 0) = false := beq_eq_false_iff_ne.2 hz
      clear hq hr e1 e2 e3 e4 e5 hp key q1 hz
      clear huv hw3 hh hh2
      go_enter Try.func11, Try.ntmps11
      go_wp2_with fail
      with_reducible refine (AW.out _).mono ?_
      rintro e w1 ⟨rfl, B1⟩
      go_wp2_with fail
      with_reducible refine (H1.out _).mono ?_
      rintro e wx ⟨rfl, rfl⟩
      go_wp2_with fail
      with_reducible refine (H2.out _).mono ?_
      rintro e wx ⟨rfl, rfl⟩
      go_wp2_with fail
      with_reducible refine (OV.out _).mono ?_
      rintro e w2 ⟨rfl, hb2⟩
      have B2 := below_next B1 hb2
      clear hb2 B1
      go_wp2_with fail
      with_reducible refine (MU.out _).mono ?_
      rintro e w3 ⟨rfl, hb3⟩
      have B3 := below_next B2 hb3
      clear hb3 B2
      go_wp2_with fail
      with_reducible refine (PL.out _).mono ?_
      rintro e w4 ⟨rfl, hb4⟩
      have B4 : Below w.heap.size w w4 := by
        first
          | exact below_next B3 hb4
          | exact below_next B3 (Below.trans (by go_grown) (hb4.mono (by simp only [World.size_alloc]; omega)))
      clear hb4 B3
      go_wp2_with fail
      go_ret
      have S4 := B4.size
      exact ⟨by simp, by go_grown⟩

end Go.Proofs.Ytmfikclnidbncaa
