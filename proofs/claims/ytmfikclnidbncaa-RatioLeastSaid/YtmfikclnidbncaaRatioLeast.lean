/-
  The walk of the law RatioLeast: Up(a, b, c) is the least n of which Down(n, c, b) is a at least.
-/
import Derived.Test.YtmfikclnidbncaaProg
import Derived.Test.YtmfikclnidbncaaRatioDownUp
namespace Go.Proofs.Ytmfikclnidbncaa
set_option linter.unusedVariables false
set_option linter.unusedSimpArgs false
open Go.RowKit Go.Shelf

theorem up_least (a b c : Int) (hc : 0 < c) (ha : 0 ≤ a) (hb : 0 ≤ b) :
    ∃ n, upN a b c = n ∧ 0 ≤ n ∧ n ≤ 4611686018427387904 ∧ ((n = 4611686018427387904 ∧ 4611686018427387903 * c < a * b) ∨ (n < 4611686018427387904 ∧ a * b ≤ n * c ∧ (n = 0 ∨ (n - 1) * c < a * b))) := by
  have hab : 0 ≤ a * b := Int.mul_nonneg ha hb
  rcases down_up_cases a b c hc ha hb with ⟨hd, hu, hk⟩ | ⟨d, d0, d1, hd, hu, hk, hm⟩ | ⟨d, d0, d1, hd, hu, hk, hm⟩
  · exact ⟨_, hu, by decide, by decide, .inl ⟨rfl, by omega⟩⟩
  · refine ⟨d, hu, d0, by omega, .inr ⟨d1, by omega, ?_⟩⟩
    rcases Int.lt_or_le 0 d with h | h
    · right; rw [Int.sub_mul, Int.one_mul]; omega
    · left; omega
  · refine ⟨d + 1, hu, by omega, by omega, ?_⟩
    by_cases h : d + 1 = 4611686018427387904
    · left
      have : d = 4611686018427387903 := by omega
      rw [this] at hk
      exact ⟨h, hk⟩
    · right
      exact ⟨by omega, by omega, .inr (by rw [Int.add_sub_cancel]; exact hk)⟩

set_option maxHeartbeats 4000000 in
theorem ratioLeast_walk (w : World) (a : Int) (ha : (Lit.int .u64 a).wf = true) (b : Int) (hb : (Lit.int .u64 b).wf = true) (c : Int) (hc : (Lit.int .u64 c).wf = true) :
    Calls Try.prog 13 #[.int .u64 a, .int .u64 b, .int .u64 c] w fun e w' => e = .returned (.bool true) ∧ Below w.heap.size w w' := by
  have wa := word_of_wf ha
  have wb := word_of_wf hb
  have wc := word_of_wf hc
  clear ha hb hc
  have AW := Lib.hid (fun w => awake02 w)
  by_cases zb : b = 0
  · subst zb
    go_enter Try.func13, Try.ntmps13
    go_wp2_with fail
    with_reducible refine (AW.out _).mono ?_
    rintro e w1 ⟨rfl, hb1⟩
    have B1 : Below w.heap.size w w1 := by first | with_reducible exact hb1 | exact Below.trans (by go_grown) (hb1.mono (by simp only [World.size_alloc]; omega))
    clear hb1
    go_wp2_with fail
    go_ret
    exact ⟨by simp, B1⟩
  have zb' : (b == 0) = false := beq_eq_false_iff_ne.2 zb
  by_cases zc : c = 0
  · subst zc
    go_enter Try.func13, Try.ntmps13
    go_wp2_with fail
    with_reducible refine (AW.out _).mono ?_
    rintro e w1 ⟨rfl, hb1⟩
    have B1 : Below w.heap.size w w1 := by first | with_reducible exact hb1 | exact Below.trans (by go_grown) (hb1.mono (by simp only [World.size_alloc]; omega))
    clear hb1
    go_wp2_with fail
    go_ret
    exact ⟨by simp, B1⟩
  have zc' : (c == 0) = false := beq_eq_false_iff_ne.2 zc
  by_cases za : 4611686018427387904 ≤ a
  · go_enter Try.func13, Try.ntmps13
    go_wp2_with fail
    with_reducible refine (AW.out _).mono ?_
    rintro e w1 ⟨rfl, hb1⟩
    have B1 : Below w.heap.size w w1 := by first | with_reducible exact hb1 | exact Below.trans (by go_grown) (hb1.mono (by simp only [World.size_alloc]; omega))
    clear hb1
    go_wp2_with fail
    go_ret
    exact ⟨by simp, B1⟩
  by_cases zd : 4611686018427387904 ≤ b
  · go_enter Try.func13, Try.ntmps13
    go_wp2_with fail
    with_reducible refine (AW.out _).mono ?_
    rintro e w1 ⟨rfl, hb1⟩
    have B1 : Below w.heap.size w w1 := by first | with_reducible exact hb1 | exact Below.trans (by go_grown) (hb1.mono (by simp only [World.size_alloc]; omega))
    clear hb1
    go_wp2_with fail
    go_ret
    exact ⟨by simp, B1⟩
  have b0 : 0 < b := by have := wb.1; omega
  have c0 : 0 < c := by have := wc.1; omega
  obtain ⟨n, hn, n0, n1, hcase⟩ := up_least a b c c0 wa.1 wb.1
  have ec : errN c = 0 := by unfold errN; rw [if_neg zc]
  have eb : errN b = 0 := by unfold errN; rw [if_neg zb]
  have wn : Word n := ⟨n0, by omega⟩
  have U := Lib.hid (fun w => up_val a b c n 0 w wa wb wc hn ec)
  rcases hcase with ⟨hcap, hk⟩ | ⟨hlt, hge, hle⟩
  · obtain ⟨h, eh⟩ : ∃ h, a * b / 18446744073709551616 = h := ⟨_, rfl⟩
    obtain ⟨l, el⟩ : ∃ h, a * b % 18446744073709551616 = h := ⟨_, rfl⟩
    obtain ⟨h2, e1⟩ : ∃ h, 4611686018427387903 * c / 18446744073709551616 = h := ⟨_, rfl⟩
    obtain ⟨l2, e2⟩ : ∃ h, 4611686018427387903 * c % 18446744073709551616 = h := ⟨_, rfl⟩
    have M1 := Lib.hid (fun w => mul_hl a b h l w wa wb eh el)
    have M2 := Lib.hid (fun w => mul_hl 4611686018427387903 c h2 l2 w (by decide) wc e1 e2)
    have C := Lib.hid (fun w => cmp_val _ _ h l h2 l2 1 w eh el e1 e2 (cmpN_gt hk))
    have z1 : (n == 4611686018427387904) = true := beq_iff_eq.2 hcap
    clear eh el e1 e2 hk hn hcap zb zc ec eb
    go_enter Try.func13, Try.ntmps13
    go_wp2_with fail
    with_reducible refine (AW.out _).mono ?_
    rintro e w1 ⟨rfl, hb1⟩
    have B1 : Below w.heap.size w w1 := by first | with_reducible exact hb1 | exact Below.trans (by go_grown) (hb1.mono (by simp only [World.size_alloc]; omega))
    clear hb1
    go_wp2_with fail
    with_reducible refine (U.out _).mono ?_
    rintro e w2 ⟨rfl, hb2⟩
    have B2 : Below w.heap.size w w2 := by first | with_reducible exact below_next B1 hb2 | exact below_step B1 (by go_grown) hb2
    clear hb2 B1
    go_wp2_with fail
    with_reducible refine (M1.out _).mono ?_
    rintro e w3 ⟨rfl, hb3⟩
    have B3 : Below w.heap.size w w3 := by first | with_reducible exact below_next B2 hb3 | exact below_step B2 (by go_grown) hb3
    clear hb3 B2
    go_wp2_with fail
    with_reducible refine (M2.out _).mono ?_
    rintro e w4 ⟨rfl, hb4⟩
    have B4 : Below w.heap.size w w4 := by first | with_reducible exact below_next B3 hb4 | exact below_step B3 (by go_grown) hb4
    clear hb4 B3
    go_wp2_with fail
    with_reducible refine (C.out _).mono ?_
    rintro e w5 ⟨rfl, hb5⟩
    have B5 : Below w.heap.size w w5 := by first | with_reducible exact below_next B4 hb5 | exact below_step B4 (by go_grown) hb5
    clear hb5 B4
    go_wp2_with fail
    go_ret
    exact ⟨by simp, B5⟩
  · obtain ⟨x, hx⟩ : ∃ x, downN n c b = x := ⟨_, rfl⟩
    have hxa : a ≤ x := by
      rw [← hx]
      unfold downN
      rw [if_neg zb]
      have : a ≤ n * c / b := (Int.le_ediv_iff_mul_le b0).2 hge
      unfold stopN; split <;> omega
    have z1 : (n == 4611686018427387904) = false := beq_eq_false_iff_ne.2 (by omega)
    have D1 := Lib.hid (fun w => down_val n c b x 0 w wn wc wb hx eb)
    have z2 : decide (x < a) = false := decide_eq_false (by omega)
    by_cases hn0 : n = 0
    · have ha0 : a = 0 := by
        rw [hn0, Int.zero_mul] at hge
        rcases Int.lt_or_le 0 a with h | h
        · have := Int.mul_pos h b0; omega
        · have := wa.1; omega
      have z3 : (n == 0) = true := beq_iff_eq.2 hn0
      have z4 : (a == 0) = true := beq_iff_eq.2 ha0
      clear hx hn hn0 ha0 zb zc ec eb hge hle
      go_enter Try.func13, Try.ntmps13
      go_wp2_with fail
      with_reducible refine (AW.out _).mono ?_
      rintro e w1 ⟨rfl, hb1⟩
      have B1 : Below w.heap.size w w1 := by first | with_reducible exact hb1 | exact Below.trans (by go_grown) (hb1.mono (by simp only [World.size_alloc]; omega))
      clear hb1
      go_wp2_with fail
      with_reducible refine (U.out _).mono ?_
      rintro e w2 ⟨rfl, hb2⟩
      have B2 : Below w.heap.size w w2 := by first | with_reducible exact below_next B1 hb2 | exact below_step B1 (by go_grown) hb2
      clear hb2 B1
      go_wp2_with fail
      with_reducible refine (D1.out _).mono ?_
      rintro e w3 ⟨rfl, hb3⟩
      have B3 : Below w.heap.size w w3 := by first | with_reducible exact below_next B2 hb3 | exact below_step B2 (by go_grown) hb3
      clear hb3 B2
      go_wp2_with fail
      go_ret
      exact ⟨by simp, B3⟩
    · have hlt2 : (n - 1) * c < a * b := by rcases hle with h | h; exact absurd h hn0; exact h
      obtain ⟨y, hy⟩ : ∃ x, downN (n - 1) c b = x := ⟨_, rfl⟩
      have hya : y < a := by
        rw [← hy]
        unfold downN
        rw [if_neg zb]
        have : (n - 1) * c / b < a := Int.ediv_lt_of_lt_mul b0 hlt2
        unfold stopN; split <;> omega
      have z3 : (n == 0) = false := beq_eq_false_iff_ne.2 hn0
      have n2 : 1 ≤ n := by omega
      have D2 := Lib.hid (fun w => down_val (n - 1) c b y 0 w ⟨by omega, by omega⟩ wc wb hy eb)
      clear hx hy hn hn0 zb zc ec eb hge hle hlt2
      go_enter Try.func13, Try.ntmps13
      go_wp2_with fail
      with_reducible refine (AW.out _).mono ?_
      rintro e w1 ⟨rfl, hb1⟩
      have B1 : Below w.heap.size w w1 := by first | with_reducible exact hb1 | exact Below.trans (by go_grown) (hb1.mono (by simp only [World.size_alloc]; omega))
      clear hb1
      go_wp2_with fail
      with_reducible refine (U.out _).mono ?_
      rintro e w2 ⟨rfl, hb2⟩
      have B2 : Below w.heap.size w w2 := by first | with_reducible exact below_next B1 hb2 | exact below_step B1 (by go_grown) hb2
      clear hb2 B1
      go_wp2_with fail
      with_reducible refine (D1.out _).mono ?_
      rintro e w3 ⟨rfl, hb3⟩
      have B3 : Below w.heap.size w w3 := by first | with_reducible exact below_next B2 hb3 | exact below_step B2 (by go_grown) hb3
      clear hb3 B2
      go_wp2_with fail
      with_reducible refine (D2.out _).mono ?_
      rintro e w4 ⟨rfl, hb4⟩
      have B4 : Below w.heap.size w w4 := by first | with_reducible exact below_next B3 hb4 | exact below_step B3 (by go_grown) hb4
      clear hb4 B3
      go_wp2_with fail
      go_ret
      exact ⟨by simp, B4⟩

end Go.Proofs.Ytmfikclnidbncaa
