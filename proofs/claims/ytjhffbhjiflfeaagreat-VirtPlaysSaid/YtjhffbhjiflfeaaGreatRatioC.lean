/-
  What the program's and the document's rounded quotients are.
-/
import Derived.Test.YtjhffbhjiflfeaaGreatProg
import Derived.Test.YtjhffbhjiflfeaaGreatWide
import Derived.Test.YtjhffbhjiflfeaaGreatRatioB
namespace Go.Proofs.YtjhffbhjiflfeaaGreat
set_option linter.unusedVariables false
set_option linter.unusedSimpArgs false
open Go.RowKit Go.Shelf

def errN (c : Int) : Int := if c = 0 then 2 else 0
def downN (a b c : Int) : Int := if c = 0 then 0 else stopN (a * b / c)
def upN (a b c : Int) : Int := if c = 0 then 0 else stopN (a * b / c + if a * b % c = 0 then 0 else 1)

theorem more_up (x : Int) (w : World) : Calls Tryz.prog 123 #[.int .u64 x] w fun e w' => e = .returned (.int .u64 (min x 1)) ∧ w = w' := by
  go_enter Tryz.func123, Tryz.ntmps123
  go_wp2_with fail
  go_ret
  exact ⟨rfl, rfl⟩

/-- A quotient, by the function that tells whether there is one more. -/
theorem of_zero (f : Nat) (a b : Int) (w : World) (ha : Word a) (hb : Word b) :
    Calls Tryz.prog 124 #[.agg #[.func (.func f) #[] #[]], .int .u64 a, .int .u64 b, .int .u64 0] w fun e w' => e = .returned (.tuple #[.int .u64 0, .int .i64 2]) ∧ Below w.heap.size w w' := by
  obtain ⟨w1, w2, e1, e2⟩ := prod_words ha hb
  obtain ⟨h, eh⟩ : ∃ h, a * b / 18446744073709551616 = h := ⟨_, rfl⟩
  obtain ⟨l, el⟩ : ∃ l, a * b % 18446744073709551616 = l := ⟨_, rfl⟩
  have EH := Lib.hid eh
  have EL := Lib.hid el
  clear e1 eh el w1 w2 e2
  go_enter Tryz.func124, Tryz.ntmps124
  go_wp2_with fail
  with_reducible refine (mul_hl a b h l _ ha hb EH.out EL.out).mono ?_
  rintro e w1 ⟨rfl, hb1⟩
  have B1 : Below w.heap.size w w1 := Below.trans (by go_grown) (hb1.mono (by simp only [World.size_alloc]; omega))
  clear hb1
  go_wp2_with fail
  with_reducible refine (wdiv_zero _ _ _).mono ?_
  rintro e w2 ⟨rfl, hb2⟩
  have B2 := below_next B1 hb2
  clear hb2 B1
  go_wp2_with fail
  go_ret2
  exact ⟨rfl, B2⟩
theorem of_over (f : Nat) (a b c h l : Int) (w : World) (ha : Word a) (hb : Word b) (eh : a * b / 18446744073709551616 = h) (el : a * b % 18446744073709551616 = l) (hc : 0 < c) (hh : c ≤ h) :
    Calls Tryz.prog 124 #[.agg #[.func (.func f) #[] #[]], .int .u64 a, .int .u64 b, .int .u64 c] w fun e w' => e = .returned (.tuple #[.int .u64 4611686018427387904, .int .i64 0]) ∧ Below w.heap.size w w' := by
  have EH := Lib.hid eh
  have EL := Lib.hid el
  clear eh el
  go_enter Tryz.func124, Tryz.ntmps124
  go_wp2_with fail
  with_reducible refine (mul_hl a b h l _ ha hb EH.out EL.out).mono ?_
  rintro e w1 ⟨rfl, hb1⟩
  have B1 : Below w.heap.size w w1 := Below.trans (by go_grown) (hb1.mono (by simp only [World.size_alloc]; omega))
  clear hb1
  go_wp2_with fail
  with_reducible refine (wdiv_over _ _ _ _ hc hh).mono ?_
  rintro e w2 ⟨rfl, hb2⟩
  have B2 := below_next B1 hb2
  clear hb2 B1
  go_wp2_with fail
  go_ret2
  exact ⟨rfl, B2⟩
theorem of_up (a b c h l q r s m : Int) (w : World) (ha : Word a) (hb : Word b) (hc : Word c) (eh : a * b / 18446744073709551616 = h) (el : a * b % 18446744073709551616 = l) (hh : h < c)
    (eq : a * b / c = q) (er : a * b % c = r) (em : (min r 1) = m) (es : stopN (q + m) = s) :
    Calls Tryz.prog 124 #[.agg #[.func (.func 123) #[] #[]], .int .u64 a, .int .u64 b, .int .u64 c] w fun e w' => e = .returned (.tuple #[.int .u64 s, .int .i64 0]) ∧ Below w.heap.size w w' := by
  obtain ⟨v1, v2, e1, e2⟩ := prod_words ha hb
  rw [eh, el] at e1
  rw [eh] at v1
  rw [el] at v2
  obtain ⟨k1, k2, k3⟩ := quot_words v1.1 v2 hh
  have EQ : Hid (wv h l / c = q) := by rw [e1]; exact eq
  have ER : Hid (wv h l % c = r) := by rw [e1]; exact er
  rw [EQ.out] at k1
  rw [ER.out] at k2 k3
  have c1 := hc.2
  have hmr : Word m := ⟨by omega, by omega⟩
  have EH := Lib.hid eh
  have EL := Lib.hid el
  have ES := Lib.hid es
  have EM := Lib.hid em
  have h0 := v1.1
  clear eh el es eq er e1 e2 em k2 k3
  go_enter Tryz.func124, Tryz.ntmps124
  go_wp2_with fail
  with_reducible refine (mul_hl a b h l _ ha hb EH.out EL.out).mono ?_
  rintro e w1 ⟨rfl, hb1⟩
  have K1 : Blk w1 w.heap.size 177 #[.func (.func 123) #[] #[]] := (Blk.new_at rfl).next hb1
  have B1 : Below w.heap.size w w1 := Below.trans (by go_grown) (hb1.mono (by simp only [World.size_alloc]; omega))
  clear hb1
  go_wp2_with fail
  with_reducible refine (wdiv_qr h l c q r _ h0 v2 c1 hh EQ.out ER.out).mono ?_
  rintro e w2 ⟨rfl, hb2⟩
  have B2 := below_next B1 hb2
  have C2 : w2.cell? ⟨w.heap.size, 0, none⟩ = some (.func (.func 123) #[] #[]) := (K1.next hb2).get 0 rfl
  clear K1
  clear hb2 B1
  go_wp2_with fail
  with_reducible refine (more_up _ _).mono ?_
  rw [EM.out]
  rintro e w3 ⟨rfl, rfl⟩
  go_wp2_with fail
  with_reducible refine (plus_any q m _ k1 hmr).mono ?_
  rw [ES.out]
  rintro e w3 ⟨rfl, rfl⟩
  go_wp2_with fail
  go_ret2
  exact ⟨rfl, B2⟩

theorem stop_big {q : Int} (h : 4611686018427387904 < q) : stopN q = 4611686018427387904 := by unfold stopN; rw [if_pos h]
/-- Where the high word isn't less, the quotient is more than a word. -/
theorem quot_over {a b c : Int} (hc : 0 < c) (hh : c ≤ a * b / 18446744073709551616) : 18446744073709551616 ≤ a * b / c := by
  apply (Int.le_ediv_iff_mul_le hc).2
  have : c * 18446744073709551616 ≤ a * b / 18446744073709551616 * 18446744073709551616 := Int.mul_le_mul_of_nonneg_right hh (by omega)
  obtain ⟨p, hp⟩ : ∃ p, a * b = p := ⟨_, rfl⟩
  rw [hp] at this ⊢
  omega

theorem up_any (a b c : Int) (w : World) (ha : Word a) (hb : Word b) (hc : Word c) :
    Calls Tryz.prog 120 #[.int .u64 a, .int .u64 b, .int .u64 c] w fun e w' => e = .returned (.tuple #[.int .u64 (upN a b c), .int .i64 (errN c)]) ∧ Below w.heap.size w w' := by
  have main : ∀ w, Calls Tryz.prog 124 #[.agg #[.func (.func 123) #[] #[]], .int .u64 a, .int .u64 b, .int .u64 c] w fun e w' => e = .returned (.tuple #[.int .u64 (upN a b c), .int .i64 (errN c)]) ∧ Below w.heap.size w w' := by
    intro w
    unfold upN errN
    by_cases h0 : c = 0
    · subst h0
      rw [if_pos rfl, if_pos rfl]; exact of_zero _ a b w ha hb
    · rw [if_neg h0, if_neg h0]
      have hc0 := hc.1
      have hr := Int.emod_nonneg (a * b) h0
      rcases Int.lt_or_le (a * b / 18446744073709551616) c with hh | hh
      · refine of_up a b c _ _ _ _ _ _ w ha hb hc rfl rfl hh rfl rfl ?_ rfl
        split <;> omega
      · have := quot_over (by omega) hh
        rw [stop_big (by split <;> omega)]
        exact of_over _ a b c _ _ w ha hb rfl rfl (by omega) hh
  obtain ⟨d, hd⟩ : ∃ d, upN a b c = d := ⟨_, rfl⟩
  obtain ⟨e, he⟩ : ∃ e, errN c = e := ⟨_, rfl⟩
  rw [hd, he] at main ⊢
  clear hd he
  go_enter Tryz.func120, Tryz.ntmps120
  go_wp2_with fail
  with_reducible refine (main _).mono ?_
  rintro e w1 ⟨rfl, hb1⟩
  go_wp2_with fail
  go_ret2
  exact ⟨rfl, hb1⟩

end Go.Proofs.YtjhffbhjiflfeaaGreat
