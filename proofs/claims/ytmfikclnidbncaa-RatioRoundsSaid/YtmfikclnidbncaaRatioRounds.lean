/-
  The walk of the law RatioRounds: both rounded quotients are the document's.
-/
import Derived.Test.YtmfikclnidbncaaProg
import Derived.Test.YtmfikclnidbncaaRatioD
namespace Go.Proofs.Ytmfikclnidbncaa
set_option linter.unusedVariables false
set_option linter.unusedSimpArgs false
open Go.RowKit Go.Shelf

theorem ratioRounds_walk (w : World) (a : Int) (ha : (Lit.int .u64 a).wf = true) (b : Int) (hb : (Lit.int .u64 b).wf = true) (c : Int) (hc : (Lit.int .u64 c).wf = true) :
    Calls Try.prog 8 #[.int .u64 a, .int .u64 b, .int .u64 c] w fun e w' => e = .returned (.bool true) ∧ Below w.heap.size w w' := by
  have wa := word_of_wf ha
  have wb := word_of_wf hb
  have wc := word_of_wf hc
  have Dn := fun w => down_any a b c w wa wb wc
  have Rd := fun w => refdown_any a b c w wa wb wc
  have Up := fun w => up_any a b c w wa wb wc
  have Ru := fun w => refup_any a b c w wa wb wc
  obtain ⟨d, hd⟩ : ∃ d, downN a b c = d := ⟨_, rfl⟩
  obtain ⟨u, hu⟩ : ∃ d, upN a b c = d := ⟨_, rfl⟩
  obtain ⟨x, hx⟩ : ∃ d, errN c = d := ⟨_, rfl⟩
  have hx0 : x = 0 ∨ x = 2 := by rw [← hx]; unfold errN; split <;> simp
  have x0 : 0 ≤ x := by omega
  have x2 : x ≤ 2 := by omega
  rw [hd, hx] at Dn Rd
  rw [hu, hx] at Up Ru
  have Dn := Lib.hid Dn
  have Rd := Lib.hid Rd
  have Up := Lib.hid Up
  have Ru := Lib.hid Ru
  clear hd hu hx hx0
  go_enter Try.func8, Try.ntmps8
  go_wp2_with fail
  with_reducible refine (Dn.out _).mono ?_
  rintro e w1 ⟨rfl, B1⟩
  go_wp2_with fail
  with_reducible refine (Rd.out _).mono ?_
  rintro e w2 ⟨rfl, hb2⟩
  have B2 := below_next B1 hb2
  clear hb2 B1
  go_wp2_with fail
  with_reducible refine (Up.out _).mono ?_
  rintro e w3 ⟨rfl, hb3⟩
  have B3 := below_next B2 hb3
  clear hb3 B2
  go_wp2_with fail
  with_reducible refine (Ru.out _).mono ?_
  rintro e w4 ⟨rfl, hb4⟩
  have B4 := below_next B3 hb4
  clear hb4 B3
  go_wp2_with fail
  go_ret
  exact ⟨by simp, B4⟩

end Go.Proofs.Ytmfikclnidbncaa
