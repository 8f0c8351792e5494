/-
  A table: whether an id is there.
-/
import Derived.Test.YtddehgcdflfonaaDoorProg
import Derived.Test.YtddehgcdflfonaaDoorTabA
namespace Go.Proofs.YtddehgcdflfonaaDoor
set_option linter.unusedVariables false
set_option linter.unusedSimpArgs false
set_option maxRecDepth 100000
open Go.RowKit

/-- What is told of asking for an id that should be there, or not. -/
def askIn (is there : Bool) : Int := if is then (if there then 0 else 80) else (if there then 81 else 0)

theorem tab_asked_nil (id : Int) (there : Bool) (w : World) : Calls Tryd.prog 26 #[.pointer none, .int .i64 id, .bool there] w fun e w' => e = .returned (.int .i64 1) ∧ w = w' := by
  go_enter Tryd.func26, Tryd.ntmps26
  go_wp2_with fail
  with_reducible refine (tab_none_nil _).mono ?_
  rintro e wx ⟨rfl, rfl⟩
  go_wp2
  go_ret
  exact ⟨by simp, rfl⟩
theorem tab_asked_unmade (T : Nat) (id : Int) (there : Bool) (w : World) (h : w.cell? ⟨T, 0, none⟩ = some (.map none)) : Calls Tryd.prog 26 #[.pointer (some ⟨T, 0, none⟩), .int .i64 id, .bool there] w fun e w' => e = .returned (.int .i64 1) ∧ w = w' := by
  have H := Lib.hid h
  clear h
  go_enter Tryd.func26, Tryd.ntmps26
  go_wp2_with fail
  with_reducible refine (tab_none_unmade T _ H.out).mono ?_
  rintro e wx ⟨rfl, rfl⟩
  go_wp2
  go_ret
  exact ⟨by simp, rfl⟩
theorem tab_asked_arg (T m : Nat) (id : Int) (there : Bool) (w : World) (h : w.cell? ⟨T, 0, none⟩ = some (.map (some m))) (hid : ¬ (1 ≤ id ∧ id ≤ 65535)) : Calls Tryd.prog 26 #[.pointer (some ⟨T, 0, none⟩), .int .i64 id, .bool there] w fun e w' => e = .returned (.int .i64 2) ∧ w = w' := by
  have H := Lib.hid h
  clear h
  by_cases h1 : id < 1
  · have h2 : decide (id < 1) = true := decide_eq_true h1
    clear hid h1
    go_enter Tryd.func26, Tryd.ntmps26
    go_wp2_with fail
    with_reducible refine (tab_none_made T m _ H.out).mono ?_
    rintro e wx ⟨rfl, rfl⟩
    go_wp2
    go_ret
    exact ⟨by simp, rfl⟩
  · have h3 : 65535 < id := by omega
    have h2 : decide (id < 1) = false := decide_eq_false h1
    have h4 : decide (65535 < id) = true := decide_eq_true h3
    clear hid h1 h3
    go_enter Tryd.func26, Tryd.ntmps26
    go_wp2_with fail
    with_reducible refine (tab_none_made T m _ H.out).mono ?_
    rintro e wx ⟨rfl, rfl⟩
    go_wp2
    go_ret
    exact ⟨by simp, rfl⟩
theorem and_bit_zero {has B : Nat} (h1 : has < 18446744073709551616) (h2 : B < 18446744073709551616) : bits .and .u64 (has : Int) (B : Int) = ((has &&& B : Nat) : Int) := bits_and_u64_nat has B h1 h2
set_option maxHeartbeats 1000000 in
theorem tab_asked_in (T m n i : Nat) (pg : Pages) (c : Nat) (there : Bool) (w : World) (h : Tab w T m n pg c) (h1 : 1 ≤ i) (h2 : i ≤ 65535) (h64 : ∀ p, pg (i / 64) = some p → p.has < 18446744073709551616) :
    Calls Tryd.prog 26 #[.pointer (some ⟨T, 0, none⟩), .int .i64 (i : Int), .bool there] w fun e w' => e = .returned (.int .i64 (askIn (bitOf (pg (i / 64)) (i % 64)).isSome there)) ∧ ∃ k, w' = w.drewN k := by
  have H := Lib.hid (h.head.get 0 rfl)
  have AT := Lib.hid (tab_at T m n i pg c w h h1 h2)
  have hr : i % 64 < 64 := Nat.mod_lt _ (by omega)
  have hB := bit_lt hr
  have d1 : decide ((i : Int) < 1) = false := decide_eq_false (by omega)
  have d2 : decide ((65535 : Int) < i) = false := decide_eq_false (by omega)
  have d3 : decide (i < 1) = false := decide_eq_false (by omega)
  have d4 : decide (65535 < i) = false := decide_eq_false (by omega)
  rcases hp : pg (i / 64) with _ | p
  · rw [hp] at AT
    simp only [Option.map_none, pgPtr] at AT
    clear h h1 h2 hB hr hp h64
    obtain ⟨B, hB⟩ : ∃ B : Nat, 2 ^ (i % 64) = B := ⟨_, rfl⟩
    rw [hB] at AT
    clear hB
    cases there
    all_goals
      go_enter Tryd.func26, Tryd.ntmps26
      go_wp2_with fail
      with_reducible refine (tab_none_made T m _ H.out).mono ?_
      rintro e wx ⟨rfl, rfl⟩
      go_wp2_with fail
      with_reducible refine AT.out.mono ?_
      rintro e w1 ⟨rfl, k, rfl⟩
      go_wp2
      go_ret
      exact ⟨rfl, _, rfl⟩
  · have b := (h.pages _ _ hp).get 0 (pageCells_has p.has p.vs)
    have hlt := h64 _ hp
    rw [hp] at AT
    simp only [Option.map_some, pgPtr] at AT
    have ha := and_bit_zero hlt hB
    have hz := @testBit_and_bit p.has (i % 64)
    obtain ⟨pb, has, vs⟩ := p
    dsimp only at b hlt ha hz AT ⊢
    simp only [bitOf]
    rcases ht : has.testBit (i % 64) with _ | _
    · have hz0 := hz.2 ht
      rw [hz0] at ha
      clear h h1 h2 hB hr hp hz ht hz0 hlt h64
      obtain ⟨B, hB⟩ : ∃ B : Nat, 2 ^ (i % 64) = B := ⟨_, rfl⟩
      rw [hB] at AT ha
      clear hB
      cases there
      all_goals
        go_enter Tryd.func26, Tryd.ntmps26
        go_wp2_with fail
        with_reducible refine (tab_none_made T m _ H.out).mono ?_
        rintro e wx ⟨rfl, rfl⟩
        go_wp2_with fail
        with_reducible refine AT.out.mono ?_
        rintro e w1 ⟨rfl, k, rfl⟩
        go_wp2
        go_ret
        exact ⟨rfl, _, rfl⟩
    · have hz0 : ¬ (has &&& 2 ^ (i % 64) = 0) := fun e => by rw [hz.1 e] at ht; cases ht
      clear h h1 h2 hB hr hp hz ht hlt h64
      obtain ⟨B, hB⟩ : ∃ B : Nat, 2 ^ (i % 64) = B := ⟨_, rfl⟩
      rw [hB] at AT ha hz0
      clear hB
      obtain ⟨x, hx⟩ : ∃ x, has &&& B = x := ⟨_, rfl⟩
      rw [hx] at ha hz0
      clear hx
      have hx0 : ((x : Int) == 0) = false := beq_eq_false_iff_ne.2 (by omega)
      have hx1 : ((x : Int) != 0) = true := by simp [bne, hx0]
      have hx2 : (x == 0) = false := beq_eq_false_iff_ne.2 hz0
      cases there
      all_goals
        go_enter Tryd.func26, Tryd.ntmps26
        go_wp2_with fail
        with_reducible refine (tab_none_made T m _ H.out).mono ?_
        rintro e wx ⟨rfl, rfl⟩
        go_wp2_with fail
        with_reducible refine AT.out.mono ?_
        rintro e w1 ⟨rfl, k, rfl⟩
        go_wp2
        go_ret
        exact ⟨rfl, _, rfl⟩

end Go.Proofs.YtddehgcdflfonaaDoor
