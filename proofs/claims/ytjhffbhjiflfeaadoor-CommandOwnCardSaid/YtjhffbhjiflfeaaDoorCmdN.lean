/-
  Names of kinds: the program's and the document's.
-/
import Derived.Test.YtjhffbhjiflfeaaDoorProg
import Derived.Test.YtjhffbhjiflfeaaDoorCmdT
import Derived.Test.YtjhffbhjiflfeaaDoorOctS
import Derived.Lib.LaidTab
namespace Go.Proofs.YtjhffbhjiflfeaaDoor
set_option linter.unusedVariables false
set_option linter.unusedSimpArgs false
set_option maxRecDepth 100000
open Go.RowKit

def nameL : Nat → List Nat
  | 1 => [99, 111, 110, 102, 105, 103]
  | 2 => [97, 100, 100]
  | 3 => [99, 104, 97, 110, 103, 101]
  | 4 => [100, 101, 108, 101, 116, 101]
  | 5 => [97, 114, 114, 105, 118, 101]
  | 6 => [97, 100, 118, 97, 110, 99, 101]
  | 7 => [97, 115, 107]
  | _ => []
/-- The table of names is laid. -/
def NamesAt (w : World) : Prop := (∀ j, j < 8 → w.cell? ⟨0, j, none⟩ = some (.string (bs (nameL j)))) ∧ 0 < w.heap.size
theorem NamesAt.next {w w' : World} (h : NamesAt w) (hb : Below w.heap.size w w') : NamesAt w' := ⟨fun j hj => (hb.cell (p := ⟨0, j, none⟩) h.2).trans (h.1 j hj), Nat.lt_of_lt_of_le h.2 hb.size⟩
/-- Whether a name is that of a kind. -/
def eqN (S : ByteArray) (k : Nat) : Bool := S.toList == (bs (nameL k)).toList
def KindIs (S : ByteArray) (K : Nat) : Prop := (1 ≤ K ∧ K ≤ 7 ∧ eqN S K = true ∧ ∀ j, 1 ≤ j → j < K → eqN S j = false) ∨ (K = 0 ∧ ∀ j, 1 ≤ j → j ≤ 7 → eqN S j = false)
theorem kind_is (S : ByteArray) : ∃ K, KindIs S K := by
  by_cases h : ∃ j, 1 ≤ j ∧ j ≤ 7 ∧ eqN S j = true
  · have : ∀ n, (∃ j, 1 ≤ j ∧ j ≤ 7 ∧ j ≤ n ∧ eqN S j = true) → ∃ K, KindIs S K := by
      intro n
      induction n with
      | zero => rintro ⟨j, h1, h2, h3, h4⟩; omega
      | succ n ih =>
        rintro ⟨j, h1, h2, h3, h4⟩
        by_cases hs : ∃ j, 1 ≤ j ∧ j ≤ 7 ∧ j ≤ n ∧ eqN S j = true
        · exact ih hs
        · obtain rfl : j = n + 1 := Classical.byContradiction fun hn => hs ⟨j, h1, h2, by omega, h4⟩
          exact ⟨n + 1, .inl ⟨h1, h2, h4, fun i i1 i2 => Bool.eq_false_iff.2 fun e => hs ⟨i, i1, by omega, by omega, e⟩⟩⟩
    obtain ⟨j, h1, h2, h3⟩ := h
    exact this 7 ⟨j, h1, h2, h2, h3⟩
  · exact ⟨0, .inr ⟨rfl, fun j h1 h2 => Bool.eq_false_iff.2 fun e => h ⟨j, h1, h2, e⟩⟩⟩

theorem names_index (S : ByteArray) (K : Nat) (w : World) (hN : NamesAt w) (hK : KindIs S K) :
    Calls Tryd.prog 16 #[.slice (some ⟨0, 1, none⟩) 7 7, .string S] w fun e w' => e = .returned (.int .i64 ((K : Int) - 1)) ∧ w = w' := by
  have HN := Lib.hid hN
  have HK := Lib.hid hK
  have hk0 : K = 0 ∨ 0 < K := by omega
  clear hN hK
  go_enter Tryd.func16, Tryd.ntmps16
  go_wp2_with fail
  go_loopg [8] 7 (fun gk ix wr => ∃ i : Nat, i + gk = 7 ∧ ix = .int .i64 i ∧ w = wr ∧ (K = 0 ∨ i < K))
  case atStart => exact ⟨0, by omega, rfl, rfl, hk0⟩
  case round =>
    obtain ⟨i, hi, rfl, rfl, hk⟩ := hrel
    by_cases hlt : i < 7
    · obtain ⟨gm, rfl⟩ : ∃ gm, gk = gm + 1 := ⟨gk - 1, by omega⟩
      have hlt' : (i : Int) < 7 := by omega
      have c : w.cell? ⟨0, 1 + i, none⟩ = some (.string (bs (nameL (1 + i)))) := HN.out.1 _ (by omega)
      by_cases hKi : K = 1 + i
      · have e : (S.toList == (bs (nameL (1 + i))).toList) = true := by
          rcases HK.out with ⟨h1, h2, h3, h4⟩ | ⟨h1, h2⟩
          · rw [← hKi]; exact h3
          · omega
        subst hKi
        clear hk hk0
        go_wp2_with fail
        go_ret
        exact ⟨by go_num, rfl⟩
      · have e : (S.toList == (bs (nameL (1 + i))).toList) = false := by
          rcases HK.out with ⟨h1, h2, h3, h4⟩ | ⟨h1, h2⟩
          · exact h4 (1 + i) (by omega) (by omega)
          · exact h2 (1 + i) (by omega) (by omega)
        have hk2 : K = 0 ∨ i + 1 < K := by omega
        clear hk hk0 hKi
        go_wp2_with fail
        go_roundg gm
        case rel => exact ⟨i + 1, by omega, by go_num, rfl, hk2⟩
        case measure => omega
    · obtain rfl : gk = 0 := by omega
      obtain rfl : i = 7 := by omega
      obtain rfl : K = 0 := by rcases HK.out with ⟨h1, h2, h3, h4⟩ | ⟨h1, h2⟩ <;> omega
      clear hk hk0
      go_wp2_with fail
      go_ret
      exact ⟨by go_num, rfl⟩

theorem cmd_kind (S : ByteArray) (K : Nat) (w : World) (hN : NamesAt w) (hK : KindIs S K) :
    Calls Tryd.prog 8 #[.string S] w fun e w' => e = .returned (.tuple #[.int .u8 (K : Int), .bool (decide (1 ≤ K))]) ∧ w = w' := by
  have H := Lib.hid (names_index S K w hN hK)
  have hb : K ≤ 7 := by rcases hK with ⟨h1, h2, _⟩ | ⟨h1, _⟩ <;> omega
  have e1 : wrap64 (K : Int) = K := by unfold wrap64; omega
  have e2 : (K : Int) % 256 = K := by omega
  clear hN hK
  go_enter Tryd.func8, Tryd.ntmps8
  go_wp2_with fail
  with_reducible refine (H.out).mono ?_
  rintro e wx ⟨rfl, rfl⟩
  by_cases h1 : 1 ≤ K
  · have d1 : decide ((1 : Int) ≤ (K : Int)) = true := decide_eq_true (by omega)
    have d2 : decide (1 ≤ K) = true := decide_eq_true h1
    have D := Lib.hid d2
    clear h1 hb d2
    go_wp2_with fail
    go_ret2
    exact ⟨by rw [D.out]; rfl, rfl⟩
  · have d1 : decide ((1 : Int) ≤ (K : Int)) = false := decide_eq_false (by omega)
    have d2 : decide (1 ≤ K) = false := decide_eq_false h1
    have D := Lib.hid d2
    clear h1 hb d2
    go_wp2_with fail
    go_ret2
    exact ⟨by rw [D.out]; rfl, rfl⟩

set_option maxHeartbeats 4000000 in
theorem cmd_name (k : Nat) (w : World) (hN : NamesAt w) :
    Calls Tryd.prog 7 #[.int .u8 (k : Int)] w fun e w' => e = .returned (.tuple #[.string (bs (nameL k)), .bool (decide (1 ≤ k ∧ k ≤ 7))]) ∧ w = w' := by
  have H := Lib.hid (fun b hb => cmd_known (k : Int) b hb w)
  by_cases h : 1 ≤ k ∧ k ≤ 7
  · have c : w.cell? ⟨0, k, none⟩ = some (.string (bs (nameL k))) := hN.1 k (by omega)
    have d : decide (1 ≤ k ∧ k ≤ 7) = true := decide_eq_true h
    have H1 := Lib.hid (H.out true (by rw [decide_eq_true]; omega))
    have k8 : (k : Int) < 8 := by omega
    rw [d]
    clear H h hN
    go_enter Tryd.func7, Tryd.ntmps7
    go_wp2_with fail
    with_reducible refine (H1.out).mono ?_
    rintro e wx ⟨rfl, rfl⟩
    go_wp2_with fail
    go_ret2
    exact ⟨rfl, rfl⟩
  · have d : decide (1 ≤ k ∧ k ≤ 7) = false := decide_eq_false h
    have H1 := Lib.hid (H.out false (by rw [decide_eq_false]; omega))
    have e : nameL k = [] := by
      match k, h with
      | 0, _ => rfl
      | k + 8, _ => rfl
      | 1, h => exact absurd (by decide) h
      | 2, h => exact absurd (by decide) h
      | 3, h => exact absurd (by decide) h
      | 4, h => exact absurd (by decide) h
      | 5, h => exact absurd (by decide) h
      | 6, h => exact absurd (by decide) h
      | 7, h => exact absurd (by decide) h
    rw [d, e]
    clear H h hN
    go_enter Tryd.func7, Tryd.ntmps7
    go_wp2_with fail
    with_reducible refine (H1.out).mono ?_
    rintro e wx ⟨rfl, rfl⟩
    go_wp2_with fail
    go_ret2
    exact ⟨rfl, rfl⟩
end Go.Proofs.YtjhffbhjiflfeaaDoor
