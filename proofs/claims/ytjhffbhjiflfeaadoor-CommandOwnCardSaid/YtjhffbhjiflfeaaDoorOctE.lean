/-
  What an eye does: signed numbers; a nil eye.
-/
import Derived.Test.YtjhffbhjiflfeaaDoorProg
import Derived.Test.YtjhffbhjiflfeaaDoorOctD
import Derived.Laws.BitsAllLaws
namespace Go.Proofs.YtjhffbhjiflfeaaDoor
set_option linter.unusedVariables false
set_option linter.unusedSimpArgs false
set_option maxRecDepth 100000
open Go.RowKit

/-- The signed number of a number. -/
def unz (n : Nat) : Int := if n % 2 = 0 then (n / 2 : Nat) else -((n / 2 : Nat) : Int) - 1
theorem numR_word (l : List Nat) (h : Bytes l) : numR l < 18446744073709551616 := by
  unfold numR
  cases hd : decB 0 l with
  | none => decide
  | some p => obtain ⟨n, t⟩ := p; exact (decB_only h hd).2
theorem and_one (n : Nat) (h : n < 18446744073709551616) : bits .and .u64 (n : Int) 1 = ((n % 2 : Nat) : Int) := by
  rw [u64_and _ _ (by omega) (by omega) (by decide) (by decide), Int.toNat_natCast]
  have : n &&& (1 : Int).toNat = n % 2 := Nat.and_one_is_mod n
  rw [this]
theorem xor_i64_zero {x : Int} (h0 : 0 ≤ x) (h1 : x ≤ 9223372036854775807) : bits .xor .i64 x 0 = x := by
  show IntKind.i64.wrap ((BitVec.ofInt 64 x ^^^ BitVec.ofInt 64 0).toNat : Int) = x
  have e : BitVec.ofInt 64 0 = 0#64 := rfl
  rw [e, BitVec.xor_zero, BitVec.toNat_ofInt, IntKind.wrap_i64]
  omega
theorem xor_i64_ones {x : Int} (h0 : 0 ≤ x) (h1 : x ≤ 9223372036854775807) : bits .xor .i64 x (-1) = -x - 1 := by
  show IntKind.i64.wrap ((BitVec.ofInt 64 x ^^^ BitVec.ofInt 64 (-1)).toNat : Int) = _
  have e : BitVec.ofInt 64 (-1) = BitVec.allOnes 64 := by decide
  rw [e, BitVec.xor_allOnes, BitVec.toNat_not, BitVec.toNat_ofInt, IntKind.wrap_i64]
  omega
theorem eyeInt (g : Nat) (l : List Nat) (f : Bool) (w : World) (h : EyeAt w g l f) :
    Calls Tryd.prog 31 #[.pointer (some ⟨g, 0, none⟩)] w fun e w' => e = .returned (.int .i64 (unz (numR l))) ∧ EyeTo g (numL l) (numF l) w w' := by
  have NU := Lib.hid (fun w h => eyeNum g l f w h)
  have H := Lib.hid h
  have hn := numR_word l h.2.1
  clear h
  obtain ⟨n, en⟩ : ∃ n, numR l = n := ⟨_, rfl⟩
  rw [en] at hn NU ⊢
  clear en
  rcases (show n % 2 = 0 ∨ n % 2 = 1 by omega) with h0 | h0
  · have X := xor_i64_zero (x := (n : Int) / 2) (by omega) (by omega)
    have A := and_one n hn
    rw [h0] at A
    go_enter Tryd.func31, Tryd.ntmps31
    go_wp2_with fail
    with_reducible refine (NU.out _ H.out).mono ?_
    rintro e w1 ⟨rfl, hp⟩
    have HP := Lib.hid hp
    clear hp
    go_wp2_with fail
    go_ret
    exact ⟨retInt (by unfold unz; rw [if_pos h0]; first | (rw [X]; rfl) | rfl), HP.out⟩
  · have X := xor_i64_ones (x := (n : Int) / 2) (by omega) (by omega)
    have A := and_one n hn
    rw [h0] at A
    go_enter Tryd.func31, Tryd.ntmps31
    go_wp2_with fail
    with_reducible refine (NU.out _ H.out).mono ?_
    rintro e w1 ⟨rfl, hp⟩
    have HP := Lib.hid hp
    clear hp
    go_wp2_with fail
    go_ret
    exact ⟨retInt (by unfold unz; rw [if_neg (by omega)]; first | (rw [X]; rfl) | rfl), HP.out⟩
theorem eyeNumNil (w : World) : Calls Tryd.prog 30 #[.pointer none] w fun e w' => e = .returned (.int .u64 0) ∧ Below w.heap.size w w' := by
  have M := Lib.hid (fun w => mul_any 0 1 w (by constructor <;> decide) (by constructor <;> decide))
  have e1 : (0 : Int) * 1 / 18446744073709551616 = 0 := by decide
  have e2 : (0 : Int) * 1 % 18446744073709551616 = 0 := by decide
  rw [e1, e2] at M
  clear e1 e2
  go_enter Tryd.func30, Tryd.ntmps30
  go_wp2_with fail
  refine wp_loop_rounds 1 ?_
  rw [rounds_succ]
  go_wp2_with fail
  with_reducible refine (eyeByteNil _).mono ?_
  rintro e w1 ⟨rfl, rfl⟩
  go_wp2_with fail
  with_reducible refine (M.out _).mono ?_
  rintro e w2 ⟨rfl, hb⟩
  go_wp2_with fail
  with_reducible refine (eyeFailedNil _).mono ?_
  rintro e w3 ⟨rfl, rfl⟩
  go_wp2_with fail
  go_ret
  exact ⟨rfl, below_next hb ((Below.refl _ _).alloc (Nat.le_refl _) _)⟩

end Go.Proofs.YtjhffbhjiflfeaaDoor
