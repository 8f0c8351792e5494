/-
  Sums of products of rows: turned round, part by part, the other way; and two rows that grow.
-/
import Derived.Test.YtifndlkhhhedlaaDotPlain
import Derived.Test.YtifndlkhhhedlaaRegionZ
import Derived.Test.YtifndlkhhhedlaaNeverPlainRow
namespace Go.Proofs.Ytifndlkhhhedlaa
set_option linter.unusedVariables false
set_option linter.unusedSimpArgs false
open Go.RowKit

theorem dsum_comm (A B : Nat → Int) (n : Nat) : dsum A B n = dsum B A n := by
  induction n with
  | zero => rfl
  | succ n ih => show dsum A B n + A n * B n = dsum B A n + B n * A n; rw [ih, Int.mul_comm]
theorem dsum_split (A B : Nat → Int) (k d : Nat) : dsum A B (k + d) = dsum A B k + dsum (fun i => A (k + i)) (fun i => B (k + i)) d := by
  induction d with
  | zero => show dsum A B k = dsum A B k + 0; omega
  | succ d ih =>
    show dsum A B (k + d) + A (k + d) * B (k + d) = dsum A B k + (dsum (fun i => A (k + i)) (fun i => B (k + i)) d + A (k + d) * B (k + d))
    rw [ih]; omega
theorem dsum_rev (A B : Nat → Int) (n k : Nat) (hk : k ≤ n) : dsum (fun i => A (n - 1 - i)) (fun i => B (n - 1 - i)) k + dsum A B (n - k) = dsum A B n := by
  induction k with
  | zero => show 0 + dsum A B n = dsum A B n; omega
  | succ k ih =>
    have i := ih (by omega)
    have e : n - k = (n - (k + 1)) + 1 := by omega
    have e2 : n - 1 - k = n - (k + 1) := by omega
    rw [e] at i
    show dsum (fun i => A (n - 1 - i)) (fun i => B (n - 1 - i)) k + A (n - 1 - k) * B (n - 1 - k) + dsum A B (n - (k + 1)) = dsum A B n
    rw [e2]
    have : dsum A B (n - (k + 1) + 1) = dsum A B (n - (k + 1)) + A (n - (k + 1)) * B (n - (k + 1)) := rfl
    omega
theorem dsum_back (A B : Nat → Int) (n : Nat) : dsum (fun i => A (n - 1 - i)) (fun i => B (n - 1 - i)) n = dsum A B n := by
  have := dsum_rev A B n n (Nat.le_refl _)
  rw [Nat.sub_self] at this
  have : dsum A B 0 = 0 := rfl
  omega
/-- What the law asks of all, and of both parts. -/
theorem rows_parts {S X Y : Int} (hX : 0 ≤ X) (hY : 0 ≤ Y) (h : S = X + Y) :
    (dotE S = 0 ∧ dotE X = 0 ∧ dotE Y = 0 ∧ plusE (dotH X) (dotL X) (dotH Y) (dotL Y) = 0 ∧ plusH (dotH X) (dotL X) (dotH Y) (dotL Y) = dotH S ∧ plusL (dotH X) (dotL X) (dotH Y) (dotL Y) = dotL S) ∨
    (dotE S = 10 ∧ dotH S = 0 ∧ dotL S = 0 ∧ (dotE X = 10 ∨ (dotE X = 0 ∧ dotE Y = 10) ∨ (dotE X = 0 ∧ dotE Y = 0 ∧ plusE (dotH X) (dotL X) (dotH Y) (dotL Y) = 10))) := by
  unfold dotE dotH dotL plusE plusH plusL
  by_cases hs : 340282366920938463463374607431768211456 ≤ S
  · right
    rw [if_pos hs, if_pos hs, if_pos hs]
    refine ⟨rfl, rfl, rfl, ?_⟩
    by_cases hx : 340282366920938463463374607431768211456 ≤ X
    · left; rw [if_pos hx]
    · right
      rw [if_neg hx, if_neg hx, if_neg hx]
      by_cases hy : 340282366920938463463374607431768211456 ≤ Y
      · left; rw [if_pos hy]; exact ⟨rfl, rfl⟩
      · right
        rw [if_neg hy, if_neg hy, if_neg hy]
        refine ⟨rfl, rfl, ?_⟩
        rw [if_pos (by omega)]
  · left
    rw [if_neg hs, if_neg hs, if_neg hs, if_neg (show ¬ 340282366920938463463374607431768211456 ≤ X by omega), if_neg (show ¬ 340282366920938463463374607431768211456 ≤ X by omega), if_neg (show ¬ 340282366920938463463374607431768211456 ≤ X by omega),
      if_neg (show ¬ 340282366920938463463374607431768211456 ≤ Y by omega), if_neg (show ¬ 340282366920938463463374607431768211456 ≤ Y by omega), if_neg (show ¬ 340282366920938463463374607431768211456 ≤ Y by omega)]
    rw [if_neg (by omega), if_neg (by omega), if_neg (by omega)]
    refine ⟨rfl, rfl, rfl, rfl, by omega, by omega⟩
theorem dot_words {S : Int} (h : 0 ≤ S) : Word (dotH S) ∧ Word (dotL S) := by
  unfold dotH dotL Word
  split
  · exact ⟨⟨by decide, by decide⟩, by decide, by decide⟩
  · omega

/-- Two rows that lie apart, made behind w0. -/
def TwoAt (w0 w : World) (ka kb : Nat) (va vb : Value) (A B : Nat → Int) : Prop :=
  w.ownsRow w0.heap.size 22 1 va ka (rowOf A ka) ∧ w.ownsRow w0.heap.size 22 1 vb kb (rowOf B kb) ∧ Apart va vb ∧ Below w0.heap.size w0 w
section
variable {w0 w w' : World} {ka kb : Nat} {va vb v : Value} {A B : Nat → Int}
theorem TwoAt.next (h : TwoAt w0 w ka kb va vb A B) (hb : Below w.heap.size w w') : TwoAt w0 w' ka kb va vb A B := ⟨own_next h.1 hb, own_next h.2.1 hb, h.2.2.1, below_next h.2.2.2 hb⟩
theorem TwoAt.growA (h : TwoAt w0 w ka kb va vb A B) (hg : w.grownBy w' va.ownBlock) (ho : w'.ownsRow w0.heap.size 22 1 v (ka + 1) (rowOf A ka ++ [.int .u64 (A ka)])) (hat : v.ownBlock = va.ownBlock ∨ v.ownBlock = some w.heap.size) : TwoAt w0 w' (ka + 1) kb v vb A B :=
  ⟨by rw [rowOf_succ]; exact ho, h.2.2.1.kept h.2.1 hg, h.2.2.1.new h.2.1 hat, below_grown h.2.2.2 hg h.2.2.2.size fun j hj => (h.1.lt j hj).1⟩
theorem TwoAt.growB (h : TwoAt w0 w ka kb va vb A B) (hg : w.grownBy w' vb.ownBlock) (ho : w'.ownsRow w0.heap.size 22 1 v (kb + 1) (rowOf B kb ++ [.int .u64 (B kb)])) (hat : v.ownBlock = vb.ownBlock ∨ v.ownBlock = some w.heap.size) : TwoAt w0 w' ka (kb + 1) va v A B :=
  ⟨h.2.2.1.symm.kept h.1 hg, by rw [rowOf_succ]; exact ho, (h.2.2.1.symm.new h.1 hat).symm, below_grown h.2.2.2 hg h.2.2.2.size fun j hj => (h.2.1.lt j hj).1⟩
end
theorem row_reads {w : World} {base n : Nat} {v : Value} {X : Nat → Int} (h : w.ownsRow base 22 1 v n (rowOf X n)) :
    ∃ A c, v = .slice A n c ∧ n ≤ c ∧ c ≤ maxLen ∧ (0 < n → ∃ g, A = some ⟨g, 0, none⟩ ∧ g < w.heap.size ∧ ∀ j, j < n → w.cell? ⟨g, j, none⟩ = some (.int .u64 (X j))) := by
  rcases h.2 with ⟨rfl, rfl⟩ | ⟨g, cap, cur, rfl, hb, hg, h1, h2, h3, h4⟩
  · exact ⟨none, 0, rfl, Nat.le_refl _, Nat.zero_le _, fun h => by omega⟩
  · refine ⟨_, cap, rfl, h1, h2, fun _ => ⟨g, rfl, lt_of_block hg, fun j hj => ?_⟩⟩
    have := h.cells (g := g) rfl j _ (rowOf_get hj)
    rw [Addr.add_lit, Nat.zero_add] at this
    exact this

end Go.Proofs.Ytifndlkhhhedlaa
