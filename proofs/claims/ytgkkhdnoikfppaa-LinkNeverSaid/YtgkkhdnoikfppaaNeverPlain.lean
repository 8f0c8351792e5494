/-
  What is sent one behind the other never is through ahead of the grains by the rate: plain integers, no program in sight.
-/
import Derived.Test.YtgkkhdnoikfppaaLinkB
import Derived.Test.YtgkkhdnoikfppaaNeverPlainRow
namespace Go.Proofs.Ytgkkhdnoikfppaa
set_option linter.unusedVariables false
set_option linter.unusedSimpArgs false

def segN (G : Nat → Int) (i : Nat) : Nat → Int
  | 0 => 0
  | m + 1 => segN G i m + G (i + m)
theorem segN_upd {G : Nat → Int} {n i m : Nat} {x : Int} (h : i + m ≤ n) : segN (upd G n x) i m = segN G i m := by
  induction m with
  | zero => rfl
  | succ m ih => unfold segN; rw [ih (by omega), upd_other (by omega)]
theorem segN_bounds {G : Nat → Int} {i m : Nat} {M : Int} (h : ∀ j, j < i + m → 0 ≤ G j ∧ G j ≤ M) : 0 ≤ segN G i m ∧ segN G i m ≤ M * m := by
  induction m with
  | zero => unfold segN; simp
  | succ m ih =>
    have a := ih fun j hj => h j (by omega)
    have b := h (i + m) (by omega)
    unfold segN
    rw [show ((m + 1 : Nat) : Int) = (m : Int) + 1 by omega, Int.mul_add, Int.mul_one]
    omega

theorem upDiv_mul {g r : Int} (hr : 0 < r) : g ≤ r * upDiv g r ∧ r * upDiv g r ≤ g + r - 1 := by
  unfold upDiv
  have e := Int.emod_add_mul_ediv (g + r - 1) r
  have a := Int.emod_nonneg (g + r - 1) (show r ≠ 0 by omega)
  have b := Int.emod_lt_of_pos (g + r - 1) hr
  omega
theorem upDiv_mono {g g' r : Int} (hr : 0 < r) (h : g ≤ g') : upDiv g r ≤ upDiv g' r := by
  unfold upDiv
  exact Int.ediv_le_ediv hr (by omega)

structure NeverOk (r T : Int) (n : Nat) (F E G : Nat → Int) : Prop where
  now : ∀ i, i < n → F i ≤ upDiv T r ∧ (F i - 1) * r + segN G i (n - i) ≤ T
  pair : ∀ i m, i + m < n → F i ≤ E (i + m) ∧ (F i - 1) * r + segN G i (m + 1) ≤ r * E (i + m)
  next : ∀ i, i + 1 < n → E i ≤ F (i + 1)
  last : ∀ i, i + 1 = n → E i = upDiv T r
  size : ∀ i, i < n → (0 ≤ F i ∧ F i ≤ 2147483648) ∧ (0 ≤ E i ∧ E i ≤ 2147483648) ∧ 0 ≤ G i ∧ G i ≤ 384000

theorem never_none {r : Int} (F E G : Nat → Int) : NeverOk r 0 0 F E G :=
  ⟨fun i h => by omega, fun i m h => by omega, fun i h => by omega, fun i h => by omega, fun i h => by omega⟩
theorem never_next {r T : Int} {n : Nat} {F E G : Nat → Int} (h : NeverOk r T n F E G) (hr : 0 < r) {now b g T' t : Int} (hT : 0 ≤ T) (hn : upDiv T r ≤ now) (h0 : 0 ≤ now)
    (hb : b = now * r ∨ (b = T ∧ now = upDiv T r)) (hg : 0 ≤ g) (hg1 : g ≤ 384000) (hT' : T' = b + g) (ht : t = upDiv T' r) (h1 : now ≤ 2147483648) (h2 : t ≤ 2147483648) (h3 : 0 ≤ t) :
    NeverOk r T' (n + 1) (upd F n now) (upd E n t) (upd G n g) := by
  have uT := upDiv_mul (g := T) hr
  have e1 : r * upDiv T r = upDiv T r * r := Int.mul_comm _ _
  have e2 : upDiv T r * r ≤ now * r := Int.mul_le_mul_of_nonneg_right hn (by omega)
  have e3 : (now - 1) * r = now * r - r := by rw [Int.sub_mul, Int.one_mul]
  have bT : T ≤ b ∧ (now - 1) * r ≤ b := by
    rcases hb with rfl | ⟨rfl, k⟩
    · omega
    · rw [← k] at uT e1; omega
  have uT' := upDiv_mul (g := T') hr
  have tt : now ≤ t := by
    rw [ht]
    rcases Int.lt_or_le (upDiv T' r) now with k | k
    · have : r * upDiv T' r ≤ r * (now - 1) := Int.mul_le_mul_of_nonneg_left (by omega) (by omega)
      rw [Int.mul_comm r (now - 1)] at this
      have : T' = (now - 1) * r ∧ b = (now - 1) * r := by omega
      rcases hb with hb | ⟨hb, k2⟩
      · omega
      · have := upDiv_mono (g := T) (g' := T') hr (by omega)
        omega
    · exact k
  have all : ∀ i, i < n + 1 → upd F n now i ≤ now ∧ (upd F n now i - 1) * r + segN (upd G n g) i (n + 1 - i) ≤ T' := by
    intro i hi
    rcases Nat.lt_or_ge i n with k | k
    · have a := h.now i k
      rw [upd_other (by omega)]
      refine ⟨by omega, ?_⟩
      have e : n + 1 - i = (n - i) + 1 := by omega
      have e' : i + (n - i) = n := by omega
      rw [e, segN, segN_upd (by omega), e', upd_same]
      omega
    · obtain rfl : i = n := by omega
      rw [upd_same]
      have e : i + 1 - i = 0 + 1 := by omega
      refine ⟨Int.le_refl _, ?_⟩
      rw [e, segN, segN, Nat.add_zero, upd_same]
      omega
  refine ⟨fun i hi => ⟨by have := (all i hi).1; omega, (all i hi).2⟩, fun i m hm => ?_, fun i hi => ?_, fun i hi => ?_, fun i hi => ?_⟩
  · rcases Nat.lt_or_ge (i + m) n with k | k
    · rw [upd_other (by omega), upd_other (by omega), segN_upd (by omega)]
      exact h.pair i m k
    · have a := all i (by omega)
      have e : i + m = n := by omega
      have e' : n + 1 - i = m + 1 := by omega
      rw [e, upd_same]
      rw [e'] at a
      rw [ht] at tt ⊢
      omega
  · rcases Nat.lt_or_ge (i + 1) n with k | k
    · rw [upd_other (by omega), upd_other (by omega)]
      exact h.next i k
    · have e : i + 1 = n := by omega
      rw [e, upd_same, upd_other (by omega), h.last i e]
      exact hn
  · obtain rfl : i = n := by omega
    rw [upd_same]; exact ht
  · rcases Nat.lt_or_ge i n with k | k
    · rw [upd_other (by omega), upd_other (by omega), upd_other (by omega)]
      exact h.size i k
    · obtain rfl : i = n := by omega
      rw [upd_same, upd_same, upd_same]
      omega
/-- What the law asks of each pair. -/
theorem never_pair {r T : Int} {n : Nat} {F E G : Nat → Int} (h : NeverOk r T n F E G) {i m : Nat} (hm : i + m < n) : F i ≤ E (i + m) ∧ segN G i (m + 1) ≤ r * (E (i + m) - F i + 1) := by
  have a := h.pair i m hm
  refine ⟨a.1, ?_⟩
  have e1 : (F i - 1) * r = r * F i - r := by rw [Int.sub_mul, Int.one_mul, Int.mul_comm]
  have e2 : r * (E (i + m) - F i + 1) = r * E (i + m) - r * F i + r := by rw [Int.mul_add, Int.mul_sub, Int.mul_one]
  omega

end Go.Proofs.Ytgkkhdnoikfppaa
