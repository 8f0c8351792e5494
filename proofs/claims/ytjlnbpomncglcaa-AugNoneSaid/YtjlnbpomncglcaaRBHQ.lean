/-
  Red-black trees in memory (h): a new tree; a copy.
-/
import Derived.Test.YtjlnbpomncglcaaProg
import Derived.Test.YtjlnbpomncglcaaRBHO
namespace Go.Proofs.Ytjlnbpomncglcaa
set_option linter.unusedVariables false
set_option linter.unusedSimpArgs false
set_option maxRecDepth 100000
open Go.RowKit

theorem rh_new (w : World) :
    Calls Try.prog 85 #[(.func (.func 86) #[] #[]), (.func (.func 87) #[] #[])] w fun e w' => ∃ T, e = .returned (.pointer (some ⟨T, 0, none⟩)) ∧ TrIsH w' T .nil ∧ w.heap.size ≤ T ∧ Below w.heap.size w w' := by
  have e1 := fun w => fn_neqH1 (.func 86) w
  have e2 := fun w => fn_neqH2 (.func 87) w
  go_enter Try.func85, Try.ntmps85
  go_wp2_with fail
  go_ret
  refine ⟨w.heap.size, by simp, ⟨?_, trivial, List.nodup_nil, (fun hx => by cases hx), ⟨0, rfl⟩, rfl, List.Pairwise.nil⟩, Nat.le_refl _, by go_grown⟩
  exact Blk.new w 135 _
/-- The same tree in other blocks. -/
def likeH : RB (Int × Int) → RB (Int × Int) → Prop
  | .nil, .nil => True
  | .node _ c l k v s r, .node _ c' l' k' v' s' r' => c = c' ∧ k = k' ∧ v = v' ∧ s = s' ∧ likeH l l' ∧ likeH r r'
  | _, _ => False
theorem likeH.items : ∀ {t t' : RB (Int × Int)}, likeH t t' → t'.items = t.items
  | .nil, .nil, _ => rfl
  | .node b c l k v s r, .node b' c' l' k' v' s' r', h => by
    obtain ⟨h1, h2, h3, h4, h5, h6⟩ := h
    subst h1 h2 h3 h4
    simp only [RB.items]
    rw [likeH.items h5, likeH.items h6]
  | .nil, .node .., h => h.elim
  | .node .., .nil, h => h.elim
theorem likeH.red : ∀ {t t' : RB (Int × Int)}, likeH t t' → t'.red = t.red
  | .nil, .nil, _ => rfl
  | .node .., .node .., h => h.1.symm
  | .nil, .node .., h => h.elim
  | .node .., .nil, h => h.elim
theorem likeH.tot {l l' r r' : RB (Int × Int)} (h1 : likeH l l') (h2 : likeH r r') (k : RK) (v : Int) : RB.tot ofH minH l' k v r' = RB.tot ofH minH l k v r := by
  cases l with
  | nil =>
    cases l' with
    | nil =>
      cases r with
      | nil => cases r' with
        | nil => rfl
        | node => exact h2.elim
      | node => cases r' with
        | nil => exact h2.elim
        | node => obtain ⟨_, _, _, e, _⟩ := h2; subst e; rfl
    | node => exact h1.elim
  | node =>
    cases l' with
    | nil => exact h1.elim
    | node =>
      obtain ⟨_, _, _, e, _⟩ := h1
      subst e
      cases r with
      | nil => cases r' with
        | nil => rfl
        | node => exact h2.elim
      | node => cases r' with
        | nil => exact h2.elim
        | node => obtain ⟨_, _, _, e, _⟩ := h2; subst e; rfl
theorem likeH.W : ∀ {t t' : RB (Int × Int)} {n : Nat}, likeH t t' → RB.W ofH minH t n → RB.W ofH minH t' n
  | .nil, .nil, n, _, h => h
  | .node b c l k v s r, .node b' c' l' k' v' s' r', n, h, hw => by
    obtain ⟨h1, h2, h3, h4, h5, h6⟩ := h
    subst h1 h2 h3 h4
    obtain ⟨q1, q2, q3, m, q4, q5, q6⟩ := hw
    exact ⟨by rw [likeH.red h6]; exact q1, fun e => by rw [likeH.red h5]; exact q2 e, by rw [q3, likeH.tot h5 h6], m, likeH.W h5 q4, likeH.W h6 q5, q6⟩
  | .nil, .node .., _, h, _ => h.elim
  | .node .., .nil, _, h, _ => h.elim

end Go.Proofs.Ytjlnbpomncglcaa
