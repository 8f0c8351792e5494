/-
  Chapter 9's laws: the least, the first of at most a value, plainly.
-/
import Derived.Test.YtjlnbpomncglcaaProg
import Derived.Test.YtjlnbpomncglcaaAugG
namespace Go.Proofs.Ytjlnbpomncglcaa
set_option linter.unusedVariables false
set_option linter.unusedSimpArgs false
set_option maxRecDepth 100000
open Go.RowKit Go.Shelf

theorem actsA_all {n : Nat} {I K V : Nat → Int} {D : Nat → Bool} (Pr : RK × Int → Prop) (h : ∀ i, i < n → Pr ((K i, I i), V i)) : ∀ i, i ≤ n → ∀ p ∈ actsA I K V D i, Pr p := by
  intro i
  induction i with
  | zero => intro _ p hp; cases hp
  | succ i ih =>
    intro hi p hp
    simp only [actsA, actA] at hp
    split at hp
    · exact ih (by omega) p (mem_dropId.1 hp).1
    · rcases mem_aput.1 hp with rfl | hp
      · exact h i (by omega)
      · exact ih (by omega) p hp.1
theorem sumH_some : ∀ (L : Row) (a : Int × Int), ∃ s, sumFrom ofH minH (some a) L = some s ∧ (s = a ∨ ∃ p ∈ L, ofH p.1 p.2 = s) ∧ ltH a s = false ∧ ∀ q ∈ L, ltH (ofH q.1 q.2) s = false
  | [], a => ⟨a, rfl, Or.inl rfl, by rw [Bool.eq_false_iff]; intro h; have := ltH_iff.1 h; omega, fun q hq => by cases hq⟩
  | p :: L, a => by
    obtain ⟨s, h1, h2, h3, h4⟩ := sumH_some L (minH a (ofH p.1 p.2))
    have hm : (minH a (ofH p.1 p.2) = a ∨ minH a (ofH p.1 p.2) = ofH p.1 p.2) ∧ ltH a (minH a (ofH p.1 p.2)) = false ∧ ltH (ofH p.1 p.2) (minH a (ofH p.1 p.2)) = false := by
      have irr : ∀ x : Int × Int, ltH x x = false := fun x => by rw [Bool.eq_false_iff]; intro h; have := ltH_iff.1 h; omega
      unfold minH
      by_cases h : ltH (ofH p.1 p.2) a = true
      · rw [if_pos h]
        refine ⟨Or.inr rfl, ?_, irr _⟩
        rw [Bool.eq_false_iff]
        intro h5
        have := ltH_iff.1 h; have := ltH_iff.1 h5
        omega
      · rw [if_neg h]
        exact ⟨Or.inl rfl, irr _, by rw [Bool.eq_false_iff]; exact h⟩
    have tr : ∀ {x y z : Int × Int}, ltH x y = false → ltH y z = false → ltH x z = false := by
      intro x y z h5 h6
      rw [Bool.eq_false_iff] at h5 h6 ⊢
      intro h7
      rw [Ne, ltH_iff] at h5 h6
      have := ltH_iff.1 h7
      omega
    refine ⟨s, h1, ?_, tr hm.2.1 h3, fun q hq => ?_⟩
    · rcases h2 with h2 | ⟨q, hq, h2⟩
      · rcases hm.1 with e | e
        · exact Or.inl (h2.trans e)
        · exact Or.inr ⟨p, List.mem_cons_self .., (h2.trans e).symm⟩
      · exact Or.inr ⟨q, List.mem_cons_of_mem _ hq, h2⟩
    · rcases List.mem_cons.1 hq with rfl | hq
      · exact tr hm.2.2 h3
      · exact h4 q hq
theorem sumH_none {L : Row} (h : sumFrom ofH minH none L = none) : L = [] := by
  cases L with
  | nil => rfl
  | cons p L =>
    obtain ⟨s, h1, -⟩ := sumH_some L (ofH p.1 p.2)
    have h2 : sumFrom ofH minH (some (ofH p.1 p.2)) L = none := h
    rw [h1] at h2
    cases h2
theorem sumH_is {L : Row} {s : Int × Int} (h : sumFrom ofH minH none L = some s) : (∃ p ∈ L, ofH p.1 p.2 = s) ∧ ∀ q ∈ L, ltH (ofH q.1 q.2) s = false := by
  cases L with
  | nil => cases h
  | cons p L =>
    obtain ⟨s', h1, h2, h3, h4⟩ := sumH_some L (ofH p.1 p.2)
    have h5 : sumFrom ofH minH (some (ofH p.1 p.2)) L = some s := h
    rw [h1] at h5
    cases h5
    refine ⟨?_, fun q hq => ?_⟩
    · rcases h2 with h2 | ⟨q, hq, h2⟩
      · exact ⟨p, List.mem_cons_self .., h2.symm⟩
      · exact ⟨q, List.mem_cons_of_mem _ hq, h2⟩
    · rcases List.mem_cons.1 hq with rfl | hq
      · exact h3
      · exact h4 q hq
/-- The first of at most v. -/
theorem findTo_no {v : Int} {L : Row} (h : findTo v L = none) : ∀ p ∈ L, v < p.2 := by
  intro p hp
  have h2 : L.find? (fun p => decide (p.2 ≤ v)) = none := Option.map_eq_none_iff.1 h
  have := List.find?_eq_none.1 h2 p hp
  have h3 : ¬ p.2 ≤ v := fun e => this (decide_eq_true e)
  omega
theorem findTo_is : ∀ {L : Row} {v : Int} {k : RK}, findTo v L = some k → ∃ (f : Nat) (x : Int), L[f]? = some (k, x) ∧ x ≤ v ∧ ∀ (j : Nat) (q : RK × Int), j < f → L[j]? = some q → v < q.2
  | [], v, k, h => by cases h
  | p :: L, v, k, h => by
    by_cases hp : p.2 ≤ v
    · rw [findTo_here hp] at h
      cases h
      exact ⟨0, p.2, rfl, hp, fun j q hj => absurd hj (by omega)⟩
    · rw [findTo_not hp] at h
      obtain ⟨f, x, h1, h2, h3⟩ := findTo_is h
      refine ⟨f + 1, x, h1, h2, fun j q hj hq => ?_⟩
      cases j with
      | zero => cases hq; omega
      | succ j => exact h3 j q (by omega) hq
theorem uptoH_most {L : Row} {m : Int} (h : ∀ p ∈ L, p.1.1 ≤ m) : uptoH m L = sumFrom ofH minH none L := by
  unfold uptoH
  rw [upTo_all h]
theorem mem_upTo {m : Int} {L : Row} {p : RK × Int} : p ∈ upTo m L ↔ p ∈ L ∧ p.1.1 ≤ m := by simp [upTo]
/-- What Least tells. -/
theorem least_no {k : Int} {L : Row} (h : uptoH k L = none) : ∀ p ∈ L, k < p.1.1 := by
  intro p hp
  have h2 := sumH_none h
  by_cases h3 : p.1.1 ≤ k
  · have := mem_upTo.2 ⟨hp, h3⟩
    rw [h2] at this
    cases this
  · omega
theorem least_is {k : Int} {L : Row} {s : Int × Int} (h : uptoH k L = some s) : (∃ a, ((a, s.2), s.1) ∈ L ∧ a ≤ k) ∧ ∀ q ∈ L, q.1.1 ≤ k → s.1 < q.2 ∨ (q.2 = s.1 ∧ s.2 ≤ q.1.2) := by
  obtain ⟨⟨p, hp, e⟩, h2⟩ := sumH_is h
  have hm := mem_upTo.1 hp
  have e1 : p.2 = s.1 := by rw [← e]; rfl
  have e2 : p.1.2 = s.2 := by rw [← e]; rfl
  refine ⟨⟨p.1.1, by rw [← e1, ← e2]; exact hm.1, hm.2⟩, fun q hq hk => ?_⟩
  have := h2 q (mem_upTo.2 ⟨hq, hk⟩)
  rw [Bool.eq_false_iff, Ne, ltH_iff] at this
  have e3 : (ofH q.1 q.2).1 = q.2 := rfl
  have e4 : (ofH q.1 q.2).2 = q.1.2 := rfl
  rw [e3, e4] at this
  omega
theorem ag_of_mem {L : Row} (ho : Once L) {a i v : Int} (h : ((a, i), v) ∈ L) : agK i L = a ∧ agV i L = v ∧ agIs i L = true := by
  have : afind i L = some ((a, i), v) := (afind_iff ho).2 ⟨h, rfl⟩
  unfold agK agV agIs
  rw [this]
  exact ⟨rfl, rfl, rfl⟩
theorem at_ids {L : Row} (ho : Once L) {i j : Nat} {p q : RK × Int} (hp : L[i]? = some p) (hq : L[j]? = some q) (h : i ≠ j) : p.1.2 ≠ q.1.2 := by
  obtain ⟨h1, rfl⟩ := List.getElem?_eq_some_iff.1 hp
  obtain ⟨h2, rfl⟩ := List.getElem?_eq_some_iff.1 hq
  have hn : (L.map (·.1.2)).Pairwise (· ≠ ·) := ho
  rw [List.pairwise_iff_getElem] at hn
  rcases Nat.lt_or_gt_of_ne h with hl | hl
  · have := hn i j (by simpa using h1) (by simpa using h2) hl
    simpa using this
  · have := hn j i (by simpa using h2) (by simpa using h1) hl
    exact fun e => by simp at this; exact this e.symm

end Go.Proofs.Ytjlnbpomncglcaa
