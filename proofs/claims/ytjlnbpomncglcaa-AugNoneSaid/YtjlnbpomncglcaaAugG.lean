/-
  Chapter 9's laws: rows, plainly.
-/
import Derived.Test.YtjlnbpomncglcaaProg
import Derived.Test.YtjlnbpomncglcaaAugF
namespace Go.Proofs.Ytjlnbpomncglcaa
set_option linter.unusedVariables false
set_option linter.unusedSimpArgs false
set_option maxRecDepth 100000
open Go.RowKit Go.Shelf

theorem wrap_in' {x : Int} (h : -1 ≤ x) (h2 : x ≤ 1000000) : wrap64 x = x := by unfold wrap64; omega
theorem wrap_of' {x : Int} {m : Nat} (h : x = m) (hm : m ≤ 1000000) : wrap64 x = m := by subst h; exact wrap_in' (by omega) (by omega)
theorem aacts_of {w : World} {A : Option Addr} {n : Nat} {I K V : Nat → Int} {D : Nat → Bool} {P Q : Nat → Int} (hA : 0 < n → ∃ b off, A = some ⟨b, off, none⟩ ∧ b < w.heap.size)
    (hI : ∀ b off, A = some ⟨b, off, none⟩ → ∀ i, i < n → w.cell? ⟨b, off + (i * 6 + 0), none⟩ = some (.int .i64 (I i))) (hK : ∀ b off, A = some ⟨b, off, none⟩ → ∀ i, i < n → w.cell? ⟨b, off + (i * 6 + 1), none⟩ = some (.int .u64 (K i)))
    (hV : ∀ b off, A = some ⟨b, off, none⟩ → ∀ i, i < n → w.cell? ⟨b, off + (i * 6 + 2), none⟩ = some (.int .u64 (V i))) (hD : ∀ b off, A = some ⟨b, off, none⟩ → ∀ i, i < n → w.cell? ⟨b, off + (i * 6 + 3), none⟩ = some (.bool (D i)))
    (hP : ∀ b off, A = some ⟨b, off, none⟩ → ∀ i, i < n → w.cell? ⟨b, off + (i * 6 + 4), none⟩ = some (.int .u64 (P i))) (hQ : ∀ b off, A = some ⟨b, off, none⟩ → ∀ i, i < n → w.cell? ⟨b, off + (i * 6 + 5), none⟩ = some (.int .u64 (Q i))) :
    AActs w A n I K V D P Q :=
  ⟨hA, fun b off h i hi => ⟨by simpa using hI b off h i hi, by simpa [Nat.add_assoc] using hK b off h i hi, by simpa [Nat.add_assoc] using hV b off h i hi, by simpa [Nat.add_assoc] using hD b off h i hi, by simpa [Nat.add_assoc] using hP b off h i hi, by simpa [Nat.add_assoc] using hQ b off h i hi⟩⟩
theorem actsA_keys {n : Nat} {I K V : Nat → Int} {D : Nat → Bool} {m : Int} (h : ∀ i, i < n → K i ≤ m) : ∀ i, i ≤ n → ∀ p ∈ actsA I K V D i, p.1.1 ≤ m := by
  intro i
  induction i with
  | zero => intro _ p hp; cases hp
  | succ i ih =>
    intro hi p hp
    simp only [actsA, actA] at hp
    split at hp
    · exact ih (by omega) p (mem_dropId.1 hp).1
    · rcases mem_aput.1 hp with rfl | hp
      · exact h i (by omega)
      · exact ih (by omega) p hp.1
theorem rises_step {L : Row} (h : Rises L) {j : Nat} {p q : RK × Int} (hp : L[j]? = some p) (hq : L[j + 1]? = some q) : klt p.1 q.1 = true := by
  obtain ⟨h1, rfl⟩ := List.getElem?_eq_some_iff.1 hp
  obtain ⟨h2, rfl⟩ := List.getElem?_eq_some_iff.1 hq
  exact List.pairwise_iff_getElem.1 h j (j + 1) h1 h2 (by omega)
theorem afind_at {L : Row} (ho : Once L) {j : Nat} {p : RK × Int} (hp : L[j]? = some p) : afind p.1.2 L = some p := (afind_iff ho).2 ⟨List.mem_of_getElem? hp, rfl⟩
theorem agK_at {L : Row} (ho : Once L) {j : Nat} {k i v : Int} (hp : L[j]? = some ((k, i), v)) : agK i L = k := by unfold agK; rw [afind_at ho hp]
theorem agV_at {L : Row} (ho : Once L) {j : Nat} {k i v : Int} (hp : L[j]? = some ((k, i), v)) : agV i L = v := by unfold agV; rw [afind_at ho hp]
theorem agIs_at {L : Row} (ho : Once L) {j : Nat} {k i v : Int} (hp : L[j]? = some ((k, i), v)) : agIs i L = true := by unfold agIs; rw [afind_at ho hp]; rfl
/-- Is an id among the first j? -/
def hasId (id : Int) (L : Row) (j : Nat) : Bool := (L.take j).any fun p => p.1.2 == id
theorem hasId_next {id : Int} {L : Row} {j : Nat} {p : RK × Int} (hp : L[j]? = some p) : hasId id L (j + 1) = (hasId id L j || (p.1.2 == id)) := by
  unfold hasId
  rw [List.take_add_one, hp]
  simp
theorem any_find (id : Int) : ∀ L : Row, (L.any fun p => p.1.2 == id) = (L.find? fun p => decide (p.1.2 = id)).isSome
  | [] => rfl
  | p :: L => by
    rw [List.any_cons, List.find?_cons]
    by_cases h : p.1.2 = id
    · rw [beq_iff_eq.2 h, decide_eq_true h]
      rfl
    · rw [beq_eq_false_iff_ne.2 h, decide_eq_false h, Bool.false_or]
      exact any_find id L
theorem hasId_all (id : Int) (L : Row) : hasId id L L.length = agIs id L := by
  unfold hasId
  rw [List.take_length]
  exact any_find id L

end Go.Proofs.Ytjlnbpomncglcaa
