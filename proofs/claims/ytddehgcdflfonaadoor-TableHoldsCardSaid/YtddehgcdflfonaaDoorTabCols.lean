/-
  Columns of acts; what acts do to a row.
-/
import Derived.Test.YtddehgcdflfonaaDoorProg
import Derived.Test.YtddehgcdflfonaaDoorTabH
namespace Go.Proofs.YtddehgcdflfonaaDoor
set_option linter.unusedVariables false
set_option linter.unusedSimpArgs false
set_option maxRecDepth 100000
open Go.RowKit Go.Shelf

theorem tset_get {L : TRow} {id v x : Int} (h : tget id L = some x) : tget id (tset id v L) = some v := by rw [tget_set, if_pos rfl, h]; rfl
theorem tput_get {L : TRow} {id v : Int} (h1 : 1 ≤ id) (h2 : id ≤ 65535) (h : tget id L = none) : tget id (tput id v L) = some v := by unfold tput; rw [if_pos ⟨h1, h2, h⟩, tget_ins h, if_pos rfl]
theorem tput_len {L : TRow} {id v : Int} (h1 : 1 ≤ id) (h2 : id ≤ 65535) (h : tget id L = none) : (tput id v L).length = L.length + 1 := by unfold tput; rw [if_pos ⟨h1, h2, h⟩, tins_length]
theorem tput_there {L : TRow} {id v x : Int} (h : tget id L = some x) : tput id v L = L := by unfold tput; rw [if_neg (by rw [h]; simp)]
theorem tput_not {L : TRow} {id v : Int} (h : ¬ (1 ≤ id ∧ id ≤ 65535)) : tput id v L = L := by unfold tput; rw [if_neg (fun c => h ⟨c.1, c.2.1⟩)]
theorem tdel_get {L : TRow} {id : Int} : tget id (tdel id L) = none := by rw [tget_del, if_pos rfl]
theorem askE_not {L : TRow} {id : Int} (h : ¬ (1 ≤ id ∧ id ≤ 65535)) (b : Bool) : askE L id b = 2 := by unfold askE; rw [if_neg h]
theorem askE_gone {L : TRow} {id : Int} (h1 : 1 ≤ id) (h2 : id ≤ 65535) (h : tget id L = none) : askE L id true = 81 := by unfold askE; rw [if_pos ⟨h1, h2⟩, h]; rfl
/-- Columns, as they are told. -/
def colF (F : Nat → Int) (n : Nat) : Nat → Int := fun i => if i < n then F i else 0
theorem colF_at {F : Nat → Int} {n i : Nat} (h : i < n) : colF F n i = F i := by unfold colF; rw [if_pos h]
theorem colF_word {F : Nat → Int} {n : Nat} (h : ∀ i, i < n → Word (F i)) (i : Nat) : Word (colF F n i) := by
  unfold colF; split
  · exact h i ‹_›
  · exact ⟨by decide, by decide⟩
theorem colF_int {F : Nat → Int} {n : Nat} (h : ∀ i, i < n → (Lit.int .i64 (F i)).wf = true) (i : Nat) : -9223372036854775808 ≤ colF F n i ∧ colF F n i ≤ 9223372036854775807 := by
  unfold colF; split
  · exact int_of_wf (h i ‹_›)
  · exact ⟨by decide, by decide⟩
theorem colF_byte {F : Nat → Int} {n : Nat} (h : ∀ i, i < n → (Lit.int .u8 (F i)).wf = true) (i : Nat) : 0 ≤ colF F n i ∧ colF F n i ≤ 255 := by
  unfold colF; split
  · exact byte_of_wf (h i ‹_›)
  · exact ⟨by decide, by decide⟩
theorem tacts_of {w : World} {A : Option Addr} {n : Nat} {K I V Q : Nat → Int} (hA : 0 < n → ∃ b off, A = some ⟨b, off, none⟩ ∧ b < w.heap.size)
    (hK : ∀ b off, A = some ⟨b, off, none⟩ → ∀ i, i < n → w.cell? ⟨b, off + (i * 4 + 0), none⟩ = some (.int .u8 (K i))) (hI : ∀ b off, A = some ⟨b, off, none⟩ → ∀ i, i < n → w.cell? ⟨b, off + (i * 4 + 1), none⟩ = some (.int .i64 (I i)))
    (hV : ∀ b off, A = some ⟨b, off, none⟩ → ∀ i, i < n → w.cell? ⟨b, off + (i * 4 + 2), none⟩ = some (.int .u64 (V i))) (hQ : ∀ b off, A = some ⟨b, off, none⟩ → ∀ i, i < n → w.cell? ⟨b, off + (i * 4 + 3), none⟩ = some (.int .i64 (Q i))) :
    TActs w A n (colF K n) (colF I n) (colF V n) (colF Q n) :=
  ⟨hA, fun b off h i hi => by
    rw [colF_at hi, colF_at hi, colF_at hi, colF_at hi]
    exact ⟨by simpa using hK b off h i hi, by simpa [Nat.add_assoc] using hI b off h i hi, by simpa [Nat.add_assoc] using hV b off h i hi, by simpa [Nat.add_assoc] using hQ b off h i hi⟩⟩

/-- What is told of the next one. -/
theorem next_tells {L : TRow} (h : TOk L) (id : Int) : ((tnext id L).isSome = true → id < (tnext id L).getD 0 ∧ (tget ((tnext id L).getD 0) L).isSome = true) ∧ ((tnext id L).isSome = false → (tnext id L).getD 0 = 0) := by
  rcases e : tnext id L with _ | x
  · exact ⟨(fun h => by cases h), fun _ => rfl⟩
  · obtain ⟨a1, a2, a3⟩ := tnext_spec h.rises e
    refine ⟨fun _ => ⟨a1, ?_⟩, (fun h => by cases h)⟩
    obtain ⟨v, hv⟩ := Option.ne_none_iff_exists'.1 a2
    show (tget x L).isSome = true
    rw [hv]
    rfl
end Go.Proofs.YtddehgcdflfonaaDoor
