/-
  A slice of numbers, appended to an empty one: a copy.
-/
import Derived.Test.YtifndlkhhhedlaaProg
import Derived.Test.YtifndlkhhhedlaaLib2
import Derived.Deep.AppendSrc
import Derived.Deep.DeepAppendWide
namespace Go.Proofs.Ytifndlkhhhedlaa
set_option linter.unusedVariables false
set_option linter.unusedSimpArgs false
set_option maxRecDepth 100000
open Go.RowKit

def rowOf (F : Nat → Int) (n : Nat) : List Value := (List.range n).map fun i => .int .u64 (F i)
theorem rowOf_get {F : Nat → Int} {n j : Nat} {u : Value} (h : (rowOf F n)[j]? = some u) : j < n ∧ u = .int .u64 (F j) := by
  unfold rowOf at h
  rw [List.getElem?_map] at h
  by_cases hj : j < n
  · rw [List.getElem?_range hj] at h
    exact ⟨hj, (Option.some.inj h).symm⟩
  · rw [List.getElem?_eq_none (by simp; omega)] at h; cases h
theorem row_src (P : Program) (tx e' : TypeId) (hk : P.underlying tx = some (.slice e')) (W : World) (b off n c : Nat) (F : Nat → Int) (hc : ∀ i, i < n → W.cell? ⟨b, off + i, none⟩ = some (.int .u64 (F i))) :
    Src P 1 tx (.slice (some ⟨b, off, none⟩) n c) n (rowOf F n) W := by
  refine Src.ofSlice W hk _ n c _ (by simp [rowOf]) ?_ ?_
  · intro j u hu
    obtain ⟨hj, rfl⟩ := rowOf_get hu
    rw [Addr.add_lit]; exact hc j hj
  · intro u hu
    obtain ⟨i, _, rfl⟩ := List.mem_map.1 hu
    rfl

theorem append_copy (W : World) (t ty e b0 b off n c : Nat) (F : Nat → Int) (i : TypeInfo) (ht : Try.prog.underlying t = some (.slice e)) (hi : Try.prog.info? e = some i) (hz : i.zero = some (.int .u64 0)) (hs : i.size = 1) (hbt : i.bytes = 8)
    (hn : 0 < n) (hn2 : n ≤ 1000000) (hc : ∀ i, i < n → W.cell? ⟨b, off + i, none⟩ = some (.int .u64 (F i))) :
    ∃ (cM : Nat) (Z : Array Value), (Builtin.append_ #[t, t] ty #[.slice (some ⟨b0, 0, none⟩) 0 0, .slice (some ⟨b, off, none⟩) n c]).run Try.prog W =
      .ok (.slice (some ⟨W.heap.size, 0, none⟩) n cM) (W.drew.alloc (.cells ((rowOf F n).toArray ++ Z) e)) := by
  have hsrc := row_src Try.prog t e ht W b off n c F hc
  rw [← hs] at hsrc
  have hb : Builtin.nextslicecap (0 + n) 0 * i.bytes ≤ 281474976710656 := by
    have := nextslicecap_le_wide (need := 0 + n) (old := 0) (by omega)
    rw [hbt]; omega
  have h := run_append_grow_src W t t ty e i (.int .u64 0) ht hi hz (some ⟨b0, 0, none⟩) 0 0 [] (by rw [hs]; rfl) (.slice (some ⟨b, off, none⟩) n c) n (rowOf F n) hsrc (by omega) (by omega) hb
  rw [Nat.zero_add] at h
  exact ⟨_, _, h⟩

end Go.Proofs.Ytifndlkhhhedlaa
