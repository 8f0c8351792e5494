/-
  A row of one-cell elements behind slices.SortFunc. Nothing of the program stands here.
-/
import Derived.Test.YtjhffbhjiflfeaaGreatLib2
import Derived.Shelf.SlSortCmp.NoneTotal
import Derived.Laws.AppendOwn
namespace Go.Proofs.YtjhffbhjiflfeaaGreat
set_option linter.unusedVariables false
set_option linter.unusedSimpArgs false
open Go.RowKit Go.Shelf

section
variable {α : Type} [Inhabited α]
theorem sort_heap (enc : α → Value) (w : World) (blk m : Nat) (d : Array α) (os : Array Obj) (k : Nat) (hk : k < w.heap.size) :
    (sortWorld enc w blk 0 m d os).heap[k]? = if blk = k then (w.heap[k]?).map (Sort.onCells (Sort.putCells enc 0 d)) else w.heap[k]? := by
  show (w.heap.modify blk (Sort.onCells _) ++ os)[k]? = _
  rw [Array.getElem?_append_left (by simpa using hk), Array.getElem?_modify]
theorem sort_fr (enc : α → Value) (w : World) (blk m : Nat) (d : Array α) (os : Array Obj) : Fr (fun k => k = blk) w (sortWorld enc w blk 0 m d os) :=
  ⟨rfl, rfl, rfl, by show w.heap.size ≤ (w.heap.modify blk _ ++ os).size; simp, fun k hk hn => by rw [sort_heap enc w blk m d os k hk, if_neg (Ne.symm hn)]⟩
theorem sort_blk {enc : α → Value} {w : World} {blk : Nat} {t : TypeId} {cs : Array Value} (h : Blk w blk t cs) (m : Nat) (d : Array α) (os : Array Obj) : Blk (sortWorld enc w blk 0 m d os) blk t (Sort.putCells enc 0 d cs) := by
  have hl := h.lt
  unfold Blk at h ⊢
  rw [sort_heap enc w blk m d os blk hl, if_pos rfl, h]
  rfl
theorem put_take (enc : α → Value) (d : Array α) (cs : Array Value) (h : d.size ≤ cs.size) : (Sort.putCells enc 0 d cs).toList.take d.size = d.toList.map enc := by
  apply List.ext_getElem?
  intro i
  by_cases hi : i < d.size
  · have h1 : i < cs.size := by omega
    simp [Sort.putCells, hi, h1]
  · simp [hi]; omega
theorem sort_own {enc : α → Value} {w : World} {B g n cap m : Nat} {e : TypeId} {xs : List Value} {d : Array α} {os : Array Obj} (h : w.ownsRow B e 1 (.slice (some ⟨g, 0, none⟩) n cap) n xs) (hd : d.size = n) :
    (sortWorld enc w g 0 m d os).ownsRow B e 1 (.slice (some ⟨g, 0, none⟩) n cap) n (d.toList.map enc) := by
  obtain ⟨h1, h2⟩ := h
  refine ⟨by simp [hd], Or.inr ?_⟩
  rcases h2 with ⟨h2, -⟩ | ⟨g', cap', cur, hv, hB, hh, hn, hc, hs, ht⟩
  · cases h2
  · cases hv
    refine ⟨g, cap, Sort.putCells enc 0 d cur, rfl, hB, sort_blk hh m d os, hn, hc, by simp [Sort.putCells, hs], ?_⟩
    rw [Nat.mul_one, ← hd]
    exact put_take enc d cur (by rw [hs, hd]; omega)
theorem own_holds {enc : α → Value} {w : World} {B g n cap : Nat} {e : TypeId} {d : Array α} (h : w.ownsRow B e 1 (.slice (some ⟨g, 0, none⟩) n cap) n (d.toList.map enc)) (hd : d.size = n) : Sort.Holds enc w g 0 d := by
  obtain ⟨h1, h2⟩ := h
  rcases h2 with ⟨h2, -⟩ | ⟨g', cap', cur, hv, hB, hh, hn, hc, hs, ht⟩
  · cases h2
  · cases hv
    intro j hj
    have hb : Blk w g e cur := hh
    have hc1 : cur[j]? = some (enc d[j]!) := by
      have := congrArg (·[j]?) ht
      simp only [Nat.mul_one] at this
      rw [List.getElem?_take_of_lt (by omega)] at this
      simpa [hj] using this
    rw [Nat.zero_add]
    exact ⟨hb.get j hc1, hb.frozen j⟩
end

end Go.Proofs.YtjhffbhjiflfeaaGreat
