/-
  A range over a map of whole numbers: whichever order.
-/
import Derived.Test.YtjhffbhjiflfeaaGreatMapI
import Derived.Maps.RangeRun
namespace Go.Proofs.YtjhffbhjiflfeaaGreat
set_option linter.unusedVariables false
set_option linter.unusedSimpArgs false
open Go.RowKit
open Go.MapKept (Stamped)

/-- A range under way: the iterator r, the map b, its entries M, those still to come L. -/
def MpR (w : World) (r b : Nat) (M L : IMap) : Prop :=
  ∃ (es : Array MapEntry) (clock since : Nat) (seen : Array Nat) (c0 : Nat), w.heap[b]? = some (.map es clock) ∧ Stamped es clock ∧ es.toList.map entKV = encM M ∧ w.heap[r]? = some (.mapIter (some b) since seen c0) ∧
    (∀ x ∈ es.toList, x.born < since) ∧ since ≤ c0 ∧ since ≤ clock ∧ (leftOf es seen).toList.map entKV = encM L
/-- What the round has. -/
def MpE (w : World) (r b : Nat) (k : Int) (v : Value) : Prop :=
  ∃ (es : Array MapEntry) (clock since : Nat) (seen : Array Nat) (e : MapEntry), w.heap[b]? = some (.map es clock) ∧ w.heap[r]? = some (.mapIter (some b) since (seen.push e.born) clock) ∧ e ∈ es.toList ∧ (es.toList.map (·.born)).Nodup ∧ e.key = .int .i64 k ∧ e.val = v
theorem MpR.lt {w : World} {r b : Nat} {M L : IMap} (h : MpR w r b M L) : r < w.heap.size ∧ b < w.heap.size := by
  obtain ⟨es, cl, since, seen, c0, h1, -, -, h4, -⟩ := h
  exact ⟨(Array.getElem?_eq_some_iff.1 h4).1, (Array.getElem?_eq_some_iff.1 h1).1⟩
theorem MpR.map {w : World} {r b : Nat} {M L : IMap} (h : MpR w r b M L) : MpAt w b M := by
  obtain ⟨es, cl, since, seen, c0, h1, h2, h3, -⟩ := h
  exact ⟨es, cl, h1, h2, h3⟩
theorem MpR.fr {w w' : World} {r b : Nat} {M L : IMap} {S : Nat → Prop} (h : MpR w r b M L) (hf : Fr S w w') (hr : ¬ S r) (hb : ¬ S b) : MpR w' r b M L := by
  have hl := h.lt
  obtain ⟨es, cl, since, seen, c0, h1, h2, h3, h4, h5⟩ := h
  exact ⟨es, cl, since, seen, c0, (hf.block b hl.2 hb).trans h1, h2, h3, (hf.block r hl.1 hr).trans h4, h5⟩
theorem MpR.next {w w' : World} {r b : Nat} {M L : IMap} (h : MpR w r b M L) (hb : Below w.heap.size w w') : MpR w' r b M L := by
  have hl := h.lt
  exact h.fr (Fr.of_below hb) (by show ¬ _ ≤ _; omega) (by show ¬ _ ≤ _; omega)
theorem MpE.lt {w : World} {r b : Nat} {k : Int} {v : Value} (h : MpE w r b k v) : r < w.heap.size ∧ b < w.heap.size := by
  obtain ⟨es, cl, since, seen, e, h1, h2, -⟩ := h
  exact ⟨(Array.getElem?_eq_some_iff.1 h2).1, (Array.getElem?_eq_some_iff.1 h1).1⟩
theorem MpE.fr {w w' : World} {r b : Nat} {k : Int} {v : Value} {S : Nat → Prop} (h : MpE w r b k v) (hf : Fr S w w') (hr : ¬ S r) (hb : ¬ S b) : MpE w' r b k v := by
  have hl := h.lt
  obtain ⟨es, cl, since, seen, e, h1, h2, h3⟩ := h
  exact ⟨es, cl, since, seen, e, (hf.block b hl.2 hb).trans h1, (hf.block r hl.1 hr).trans h2, h3⟩
section
variable {P : Program} {w : World} {r b : Nat} {M L : IMap} {t kt et : TypeId}
/-- 'range m'. -/
theorem MpAt.range (h : MpAt w b M) (ht : P.underlying t = some (.map kt et)) :
    ∃ w', (Instr.range t (.map (some b))).run P w = .ok (.pointer (some ⟨w.heap.size, 0, none⟩)) w' ∧ MpR w' w.heap.size b M M ∧ Below w.heap.size w w' ∧ w'.heap.size = w.heap.size + 1 := by
  have hl := h.lt
  obtain ⟨es, cl, hb, hs, he⟩ := h
  refine ⟨_, run_range_map w t kt et b es cl ht hb, ⟨es, cl, cl, #[], cl, ((MapKept.heap_alloc w _).2 b hl).trans hb, hs, he, (MapKept.heap_alloc w _).1, hs.1, Nat.le_refl _, Nat.le_refl _, ?_⟩, (Below.refl _ _).alloc (Nat.le_refl _) _, by simp⟩
  have e : (leftOf es #[]).toList = es.toList := by
    simp only [leftOf, Array.toList_filter]
    exact List.filter_eq_self.2 (fun x _ => by simp)
  rw [e]
  exact he
theorem leftOf_push {es : Array MapEntry} {seen : Array Nat} {e : MapEntry} {l1 l2 : List MapEntry} (hn : (es.toList.map (·.born)).Nodup) (h : (leftOf es seen).toList = l1 ++ e :: l2) :
    (leftOf es (seen.push e.born)).toList = l1 ++ l2 := by
  have e1 : (leftOf es (seen.push e.born)).toList = (leftOf es seen).toList.filter (fun x => !(x.born == e.born)) := by
    simp only [leftOf, Array.toList_filter, List.filter_filter]
    apply List.filter_congr
    intro x _
    rw [Bool.eq_iff_iff]
    simp
    exact And.comm
  have hs : ((leftOf es seen).toList.map (·.born)).Nodup := by
    refine List.Nodup.sublist (List.Sublist.map _ ?_) hn
    simp only [leftOf, Array.toList_filter]
    exact List.filter_sublist
  rw [h] at hs
  rw [e1, h, List.filter_append, List.filter_cons_of_neg (by simp)]
  rw [List.map_append, List.map_cons, List.nodup_append] at hs
  obtain ⟨-, h2, h3⟩ := hs
  have h2 := List.nodup_cons.1 h2
  rw [List.filter_eq_self.2, List.filter_eq_self.2]
  · intro x hx
    have : x.born ≠ e.born := fun hh => h2.1 (List.mem_map.2 ⟨x, hx, hh⟩)
    simpa using this
  · intro x hx
    have : x.born ≠ e.born := h3 _ (List.mem_map.2 ⟨x, hx, rfl⟩) _ (List.mem_cons_self ..)
    simpa using this
/-- The step: nothing is left, or one of those left comes out. -/
theorem MpR.step (h : MpR w r b M L) (ty : TypeId) :
    (L = [] ∧ (Instr.next (.pointer (some ⟨r, 0, none⟩)) false ty).run P w = .ok (.tuple #[.bool false]) w) ∨
    ∃ L1 k v L2 w', L = L1 ++ (k, v) :: L2 ∧ (Instr.next (.pointer (some ⟨r, 0, none⟩)) false ty).run P w = .ok (.tuple #[.bool true, .int .i64 k, v]) w' ∧ MpR w' r b M (L1 ++ L2) ∧ MpE w' r b k v ∧ Fr (fun j => j = r) w w' := by
  have hne : r ≠ b := by
    obtain ⟨es, cl, since, seen, c0, h1, -, -, h4, -⟩ := h
    intro e
    rw [e, h1] at h4
    cases h4
  obtain ⟨es, cl, since, seen, c0, h1, h2, h3, h4, h5, h6, h7, h8⟩ := h
  rcases run_next_at (P := P) w ty r b since c0 seen es cl h4 h1 h5 h6 with ⟨g1, g2⟩ | ⟨e, he, w1, hw, g2⟩
  · left
    have e0 : leftOf es seen = #[] := Array.eq_empty_of_size_eq_zero g1
    rw [e0] at h8
    refine ⟨?_, g2⟩
    cases L with
    | nil => rfl
    | cons p L => cases h8
  · right
    obtain ⟨l1, l2, hl⟩ := List.append_of_mem he
    rw [hl, List.map_append, List.map_cons] at h8
    obtain ⟨L1, L', rfl, k1, k2⟩ := List.map_eq_append_iff.1 h8.symm
    obtain ⟨p, L2, rfl, k3, k4⟩ := List.map_eq_cons_iff.1 k2
    have hk : e.key = .int .i64 p.1 := (congrArg Prod.fst k3).symm
    have hv : e.val = p.2 := (congrArg Prod.snd k3).symm
    have hin : e ∈ es.toList := by
      have : e ∈ (leftOf es seen).toList := he
      simp only [leftOf, Array.toList_filter] at this
      exact (List.mem_filter.1 this).1
    have hr1 : w1.heap[r]? = some (.mapIter (some b) since seen c0) := by rcases hw with rfl | rfl <;> exact h4
    have hb1 : w1.heap[b]? = some (.map es cl) := by rcases hw with rfl | rfl <;> exact h1
    have q1 : (ChangeMaps.setBlock w1 r (.mapIter (some b) since (seen.push e.born) cl)).heap[r]? = some (.mapIter (some b) since (seen.push e.born) cl) := (MapKept.heap_set (w := w1) hr1).1
    have q2 : (ChangeMaps.setBlock w1 r (.mapIter (some b) since (seen.push e.born) cl)).heap[b]? = some (.map es cl) := ((MapKept.heap_set (w := w1) hr1).2 b (Ne.symm hne)).trans hb1
    refine ⟨L1, p.1, p.2, L2, _, rfl, by rw [g2, hk, hv], ⟨es, cl, since, seen.push e.born, cl, q2, h2, h3, q1, h5, h7, h7, ?_⟩, ⟨es, cl, since, seen, e, q2, q1, hin, h2.2.1, hk, hv⟩, ?_⟩
    · rw [leftOf_push h2.2.1 hl, List.map_append, k1.symm, k4.symm]
      unfold encM
      rw [List.map_append]
    · have hw1 : Fr (fun j => j = r) w w1 := by
        rcases hw with rfl | rfl
        · exact Fr.refl _ _
        · exact (Fr.refl _ w).drew
      exact hw1.trans (fr_setBlock (w := w1) (o' := .mapIter (some b) since (seen.push e.born) cl) hr1)
/-- The round's key and element. -/
theorem MpE.entry {k : Int} {v : Value} (h : MpE w r b k v) : (Instr.entry (.pointer (some ⟨r, 0, none⟩))).run P w = .ok (.tuple #[.int .i64 k, v]) w := by
  obtain ⟨es, cl, since, seen, e, h1, h2, h3, h4, hk, hv⟩ := h
  rw [← hk, ← hv]
  exact run_entry_at w r b since seen es cl e h2 h1 h3 h4
/-- A nil map's iterator. -/
theorem range_nil (w : World) (ht : P.underlying t = some (.map kt et)) : (Instr.range t (.map none)).run P w = .ok (.pointer (some ⟨w.heap.size, 0, none⟩)) (w.alloc (.mapIter none 0 #[] 0)) := run_range_nilMap w t kt et ht
end

end Go.Proofs.YtjhffbhjiflfeaaGreat
