/-
  Rows by ids: each id once.
-/
import Derived.Test.YtjlnbpomncglcaaRBList
namespace Go.Proofs.Ytjlnbpomncglcaa
set_option linter.unusedVariables false
set_option linter.unusedSimpArgs false

/-- Who is in under an id. -/
def afind (id : Int) (L : Row) : Option (RK × Int) := L.find? fun p => decide (p.1.2 = id)
def byId (id : Int) (L : Row) : Option RK := (afind id L).map (·.1)
def dropId (id : Int) (L : Row) : Row := L.filter fun p => !decide (p.1.2 = id)
def aput (id key v : Int) (L : Row) : Row := ins (key, id) v (dropId id L)
/-- Each id is in once. -/
def Once (L : Row) : Prop := (L.map (·.1.2)).Nodup
theorem once_nil : Once [] := List.nodup_nil
theorem afind_none {id : Int} {L : Row} : afind id L = none ↔ ∀ p ∈ L, p.1.2 ≠ id := by
  unfold afind
  rw [List.find?_eq_none]
  constructor
  · intro h p hp e; exact h p hp (decide_eq_true e)
  · intro h p hp e; exact h p hp (of_decide_eq_true e)
theorem afind_mem {id : Int} {L : Row} {p : RK × Int} (h : afind id L = some p) : p ∈ L ∧ p.1.2 = id :=
  ⟨List.mem_of_find?_eq_some h, of_decide_eq_true (List.find?_some (p := fun p : RK × Int => decide (p.1.2 = id)) h)⟩
theorem once_eq {L : Row} (ho : Once L) {p q : RK × Int} (hp : p ∈ L) (hq : q ∈ L) (e : p.1.2 = q.1.2) : p = q := by
  induction L with
  | nil => cases hp
  | cons x L ih =>
    have h2 := List.nodup_cons.1 (show (x.1.2 :: L.map (·.1.2)).Nodup from ho)
    rcases List.mem_cons.1 hp with rfl | hp'
    · rcases List.mem_cons.1 hq with rfl | hq'
      · rfl
      · exact absurd (List.mem_map.2 ⟨q, hq', e.symm⟩) h2.1
    · rcases List.mem_cons.1 hq with rfl | hq'
      · exact absurd (List.mem_map.2 ⟨p, hp', e⟩) h2.1
      · exact ih h2.2 hp' hq'
theorem afind_iff {L : Row} (ho : Once L) {id : Int} {p : RK × Int} : afind id L = some p ↔ p ∈ L ∧ p.1.2 = id := by
  refine ⟨afind_mem, fun h => ?_⟩
  cases hf : afind id L with
  | none => exact absurd h.2 (afind_none.1 hf p h.1)
  | some q => rw [once_eq ho (afind_mem hf).1 h.1 ((afind_mem hf).2.trans h.2.symm)]
theorem afind_ext {L M : Row} (h1 : Once L) (h2 : Once M) {id id' : Int} (h : ∀ p : RK × Int, p.1.2 = id' → (p ∈ M ↔ p ∈ L)) : afind id' M = afind id' L := by
  cases hL : afind id' L with
  | none =>
    refine afind_none.2 fun p hp e => ?_
    exact afind_none.1 hL p ((h p e).1 hp) e
  | some p =>
    have := afind_mem hL
    exact (afind_iff h2).2 ⟨(h p this.2).2 this.1, this.2⟩
theorem mem_dropId {id : Int} {L : Row} {p : RK × Int} : p ∈ dropId id L ↔ p ∈ L ∧ p.1.2 ≠ id := by simp [dropId]
theorem once_dropId {id : Int} {L : Row} (ho : Once L) : Once (dropId id L) := by
  unfold Once dropId at *
  exact (List.Sublist.map _ (List.filter_sublist (l := L))).nodup ho
theorem dropId_rises {id : Int} {L : Row} (h : Rises L) : Rises (dropId id L) := h.filter _
theorem dropId_none {id : Int} {L : Row} (h : afind id L = none) : dropId id L = L := List.filter_eq_self.2 fun p hp => by simp [afind_none.1 h p hp]
theorem dropId_len (id : Int) (L : Row) : (dropId id L).length ≤ L.length := List.length_filter_le ..
theorem dropId_del {id : Int} {L : Row} (ho : Once L) {p : RK × Int} (h : afind id L = some p) : dropId id L = del p.1 L := by
  have hm := afind_mem h
  unfold dropId del
  apply List.filter_congr
  intro q hq
  by_cases e : q.1 = p.1
  · rw [decide_eq_true e, decide_eq_true (by rw [e]; exact hm.2)]
  · rw [decide_eq_false e, decide_eq_false (fun e2 => e (by rw [once_eq ho hq hm.1 (e2.trans hm.2.symm)]))]
theorem afind_dropId {id id' : Int} {L : Row} (ho : Once L) : afind id' (dropId id L) = if id = id' then none else afind id' L := by
  by_cases e : id = id'
  · rw [if_pos e]
    refine afind_none.2 fun p hp e2 => (mem_dropId.1 hp).2 (e2.trans e.symm)
  · rw [if_neg e]
    refine afind_ext (id := id) ho (once_dropId ho) fun p hp => ?_
    rw [mem_dropId]
    exact ⟨fun h => h.1, fun h => ⟨h, fun e2 => e (e2.symm.trans hp)⟩⟩
theorem once_ins {k : RK} {v : Int} {L : Row} (ho : Once L) (h : afind k.2 L = none) : Once (ins k v L) := by
  induction L with
  | nil => exact List.nodup_cons.2 ⟨List.not_mem_nil, List.nodup_nil⟩
  | cons x L ih =>
    have h2 := List.nodup_cons.1 (show (x.1.2 :: L.map (·.1.2)).Nodup from ho)
    have hx : ∀ p ∈ x :: L, p.1.2 ≠ k.2 := afind_none.1 h
    simp only [ins]
    split
    · refine List.nodup_cons.2 ⟨fun hm => ?_, ho⟩
      obtain ⟨q, hq, e⟩ := List.mem_map.1 hm
      exact hx q hq e
    · refine List.nodup_cons.2 ⟨fun hm => ?_, ih h2.2 (afind_none.2 fun p hp => hx p (List.mem_cons_of_mem _ hp))⟩
      obtain ⟨q, hq, e⟩ := List.mem_map.1 hm
      rcases mem_ins.1 hq with rfl | hq
      · exact hx x (List.mem_cons_self ..) e.symm
      · exact h2.1 (List.mem_map.2 ⟨q, hq, e⟩)
theorem afind_ins {k : RK} {v id' : Int} {L : Row} (ho : Once L) (h : afind k.2 L = none) : afind id' (ins k v L) = if k.2 = id' then some (k, v) else afind id' L := by
  by_cases e : k.2 = id'
  · rw [if_pos e]
    exact (afind_iff (once_ins ho h)).2 ⟨mem_ins.2 (Or.inl rfl), e⟩
  · rw [if_neg e]
    refine afind_ext (id := k.2) ho (once_ins ho h) fun p hp => ?_
    rw [mem_ins]
    exact ⟨fun h => h.resolve_left fun e2 => e (by rw [← hp, e2]), Or.inr⟩
theorem get_no {k : RK} {L : Row} (h : afind k.2 L = none) : get k L = none := get_none.2 fun p hp e => afind_none.1 h p hp (by rw [e])
theorem afind_dropped (id : Int) (L : Row) : afind id (dropId id L) = none := afind_none.2 fun p hp => (mem_dropId.1 hp).2
theorem get_find {id : Int} {L : Row} (hR : Rises L) {p : RK × Int} (h : afind id L = some p) : get p.1 L = some p.2 := get_of_mem hR (afind_mem h).1
theorem once_aput {id key v : Int} {L : Row} (ho : Once L) : Once (aput id key v L) := once_ins (once_dropId ho) (afind_dropped id L)
theorem aput_rises {id key v : Int} {L : Row} (h : Rises L) : Rises (aput id key v L) := ins_rises (dropId_rises h) (get_no (k := (key, id)) (afind_dropped id L))
theorem aput_len (id key v : Int) (L : Row) : (aput id key v L).length ≤ L.length + 1 := by
  unfold aput
  rw [ins_length]
  have := dropId_len id L
  omega
theorem mem_aput {id key v : Int} {L : Row} {p : RK × Int} : p ∈ aput id key v L ↔ p = ((key, id), v) ∨ (p ∈ L ∧ p.1.2 ≠ id) := by
  unfold aput
  rw [mem_ins, mem_dropId]
theorem afind_aput {id key v id' : Int} {L : Row} (ho : Once L) : afind id' (aput id key v L) = if id = id' then some ((key, id), v) else afind id' L := by
  unfold aput
  rw [afind_ins (once_dropId ho) (afind_dropped id L), afind_dropId ho]
  show (if id = id' then _ else _) = _
  by_cases e : id = id'
  · rw [if_pos e, if_pos e]
  · rw [if_neg e, if_neg e, if_neg e]
/-- What Get tells: key, value, whether it is in. -/
def agK (id : Int) (L : Row) : Int := match afind id L with | none => 0 | some p => p.1.1
def agV (id : Int) (L : Row) : Int := match afind id L with | none => 0 | some p => p.2
def agIs (id : Int) (L : Row) : Bool := (afind id L).isSome

end Go.Proofs.Ytjlnbpomncglcaa
