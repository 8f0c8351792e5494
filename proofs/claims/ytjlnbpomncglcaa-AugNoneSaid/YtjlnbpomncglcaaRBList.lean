/-
  Rows of keys and values that rise; what a tree's items become by putting in and taking out.
-/
import Derived.Test.YtjlnbpomncglcaaRBPlain
namespace Go.Proofs.Ytjlnbpomncglcaa
set_option linter.unusedVariables false
set_option linter.unusedSimpArgs false

abbrev Row := List (RK × Int)
def ins (k : RK) (v : Int) : Row → Row
  | [] => [(k, v)]
  | p :: L => if klt k p.1 = true then (k, v) :: p :: L else p :: ins k v L
def del (k : RK) (L : Row) : Row := L.filter fun p => !decide (p.1 = k)
def get (k : RK) : Row → Option Int
  | [] => none
  | p :: L => if p.1 = k then some p.2 else get k L
def Rises (L : Row) : Prop := L.Pairwise fun a b => klt a.1 b.1 = true

theorem Rises.left {A B : Row} (h : Rises (A ++ B)) : Rises A := (List.pairwise_append.1 h).1
theorem Rises.right {A B : Row} (h : Rises (A ++ B)) : Rises B := (List.pairwise_append.1 h).2.1
theorem Rises.across {A B : Row} (h : Rises (A ++ B)) : ∀ a ∈ A, ∀ b ∈ B, klt a.1 b.1 = true := (List.pairwise_append.1 h).2.2
theorem Rises.mid {A B : Row} {p : RK × Int} (h : Rises (A ++ p :: B)) : (∀ a ∈ A, klt a.1 p.1 = true) ∧ (∀ b ∈ B, klt p.1 b.1 = true) ∧ Rises A ∧ Rises B := by
  have h2 := h.right
  exact ⟨fun a ha => h.across a ha p (List.mem_cons_self ..), (List.pairwise_cons.1 h2).1, h.left, (List.pairwise_cons.1 h2).2⟩

theorem ins_left {k : RK} {v : Int} {p : RK × Int} (B : Row) (h : klt k p.1 = true) : ∀ A : Row, ins k v (A ++ p :: B) = ins k v A ++ p :: B
  | [] => by simp [ins, h]
  | a :: A => by
    simp only [List.cons_append, ins]
    split
    · simp
    · rw [ins_left B h A]; simp
theorem ins_right {k : RK} {v : Int} {p : RK × Int} (B : Row) (h : klt k p.1 = false) : ∀ A : Row, (∀ a ∈ A, klt a.1 p.1 = true) → ins k v (A ++ p :: B) = A ++ p :: ins k v B
  | [], _ => by simp [ins, h]
  | a :: A, ha => by
    have h1 : klt k a.1 = false := klt_of_not h (ha a (List.mem_cons_self ..))
    simp only [List.cons_append, ins, h1, Bool.false_eq_true, if_false]
    rw [ins_right B h A (fun x hx => ha x (List.mem_cons_of_mem _ hx))]
theorem mem_ins {k : RK} {v : Int} {x : RK × Int} : ∀ {L : Row}, x ∈ ins k v L ↔ x = (k, v) ∨ x ∈ L
  | [] => by simp [ins]
  | p :: L => by
    simp only [ins]
    split
    · simp
    · rw [List.mem_cons, mem_ins, List.mem_cons]
      constructor
      · rintro (h | h | h)
        · exact Or.inr (Or.inl h)
        · exact Or.inl h
        · exact Or.inr (Or.inr h)
      · rintro (h | h | h)
        · exact Or.inr (Or.inl h)
        · exact Or.inl h
        · exact Or.inr (Or.inr h)
theorem ins_length (k : RK) (v : Int) : ∀ L : Row, (ins k v L).length = L.length + 1
  | [] => rfl
  | p :: L => by
    simp only [ins]
    split
    · simp
    · simp [ins_length k v L]
theorem get_none {k : RK} : ∀ {L : Row}, get k L = none ↔ ∀ p ∈ L, p.1 ≠ k
  | [] => by simp [get]
  | p :: L => by
    simp only [get]
    split
    · rename_i h
      simp only [reduceCtorEq, List.mem_cons, forall_eq_or_imp, false_iff, not_and]
      intro h2; exact absurd h h2
    · rename_i h
      rw [get_none]
      simp [h]
theorem ins_rises {k : RK} {v : Int} : ∀ {L : Row}, Rises L → get k L = none → Rises (ins k v L)
  | [], _, _ => List.pairwise_singleton _ _
  | p :: L, h, hk => by
    have hp := List.pairwise_cons.1 h
    rw [get_none] at hk
    simp only [ins]
    split
    · rename_i h1
      refine List.pairwise_cons.2 ⟨?_, h⟩
      intro x hx
      rcases List.mem_cons.1 hx with rfl | hx
      · exact h1
      · exact klt_trans h1 (hp.1 x hx)
    · rename_i h1
      have h1 : klt k p.1 = false := by simpa using h1
      refine List.pairwise_cons.2 ⟨?_, ins_rises hp.2 (get_none.2 fun x hx => hk x (List.mem_cons_of_mem _ hx))⟩
      intro x hx
      rcases mem_ins.1 hx with rfl | hx
      · rcases Bool.eq_false_or_eq_true (klt p.1 k) with h2 | h2
        · exact h2
        · exact absurd (klt_tri h2 h1) (hk p (List.mem_cons_self ..))
      · exact hp.1 x hx
theorem get_ins {k x : RK} {v : Int} : ∀ {L : Row}, get k L = none → get x (ins k v L) = if x = k then some v else get x L
  | [], _ => by
    simp only [ins, get]
    by_cases h : k = x
    · rw [if_pos h, if_pos h.symm]
    · rw [if_neg h, if_neg (Ne.symm h)]
  | p :: L, hk => by
    have hk' := get_none.1 hk
    have hkL : get k L = none := get_none.2 fun y hy => hk' y (List.mem_cons_of_mem _ hy)
    simp only [ins]
    split
    · simp only [get]
      by_cases h : k = x
      · rw [if_pos h, if_pos h.symm]
      · rw [if_neg h, if_neg (Ne.symm h)]
    · simp only [get]
      by_cases h : p.1 = x
      · rw [if_pos h, if_pos h, if_neg]
        rintro rfl
        exact hk' p (List.mem_cons_self ..) h
      · rw [if_neg h, if_neg h, get_ins hkL]

theorem del_append (k : RK) (A B : Row) : del k (A ++ B) = del k A ++ del k B := List.filter_append ..
theorem del_none {k : RK} {L : Row} (h : ∀ p ∈ L, p.1 ≠ k) : del k L = L := by
  unfold del
  rw [List.filter_eq_self]
  intro p hp
  simp [h p hp]
theorem del_rises {k : RK} {L : Row} (h : Rises L) : Rises (del k L) := h.filter _
theorem mem_del {k : RK} {x : RK × Int} {L : Row} : x ∈ del k L ↔ x ∈ L ∧ x.1 ≠ k := by simp [del]
theorem del_left {k : RK} {p : RK × Int} {A B : Row} (h : Rises (A ++ p :: B)) (hk : klt k p.1 = true) : del k (A ++ p :: B) = del k A ++ p :: B := by
  obtain ⟨_, h2, _, _⟩ := h.mid
  rw [del_append]
  congr 1
  refine del_none fun q hq => ?_
  rcases List.mem_cons.1 hq with rfl | hq
  · exact (klt_ne hk).symm
  · exact (klt_ne (klt_trans hk (h2 q hq))).symm
theorem del_right {k : RK} {p : RK × Int} {A B : Row} (h : Rises (A ++ p :: B)) (hk : klt p.1 k = true) : del k (A ++ p :: B) = A ++ p :: del k B := by
  obtain ⟨h1, _, _, _⟩ := h.mid
  rw [del_append, del_none fun q hq => (klt_ne (klt_trans (h1 q hq) hk))]
  congr 1
  show List.filter _ (p :: B) = _
  rw [List.filter_cons, if_pos]
  · rfl
  · simp [klt_ne hk]
theorem del_here {k : RK} {v : Int} {A B : Row} (h : Rises (A ++ (k, v) :: B)) : del k (A ++ (k, v) :: B) = A ++ B := by
  obtain ⟨h1, h2, _, _⟩ := h.mid
  rw [del_append, del_none fun q hq => klt_ne (h1 q hq)]
  congr 1
  show List.filter _ ((k, v) :: B) = _
  rw [List.filter_cons, if_neg (by simp)]
  exact del_none fun q hq => (klt_ne (h2 q hq)).symm
theorem get_del {k x : RK} : ∀ {L : Row}, get x (del k L) = if x = k then none else get x L
  | [] => by simp [del, get]
  | p :: L => by
    have ih := get_del (k := k) (x := x) (L := L)
    by_cases h : p.1 = k
    · have e : del k (p :: L) = del k L := by simp [del, h]
      rw [e, ih]
      by_cases h2 : x = k
      · rw [if_pos h2, if_pos h2]
      · rw [if_neg h2, if_neg h2]
        simp only [get]
        rw [if_neg (by rw [h]; exact Ne.symm h2)]
    · have e : del k (p :: L) = p :: del k L := by simp [del, h]
      rw [e]
      simp only [get, ih]
      by_cases h2 : p.1 = x
      · rw [if_pos h2, if_pos h2, if_neg (by rw [← h2]; exact h)]
      · rw [if_neg h2, if_neg h2]
theorem get_append {k : RK} {A B : Row} : get k (A ++ B) = match get k A with | some v => some v | none => get k B := by
  induction A with
  | nil => simp [get]
  | cons p A ih =>
    simp only [List.cons_append, get]
    split
    · rfl
    · exact ih
theorem get_mem {k : RK} {v : Int} : ∀ {L : Row}, get k L = some v → (k, v) ∈ L
  | [], h => by simp [get] at h
  | p :: L, h => by
    simp only [get] at h
    split at h
    · rename_i e
      injection h with h
      subst e; subst h
      exact List.mem_cons_self ..
    · exact List.mem_cons_of_mem _ (get_mem h)
theorem get_of_mem {k : RK} {v : Int} : ∀ {L : Row}, Rises L → (k, v) ∈ L → get k L = some v
  | [], _, h => by cases h
  | p :: L, hr, h => by
    have hp := List.pairwise_cons.1 hr
    simp only [get]
    rcases List.mem_cons.1 h with rfl | h
    · rw [if_pos rfl]
    · rw [if_neg (klt_ne (hp.1 _ h)), get_of_mem hp.2 h]
theorem del_length {k : RK} {v : Int} {L : Row} (hr : Rises L) (h : get k L = some v) : (del k L).length + 1 = L.length := by
  have hm := get_mem h
  obtain ⟨A, B, rfl⟩ := List.append_of_mem hm
  rw [del_here hr]
  simp; omega
/-- Taken out just as it was put in. -/
theorem del_ins {k : RK} {v : Int} {L : Row} (h : get k L = none) : del k (ins k v L) = L := by
  induction L with
  | nil => simp [ins, del]
  | cons p L ih =>
    have h' := get_none.1 h
    have hL : get k L = none := get_none.2 fun y hy => h' y (List.mem_cons_of_mem _ hy)
    simp only [ins]
    split
    · have : del k ((k, v) :: p :: L) = del k (p :: L) := by simp [del]
      rw [this]
      exact del_none h'
    · have : del k (p :: ins k v L) = p :: del k (ins k v L) := by simp [del, h' p (List.mem_cons_self ..)]
      rw [this, ih hL]

/-! ### Summaries -/
section
variable {α : Type} (of : RK → Int → α) (join : α → α → α)
def more (o : Option α) (a : α) : α := match o with | none => a | some s => join s a
/-- The summary of a row, behind what came ahead of it. -/
def sumFrom (o : Option α) : Row → Option α
  | [] => o
  | p :: L => sumFrom (some (more join o (of p.1 p.2))) L
variable {of join}
theorem sumFrom_append (o : Option α) : ∀ A B : Row, sumFrom of join o (A ++ B) = sumFrom of join (sumFrom of join o A) B
  | [], B => rfl
  | p :: A, B => sumFrom_append _ A B
theorem sumFrom_some (ha : ∀ a b c : α, join (join a b) c = join a (join b c)) : ∀ (L : Row) (s : α), sumFrom of join (some s) L = some (match sumFrom of join none L with | none => s | some x => join s x)
  | [], s => rfl
  | p :: L, s => by
    simp only [sumFrom, more]
    rw [sumFrom_some ha L, sumFrom_some ha L (of p.1 p.2)]
    cases sumFrom of join none L with
    | none => rfl
    | some x => simp only; rw [ha]
theorem sumFrom_nil {L : Row} : sumFrom of join none L = none ↔ L = [] := by
  cases L with
  | nil => simp [sumFrom]
  | cons p L =>
    simp only [sumFrom, reduceCtorEq, iff_false]
    generalize more join none (of p.1 p.2) = s
    induction L generalizing s with
    | nil => simp [sumFrom]
    | cons q L ih => exact ih _
namespace RB
/-- A well tree's summary is that of its items. -/
theorem W.sum (ha : ∀ a b c : α, join (join a b) c = join a (join b c)) : ∀ {t : RB α} {n : Nat}, W of join t n → sumFrom of join none t.items = match t with | nil => none | node _ _ _ _ _ s _ => some s
  | nil, _, _ => rfl
  | node b c l k v s r, n, h => by
    obtain ⟨_, _, hs, m, hl, hr, _⟩ := h
    have il := W.sum ha hl
    have ir := W.sum ha hr
    subst hs
    simp only [items]
    rw [sumFrom_append, il]
    cases l with
    | nil =>
      simp only [sumFrom, more]
      rw [sumFrom_some ha, ir]
      cases r with
      | nil => rfl
      | node b2 c2 l2 k2 v2 s2 r2 => rfl
    | node b1 c1 l1 k1 v1 s1 r1 =>
      simp only [sumFrom, more]
      rw [sumFrom_some ha, ir]
      cases r with
      | nil => rfl
      | node b2 c2 l2 k2 v2 s2 r2 => rfl
end RB
end

end Go.Proofs.Ytjlnbpomncglcaa
