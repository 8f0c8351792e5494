/-
  Red-black trees that lean left: more on taking out; nothing of the program.
-/
import Derived.Test.YtjlnbpomncglcaaRBList
namespace Go.Proofs.Ytjlnbpomncglcaa
set_option linter.unusedVariables false
set_option linter.unusedSimpArgs false
namespace RB
variable {α : Type} {of : RK → Int → α} {join : α → α → α}
theorem W.nil_of {t : RB α} (h : W of join t 0) (hr : t.red = false) : t = nil := by
  cases t with
  | nil => rfl
  | node b c l k v s r => have := h.black_pos hr (by intro e; cases e); omega
/-- The first one: a red leaf. -/
theorem first_nil {b : Nat} {c : Bool} {k : RK} {v : Int} {s : α} {r : RB α} {n : Nat} (h : DropPreL of join n (node b c nil k v s r)) : c = true ∧ n = 0 ∧ r = nil := by
  obtain ⟨⟨b', c', l', k', v', s', r', m, e, hl, hr, hcase⟩, hrb⟩ := h
  injection e with e1 e2 e3 e4 e5 e6 e7
  subst e1 e2 e3 e4 e5 e6 e7
  obtain rfl : m = 0 := hl
  have hrb : r.red = false := hrb
  obtain rfl := W.nil_of hr hrb
  rcases hcase with ⟨h1, _, _, h4⟩ | ⟨_, h2, _, _⟩ | ⟨_, _, h3, _⟩
  · exact ⟨h1, h4, rfl⟩
  · cases h2
  · cases h3
theorem items_setR {t x y : RB α} (h : x.items = t.right.items) : (setR t x).items = t.items := by
  cases t with
  | nil => rfl
  | node b c l k v s r => simp only [setR, items]; rw [h]; rfl
theorem items_redLeft (t : RB α) : (redLeft of join t).items = t.items := by
  unfold redLeft
  split
  · rw [items_flip, items_rotL, items_setR (y := t) (items_rotR _), items_flip]
  · exact items_flip _
theorem items_redRight (t : RB α) : (redRight of join t).items = t.items := by
  unfold redRight
  split
  · rw [items_flip, items_rotR, items_flip]
  · exact items_flip _
theorem items_goL (t : RB α) : (goL of join t).items = t.items := by
  unfold goL
  split
  · exact items_redLeft _
  · rfl
theorem items_goR1 (t : RB α) : (goR1 of join t).items = t.items := by
  unfold goR1
  split
  · exact items_rotR _
  · rfl
theorem items_goR2 (t : RB α) : (goR2 of join t).items = t.items := by
  unfold goR2
  split
  · exact items_redRight _
  · rfl
theorem goL_right {t : RB α} {n : Nat} (h : DropPreL of join n t) (hl : t.left ≠ nil) (hc : (!t.left.red && !t.left.left.red) = true) : ∃ b c l k v s r, t.right = node b c l k v s r := by
  obtain ⟨⟨b, c, l, k, v, s, r, m, rfl, hlw, hrw, hcase⟩, hrb⟩ := h
  rw [Bool.and_eq_true, Bool.not_eq_true'] at hc
  have hm := hlw.black_pos hc.1 hl
  exact hrw.node_of hm
theorem blocks_left2 {b d : Nat} {c : Bool} {l l' r : RB α} {k : RK} {v : Int} {s : α} (hp : List.Perm l.blocks (d :: l'.blocks)) : List.Perm (node b c l k v s r).blocks (d :: (node b c l' k v s r).blocks) := by
  show List.Perm (b :: (l.blocks ++ r.blocks)) (d :: b :: (l'.blocks ++ r.blocks))
  exact ((hp.append_right r.blocks).cons b).trans (List.Perm.swap ..)
theorem blocks_right2 {b d : Nat} {c : Bool} {l r r' : RB α} {k k' : RK} {v v' : Int} {s : α} (hp : List.Perm r.blocks (d :: r'.blocks)) : List.Perm (node b c l k v s r).blocks (d :: (node b c l k' v' s r').blocks) := by
  show List.Perm (b :: (l.blocks ++ r.blocks)) (d :: b :: (l.blocks ++ r'.blocks))
  exact (((hp.append_left l.blocks).trans List.perm_middle).cons b).trans (List.Perm.swap ..)
/-- On the way to the right: behind both steps. -/
theorem right_step2 {t : RB α} {n : Nat} (h : DropPre of join n t) (hr : (goR1 of join t).right ≠ nil) :
    ∃ b c l k v s r n1, goR2 of join (goR1 of join t) = node b c l k v s r ∧ DropPre of join n1 r ∧ (r.right.red = false ∨ goR1 of join t = t ∧ ∃ b0 c0 l0 k0 v0 s0 r0 b2 c2 l2 v2 s2 r2, t = node b0 c0 l0 k0 v0 s0 r0 ∧ r = node b2 c2 l2 k0 v2 s2 r2) ∧ ∀ r' k' v', DropPost of join n1 r r' → DropPost of join n t (bal of join (node b c l k' v' s r')) := by
  obtain ⟨b, c, l, k, v, s, r, m, rfl, hlw, hrw, hcase⟩ := h
  rcases hcase with ⟨rfl, h1, h2, rfl⟩ | ⟨rfl, h1, h2, rfl⟩ | ⟨rfl, h1, h2, rfl⟩
  · -- a red node
    have e1 : goR1 of join (node b true l k v s r) = node b true l k v s r := by simp only [goR1, left_n, h1, Bool.false_eq_true, if_false]
    rw [e1] at hr ⊢
    have hr : r ≠ nil := hr
    by_cases h3 : r.left.red = true
    · refine ⟨b, true, l, k, v, s, r, n, ?_, (pre_left hrw h2 h3).1, Or.inl hrw.right_black, ?_⟩
      · simp only [goR2, right_n, h2, h3, Bool.not_true, Bool.and_false, Bool.false_eq_true, if_false]
      · rintro r' k' v' ⟨q1, q2⟩
        exact ⟨bal_red hlw q1 h1 (q2 h2), fun hh => by cases hh⟩
    · have h3 : r.left.red = false := by simpa using h3
      have hm := hrw.black_pos h2 hr
      obtain ⟨b1, l1, k1, v1, s1, r1, m1, rfl, a1, a2, a3, a4, rfl⟩ := hrw.black_parts h2 hm
      have h3 : l1.red = false := h3
      obtain ⟨b2, l2, k2, v2, s2, r2, m2, rfl, c1, c2, c3, c4, c5⟩ := hlw.black_parts h1 hm
      obtain rfl : m1 = m2 := by omega
      by_cases h4 : l2.red = true
      · obtain ⟨b3, l3, k3, v3, s3, r3, rfl, d1, d2, d3, d4, d5⟩ := c3.red_parts h4
        refine ⟨b2, true, node b3 false l3 k3 v3 s3 r3, k2, v2, tot of join (node b3 true l3 k3 v3 s3 r3) k2 v2 (node b true r2 k v (tot of join r2 k v (node b1 true l1 k1 v1 s1 r1)) (node b1 true l1 k1 v1 s1 r1)), node b false r2 k v (tot of join r2 k v (node b1 true l1 k1 v1 s1 r1)) (node b1 true l1 k1 v1 s1 r1), m1 + 1, ?_, ?_, Or.inr ⟨e1, b, true, _, k, v, s, _, _, _, _, _, _, _, rfl, rfl⟩, ?_⟩
        · simp only [goR2, redRight, left_n, right_n, red_n, h3, Bool.not_false, Bool.and_self, if_true, flip_n, flip1_n, rotR_n, Bool.not_true]
        · exact ⟨b, false, _, k, v, _, _, m1, rfl, c4, ⟨a1, fun _ => h3, a2, m1, a3, a4, by simp⟩, Or.inr (Or.inr ⟨rfl, c1, rfl, rfl⟩)⟩
        · rintro r' k' v' ⟨q1, q2⟩
          exact ⟨bal_red ⟨d2, by simp, d3, m1, d4, d5, by simp⟩ q1 rfl (q2 rfl), fun hh => by cases hh⟩
      · have h4 : l2.red = false := by simpa using h4
        refine ⟨b, false, node b2 true l2 k2 v2 s2 r2, k, v, s, node b1 true l1 k1 v1 s1 r1, m1, ?_, ?_, Or.inl a1, ?_⟩
        · simp only [goR2, redRight, left_n, right_n, red_n, h3, h4, Bool.not_false, Bool.and_self, if_true, flip_n, flip1_n, Bool.not_true, Bool.false_eq_true, if_false]
        · exact (pre_red (W.mk (c := true) a1 (fun _ => h3) a2 a3 a4 (by simp)) rfl).1
        · rintro r' k' v' ⟨q1, q2⟩
          exact ⟨(bal_black (W.mk (c := true) c1 (fun _ => h4) c2 c3 c4 (by simp)) q1).1, fun hh => by cases hh⟩
  · -- a black node, red to the left: turned right
    obtain ⟨b1, l1, k1, v1, s1, r1, rfl, a1, a2, a3, a4, a5⟩ := hlw.red_parts h1
    refine ⟨b1, false, l1, k1, v1, tot of join l1 k1 v1 (node b true r1 k v (tot of join r1 k v r) r), node b true r1 k v (tot of join r1 k v r) r, m, ?_, ?_, Or.inl h2, ?_⟩
    · simp only [goR1, goR2, left_n, right_n, red_n, rotR_n, if_true, Bool.not_true, Bool.false_and, Bool.false_eq_true, if_false]
    · exact (pre_red (W.mk (c := true) h2 (fun _ => a2) rfl a5 hrw (by simp)) rfl).1
    · rintro r' k' v' ⟨q1, q2⟩
      have := bal_black (b := b1) (k := k') (v := v') (s := tot of join l1 k1 v1 (node b true r1 k v (tot of join r1 k v r) r)) a4 q1
      exact ⟨this.1, fun _ => this.2 (Or.inl a1)⟩
  · -- a black node, red to the right
    refine ⟨b, false, l, k, v, s, r, m, ?_, (pre_red hrw h2).1, Or.inl hrw.right_black, ?_⟩
    · simp only [goR1, goR2, left_n, right_n, h1, h2, Bool.not_true, Bool.false_and, Bool.false_eq_true, if_false]
    · rintro r' k' v' ⟨q1, q2⟩
      have := bal_black (b := b) (k := k') (v := v') (s := s) hlw q1
      exact ⟨this.1, fun _ => this.2 (Or.inl h1)⟩


/-- A leaf. -/
theorem drop_leaf {t : RB α} {n : Nat} (h : DropPre of join n t) (hr : (goR1 of join t).right = nil) : ∃ b k v s, t = node b true nil k v s nil ∧ goR1 of join t = t ∧ n = 0 := by
  obtain ⟨b, c, l, k, v, s, r, m, rfl, hl, hrw, hcase⟩ := h
  rcases hcase with ⟨rfl, h1, h2, rfl⟩ | ⟨rfl, h1, h2, rfl⟩ | ⟨rfl, h1, h2, rfl⟩
  · have e1 : goR1 of join (node b true l k v s r) = node b true l k v s r := by simp only [goR1, left_n, h1, Bool.false_eq_true, if_false]
    rw [e1] at hr
    have hr : r = nil := hr
    subst hr
    obtain rfl : n = 0 := hrw
    obtain rfl := W.nil_of hl h1
    exact ⟨b, k, v, s, rfl, e1, rfl⟩
  · obtain ⟨b1, l1, k1, v1, s1, r1, rfl, _⟩ := hl.red_parts h1
    have : goR1 of join (node b false (node b1 true l1 k1 v1 s1 r1) k v s r) = rotR of join (node b false (node b1 true l1 k1 v1 s1 r1) k v s r) := rfl
    rw [this, rotR_n] at hr
    cases hr
  · have e1 : goR1 of join (node b false l k v s r) = node b false l k v s r := by simp only [goR1, left_n, h1, Bool.false_eq_true, if_false]
    rw [e1] at hr
    have hr : r = nil := hr
    subst hr
    cases h2
/-- Where the root's key goes. -/
theorem goL_root {b b' : Nat} {c c' : Bool} {l l' r r' : RB α} {k k' : RK} {v v' : Int} {s s' : α} (h : goL of join (node b c l k v s r) = node b' c' l' k' v' s' r') : k' = k ∨ (k, v) ∈ l'.items := by
  unfold goL at h
  split at h
  · unfold redLeft at h
    split at h
    · right
      rename_i hr
      cases r with
      | nil => cases hr
      | node b2 c2 l2 k2 v2 s2 r2 =>
        cases l2 with
        | nil => cases hr
        | node b3 c3 l3 k3 v3 s3 r3 =>
          rw [flip_n, right_n, flip1_n, rotR_n, setR_n, rotL_n, flip_n] at h
          injection h with h1 h2 h3
          rw [← h3, items_flip1]
          simp [items]
    · left
      rw [flip_n] at h
      injection h with h1 h2 h3 h4
      exact h4.symm
  · left
    injection h with h1 h2 h3 h4
    exact h4.symm
theorem goR1_root {b b' : Nat} {c c' : Bool} {l l' r r' : RB α} {k k' : RK} {v v' : Int} {s s' : α} (h : goR1 of join (node b c l k v s r) = node b' c' l' k' v' s' r') : k' = k ∨ (k, v) ∈ r'.items := by
  unfold goR1 at h
  split at h
  · right
    rename_i hr
    cases l with
    | nil => cases hr
    | node b2 c2 l2 k2 v2 s2 r2 =>
      rw [rotR_n] at h
      injection h with h1 h2 h3 h4 h5 h6 h7
      rw [← h7]
      simp [items]
  · left
    injection h with h1 h2 h3 h4
    exact h4.symm
theorem goR2_root {b b' : Nat} {c c' : Bool} {l l' r r' : RB α} {k k' : RK} {v v' : Int} {s s' : α} (h : goR2 of join (node b c l k v s r) = node b' c' l' k' v' s' r') : k' = k ∨ (k, v) ∈ r'.items := by
  unfold goR2 at h
  split at h
  · unfold redRight at h
    split at h
    · right
      rename_i hr
      cases l with
      | nil => cases hr
      | node b2 c2 l2 k2 v2 s2 r2 =>
        rw [flip_n, flip1_n, rotR_n, flip_n] at h
        injection h with h1 h2 h3 h4 h5 h6 h7
        rw [← h7, items_flip1]
        simp [items]
    · left
      rw [flip_n] at h
      injection h with h1 h2 h3 h4
      exact h4.symm
  · left
    injection h with h1 h2 h3 h4
    exact h4.symm
end RB
/-- Where a key is found. -/
theorem get_l {k : RK} {v : Int} {p : RK × Int} {A B : Row} (hR : Rises (A ++ p :: B)) (h : get k (A ++ p :: B) = some v) (hk : klt k p.1 = true) : get k A = some v := by
  have hm := get_mem h
  rcases List.mem_append.1 hm with hm | hm
  · exact get_of_mem hR.left hm
  · obtain ⟨_, h2, _, _⟩ := hR.mid
    exfalso
    rcases List.mem_cons.1 hm with e | hm
    · rw [← e] at hk
      rw [klt_irr] at hk
      cases hk
    · have := klt_trans hk (h2 _ hm)
      rw [klt_irr] at this
      cases this
theorem get_r {k : RK} {v : Int} {p : RK × Int} {A B : Row} (hR : Rises (A ++ p :: B)) (h : get k (A ++ p :: B) = some v) (hk : klt p.1 k = true) : get k B = some v := by
  have hm := get_mem h
  obtain ⟨h1, h2, _, h4⟩ := hR.mid
  rcases List.mem_append.1 hm with hm | hm
  · exfalso
    have := klt_trans hk (h1 _ hm)
    rw [klt_irr] at this
    cases this
  · rcases List.mem_cons.1 hm with e | hm
    · exfalso
      rw [← e] at hk
      rw [klt_irr] at hk
      cases hk
    · exact get_of_mem h4 hm
theorem get_m {k : RK} {v : Int} {p : RK × Int} {A B : Row} (hR : Rises (A ++ p :: B)) (h : get k (A ++ p :: B) = some v) (hk : p.1 = k) : p = (k, v) := by
  have hm := get_mem h
  obtain ⟨h1, h2, _, _⟩ := hR.mid
  rcases List.mem_append.1 hm with hm | hm
  · exfalso
    have := h1 _ hm
    rw [hk, klt_irr] at this
    cases this
  · rcases List.mem_cons.1 hm with e | hm
    · exact e.symm
    · exfalso
      have := h2 _ hm
      rw [hk, klt_irr] at this
      cases this
end Go.Proofs.Ytjlnbpomncglcaa
