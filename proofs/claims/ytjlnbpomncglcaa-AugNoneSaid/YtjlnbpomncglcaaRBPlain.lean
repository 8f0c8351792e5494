/-
  Red-black trees that lean left, with summaries: plain trees whose nodes bear the number of their block; nothing of the program.
-/
import Derived.Test.YtjlnbpomncglcaaLib
namespace Go.Proofs.Ytjlnbpomncglcaa
set_option linter.unusedVariables false
set_option linter.unusedSimpArgs false

/-- A key: a number and an id. -/
abbrev RK := Int × Int
def klt (a b : RK) : Bool := decide (a.1 < b.1) || (decide (a.1 = b.1) && decide (a.2 < b.2))
theorem klt_iff {a b : RK} : klt a b = true ↔ a.1 < b.1 ∨ (a.1 = b.1 ∧ a.2 < b.2) := by simp [klt]
theorem klt_not {a b : RK} : klt a b = false ↔ ¬ (a.1 < b.1 ∨ (a.1 = b.1 ∧ a.2 < b.2)) := by rw [← klt_iff]; simp
theorem klt_trans {a b c : RK} (h : klt a b = true) (k : klt b c = true) : klt a c = true := by rw [klt_iff] at *; omega
theorem klt_irr (a : RK) : klt a a = false := by rw [klt_not]; omega
theorem klt_asymm {a b : RK} (h : klt a b = true) : klt b a = false := by rw [klt_iff] at h; rw [klt_not]; omega
theorem klt_tri {a b : RK} (h : klt a b = false) (k : klt b a = false) : a = b := by
  rw [klt_not] at h k
  exact Prod.ext (by omega) (by omega)
theorem klt_ne {a b : RK} (h : klt a b = true) : a ≠ b := by rintro rfl; rw [klt_irr] at h; cases h
theorem klt_le_lt {a b c : RK} (h : klt b a = false) (k : klt b c = true) : klt a c = true ∨ True := Or.inr trivial
theorem klt_of_not {a b c : RK} (h : klt c b = false) (k : klt a b = true) : klt c a = false := by
  rw [klt_not] at h; rw [klt_iff] at k; rw [klt_not]; omega

inductive RB (α : Type) where
  | nil : RB α
  | node (b : Nat) (c : Bool) (l : RB α) (k : RK) (v : Int) (s : α) (r : RB α) : RB α

namespace RB
variable {α : Type}
def items : RB α → List (RK × Int)
  | nil => []
  | node _ _ l k v _ r => items l ++ (k, v) :: items r
def blocks : RB α → List Nat
  | nil => []
  | node b _ l _ _ _ r => b :: (blocks l ++ blocks r)
def red : RB α → Bool
  | nil => false
  | node _ c _ _ _ _ _ => c
def ptr : RB α → Option Nat
  | nil => none
  | node b _ _ _ _ _ _ => some b
def left : RB α → RB α
  | nil => nil
  | node _ _ l _ _ _ _ => l
def right : RB α → RB α
  | nil => nil
  | node _ _ _ _ _ _ r => r
def size : RB α → Nat
  | nil => 0
  | node _ _ l _ _ _ r => size l + size r + 1
def height : RB α → Nat
  | nil => 0
  | node _ _ l _ _ _ r => max (height l) (height r) + 1
def flip1 : RB α → RB α
  | nil => nil
  | node b c l k v s r => node b (!c) l k v s r
def flip : RB α → RB α
  | nil => nil
  | node b c l k v s r => node b (!c) (flip1 l) k v s (flip1 r)
def black : RB α → RB α
  | nil => nil
  | node b _ l k v s r => node b false l k v s r
variable (of : RK → Int → α) (join : α → α → α)
/-- The summary of a node and of what is below. -/
def tot (l : RB α) (k : RK) (v : Int) (r : RB α) : α :=
  match l, r with
  | nil, nil => of k v
  | node _ _ _ _ _ x _, nil => join x (of k v)
  | nil, node _ _ _ _ _ y _ => join (of k v) y
  | node _ _ _ _ _ x _, node _ _ _ _ _ y _ => join (join x (of k v)) y
def rotL : RB α → RB α
  | node b c l k v s (node b' c' l' k' v' s' r') => node b' c (node b true l k v (tot of join l k v l') l') k' v' (tot of join (node b true l k v (tot of join l k v l') l') k' v' r') r'
  | t => t
def rotR : RB α → RB α
  | node b c (node b' c' l' k' v' s' r') k v s r => node b' c l' k' v' (tot of join l' k' v' (node b true r' k v (tot of join r' k v r) r)) (node b true r' k v (tot of join r' k v r) r)
  | t => t
def resum : RB α → RB α
  | nil => nil
  | node b c l k v s r => node b c l k v (tot of join l k v r) r
def bal1 (t : RB α) : RB α := if t.right.red && !t.left.red then rotL of join t else t
def bal2 (t : RB α) : RB α := if t.left.red && t.left.left.red then rotR of join t else t
def bal3 (t : RB α) : RB α := if t.left.red && t.right.red then flip t else t
def bal (t : RB α) : RB α := resum of join (bal3 (bal2 of join (bal1 of join t)))
/-- A tree that is well, of so many black ones on each way down. -/
def W : RB α → Nat → Prop
  | nil, n => n = 0
  | node _ c l k v s r, n => r.red = false ∧ (c = true → l.red = false) ∧ s = tot of join l k v r ∧ ∃ m, W l m ∧ W r m ∧ n = m + (if c then 0 else 1)

section
variable {of join} {b b' : Nat} {c c' : Bool} {l l' r r' x : RB α} {k k' : RK} {v v' : Int} {s s' : α}
theorem left_n : (node b c l k v s r).left = l := rfl
theorem right_n : (node b c l k v s r).right = r := rfl
theorem red_n : (node b c l k v s r).red = c := rfl
theorem flip1_n : (node b c l k v s r).flip1 = node b (!c) l k v s r := rfl
theorem flip_n : (node b c l k v s r).flip = node b (!c) (flip1 l) k v s (flip1 r) := rfl
theorem resum_n : resum of join (node b c l k v s r) = node b c l k v (tot of join l k v r) r := rfl
theorem rotL_n : rotL of join (node b c l k v s (node b' c' l' k' v' s' r')) = node b' c (node b true l k v (tot of join l k v l') l') k' v' (tot of join (node b true l k v (tot of join l k v l') l') k' v' r') r' := rfl
theorem rotR_n : rotR of join (node b c (node b' c' l' k' v' s' r') k v s r) = node b' c l' k' v' (tot of join l' k' v' (node b true r' k v (tot of join r' k v r) r)) (node b true r' k v (tot of join r' k v r) r) := rfl
end
variable {of join}
theorem W.mk {b : Nat} {c : Bool} {l r : RB α} {k : RK} {v : Int} {s : α} {n m : Nat} (h1 : r.red = false) (h2 : c = true → l.red = false) (h3 : s = tot of join l k v r) (h4 : W of join l m) (h5 : W of join r m) (h6 : n = m + (if c then 0 else 1)) : W of join (node b c l k v s r) n := ⟨h1, h2, h3, m, h4, h5, h6⟩
theorem W.nil_iff {n : Nat} : W of join (nil : RB α) n ↔ n = 0 := Iff.rfl
theorem W.ne {t : RB α} {n : Nat} (h : W of join t (n + 1)) : t ≠ nil := by rintro rfl; exact absurd h (by show ¬ (n + 1 = 0); omega)
theorem W.black_pos {t : RB α} {n : Nat} (h : W of join t n) (hr : t.red = false) (hn : t ≠ nil) : 1 ≤ n := by
  cases t with
  | nil => exact absurd rfl hn
  | node b c l k v s r =>
    obtain ⟨_, _, _, m, _, _, e⟩ := h
    have : c = false := hr
    subst this
    simp at e
    omega
theorem W.node_of {t : RB α} {n : Nat} (h : W of join t n) (hn : 1 ≤ n) : ∃ b c l k v s r, t = node b c l k v s r := by
  cases t with
  | nil => have : n = 0 := h; omega
  | node b c l k v s r => exact ⟨b, c, l, k, v, s, r, rfl⟩

theorem items_rotL (t : RB α) : (rotL of join t).items = t.items := by
  unfold rotL
  split
  · simp [items]
  · rfl
theorem items_rotR (t : RB α) : (rotR of join t).items = t.items := by
  unfold rotR
  split
  · simp [items]
  · rfl
theorem items_flip1 (t : RB α) : (flip1 t).items = t.items := by cases t <;> rfl
theorem items_flip (t : RB α) : (flip t).items = t.items := by cases t <;> simp [flip, items, items_flip1]
theorem items_black (t : RB α) : (black t).items = t.items := by cases t <;> rfl
theorem items_resum (t : RB α) : (resum of join t).items = t.items := by cases t <;> rfl
theorem items_bal (t : RB α) : (bal of join t).items = t.items := by
  unfold bal bal3 bal2 bal1
  rw [items_resum]
  repeat' split
  all_goals simp only [items_flip, items_rotR, items_rotL]
theorem blocks_rotL (t : RB α) : List.Perm (rotL of join t).blocks t.blocks := by
  unfold rotL
  split
  · rename_i b c l k v s b' c' l' k' v' s' r'
    simp only [blocks]
    -- b' :: ((b :: (l ++ l')) ++ r')  ~  b :: (l ++ (b' :: (l' ++ r')))
    have h1 : List.Perm (l.blocks ++ (b' :: (l'.blocks ++ r'.blocks))) (b' :: (l.blocks ++ (l'.blocks ++ r'.blocks))) := List.perm_middle
    refine List.Perm.trans ?_ (h1.symm.cons b)
    refine List.Perm.trans ?_ (List.Perm.swap b b' _)
    simp [List.append_assoc]
  · exact List.Perm.refl _
theorem blocks_rotR (t : RB α) : List.Perm (rotR of join t).blocks t.blocks := by
  unfold rotR
  split
  · rename_i b c b' c' l' k' v' s' r' k v s r
    simp only [blocks]
    -- b' :: (l' ++ (b :: (r' ++ r)))  ~  b :: ((b' :: (l' ++ r')) ++ r)
    have h1 : List.Perm (l'.blocks ++ (b :: (r'.blocks ++ r.blocks))) (b :: (l'.blocks ++ (r'.blocks ++ r.blocks))) := List.perm_middle
    refine (h1.cons b').trans ?_
    refine (List.Perm.swap b b' _).trans ?_
    simp [List.append_assoc]
  · exact List.Perm.refl _
theorem blocks_flip1 (t : RB α) : (flip1 t).blocks = t.blocks := by cases t <;> rfl
theorem blocks_flip (t : RB α) : (flip t).blocks = t.blocks := by cases t <;> simp [flip, blocks, blocks_flip1]
theorem blocks_black (t : RB α) : (black t).blocks = t.blocks := by cases t <;> rfl
theorem blocks_resum (t : RB α) : (resum of join t).blocks = t.blocks := by cases t <;> rfl
theorem blocks_bal1 (t : RB α) : List.Perm (bal1 of join t).blocks t.blocks := by
  unfold bal1; split
  · exact blocks_rotL t
  · exact List.Perm.refl _
theorem blocks_bal2 (t : RB α) : List.Perm (bal2 of join t).blocks t.blocks := by
  unfold bal2; split
  · exact blocks_rotR t
  · exact List.Perm.refl _
theorem blocks_bal3 (t : RB α) : (bal3 t).blocks = t.blocks := by
  unfold bal3; split
  · exact blocks_flip t
  · rfl
theorem blocks_bal (t : RB α) : List.Perm (bal of join t).blocks t.blocks := by
  unfold bal
  rw [blocks_resum, blocks_bal3]
  exact (blocks_bal2 _).trans (blocks_bal1 _)
theorem size_blocks (t : RB α) : t.blocks.length = t.size := by
  induction t with
  | nil => rfl
  | node b c l k v s r ihl ihr => simp [blocks, size, ihl, ihr]
theorem size_items (t : RB α) : t.items.length = t.size := by
  induction t with
  | nil => rfl
  | node b c l k v s r ihl ihr => simp [items, size, ihl, ihr]; omega

/-! ### Putting in -/
/-- What comes out of putting in below a tree of so many black ones: well if its root was black; else red, and perhaps its left one too. -/
def PutPost (of : RK → Int → α) (join : α → α → α) (n : Nat) (t t' : RB α) : Prop :=
  (t.red = false → W of join t' n) ∧ (t.red = true → ∃ b l k v r, t' = node b true l k v (tot of join l k v r) r ∧ r.red = false ∧ W of join l n ∧ W of join r n)

theorem put_left {b : Nat} {c : Bool} {l l' r : RB α} {k : RK} {v : Int} {s : α} {n m : Nat} (hr : r.red = false) (hc : c = true → l.red = false) (hl : PutPost of join m l l') (hrw : W of join r m) (hn : n = m + (if c then 0 else 1)) :
    PutPost of join n (node b c l k v s r) (bal of join (node b c l' k v s r)) := by
  subst hn
  constructor
  · intro h0
    have : c = false := h0
    subst this
    by_cases h1 : l.red = true
    · obtain ⟨b1, l1, k1, v1, r1, rfl, x1, x2, x3⟩ := hl.2 h1
      by_cases h2 : l1.red = true
      · -- rotated right, then flipped
        cases l1 with
        | nil => cases h2
        | node b2 c2 l2 k2 v2 s2 r2 =>
          have : c2 = true := h2
          subst this
          obtain ⟨y1, y2, y3, m2, y4, y5, y6⟩ := x2
          simp only [if_true, Nat.add_zero] at y6
          subst y6
          simp only [bal, bal1, bal2, bal3, right_n, left_n, red_n, hr, rotR_n, flip_n, flip1_n, resum_n, Bool.false_and, Bool.and_self, Bool.false_eq_true, if_true, if_false, Bool.not_true, Bool.not_false]
          exact ⟨rfl, fun _ => rfl, rfl, m + 1, ⟨y1, by simp, y3, m, y4, y5, by simp⟩, ⟨hr, by simp, rfl, m, x3, hrw, by simp⟩, by simp⟩
      · have h2 : l1.red = false := by simpa using h2
        simp only [bal, bal1, bal2, bal3, right_n, left_n, red_n, hr, h2, resum_n, Bool.false_and, Bool.and_false, Bool.false_eq_true, if_false, Bool.true_and]
        exact ⟨hr, by simp, rfl, m, ⟨x1, fun _ => h2, rfl, m, x2, x3, by simp⟩, hrw, by simp⟩
    · have h1 : l.red = false := by simpa using h1
      have hw := hl.1 h1
      have e : bal of join (node b false l' k v s r) = node b false l' k v (tot of join l' k v r) r := by
        have h3 : (l'.red && l'.left.red) = false := by
          cases l' with
          | nil => rfl
          | node b2 c2 l2 k2 v2 s2 r2 => cases c2 with
            | false => rfl
            | true => exact hw.2.1 rfl
        simp only [bal, bal1, bal2, bal3, right_n, left_n, hr, resum_n, Bool.false_and, Bool.and_false, Bool.false_eq_true, if_false, h3]
      rw [e]
      exact ⟨hr, by simp, rfl, m, hw, hrw, by simp⟩
  · intro h0
    have : c = true := h0
    subst this
    have h1 := hc rfl
    have hw := hl.1 h1
    have h3 : (l'.red && l'.left.red) = false := by
      cases l' with
      | nil => rfl
      | node b2 c2 l2 k2 v2 s2 r2 => cases c2 with
        | false => rfl
        | true => exact hw.2.1 rfl
    have e : bal of join (node b true l' k v s r) = node b true l' k v (tot of join l' k v r) r := by
      simp only [bal, bal1, bal2, bal3, right_n, left_n, hr, resum_n, Bool.false_and, Bool.and_false, Bool.false_eq_true, if_false, h3]
    exact ⟨b, l', k, v, r, e, hr, by simpa using hw, by simpa using hrw⟩

theorem W.no_red_red {t : RB α} {n : Nat} (h : W of join t n) : (t.red && t.left.red) = false := by
  cases t with
  | nil => rfl
  | node b c l k v s r => cases c with
    | false => rfl
    | true => exact h.2.1 rfl
theorem W.right_black {t : RB α} {n : Nat} (h : W of join t n) : t.right.red = false := by
  cases t with
  | nil => rfl
  | node b c l k v s r => exact h.1
/-- A red one that is well: its parts. -/
theorem W.red_parts {t : RB α} {n : Nat} (h : W of join t n) (hr : t.red = true) : ∃ b l k v s r, t = node b true l k v s r ∧ l.red = false ∧ r.red = false ∧ s = tot of join l k v r ∧ W of join l n ∧ W of join r n := by
  cases t with
  | nil => cases hr
  | node b c l k v s r =>
    have : c = true := hr
    subst this
    obtain ⟨y1, y2, y3, m, y4, y5, y6⟩ := h
    simp only [if_true, Nat.add_zero] at y6
    subst y6
    exact ⟨b, l, k, v, s, r, rfl, y2 rfl, y1, y3, y4, y5⟩
/-- A black one that is well: its parts. -/
theorem W.black_parts {t : RB α} {n : Nat} (h : W of join t n) (hr : t.red = false) (hn : 1 ≤ n) : ∃ b l k v s r m, t = node b false l k v s r ∧ r.red = false ∧ s = tot of join l k v r ∧ W of join l m ∧ W of join r m ∧ n = m + 1 := by
  cases t with
  | nil => have : n = 0 := h; omega
  | node b c l k v s r =>
    have : c = false := hr
    subst this
    obtain ⟨y1, y2, y3, m, y4, y5, y6⟩ := h
    exact ⟨b, l, k, v, s, r, m, rfl, y1, y3, y4, y5, by simpa using y6⟩

/-- A black root whose right one may have turned red. -/
theorem bal_black {b : Nat} {l r : RB α} {k : RK} {v : Int} {s : α} {m : Nat} (hl : W of join l m) (hr : W of join r m) :
    W of join (bal of join (node b false l k v s r)) (m + 1) ∧ (l.red = false ∨ r.red = false → (bal of join (node b false l k v s r)).red = false) := by
  by_cases h1 : r.red = true
  · by_cases h2 : l.red = true
    · have h3 := hl.no_red_red
      rw [h2, Bool.true_and] at h3
      obtain ⟨b1, l1, k1, v1, s1, r1, rfl, a1, a2, a3, a4, a5⟩ := hl.red_parts h2
      obtain ⟨b2, l2, k2, v2, s2, r2, rfl, c1, c2, c3, c4, c5⟩ := hr.red_parts h1
      simp only [bal, bal1, bal2, bal3, right_n, left_n, red_n, a1, flip_n, flip1_n, resum_n, Bool.and_self, Bool.and_false, Bool.false_eq_true, if_true, if_false, Bool.not_true, Bool.not_false]
      refine ⟨⟨rfl, fun _ => rfl, rfl, m + 1, ⟨a2, by simp, a3, m, a4, a5, by simp⟩, ⟨c2, by simp, c3, m, c4, c5, by simp⟩, by simp⟩, ?_⟩
      simp
    · have h2 : l.red = false := by simpa using h2
      obtain ⟨b2, l2, k2, v2, s2, r2, rfl, c1, c2, c3, c4, c5⟩ := hr.red_parts h1
      simp only [bal, bal1, bal2, bal3, right_n, left_n, red_n, h2, c2, rotL_n, resum_n, Bool.and_self, Bool.and_false, Bool.false_eq_true, if_true, if_false, Bool.not_true, Bool.not_false]
      exact ⟨⟨c2, by simp, rfl, m, ⟨c1, fun _ => h2, rfl, m, hl, c4, by simp⟩, c5, by simp⟩, fun _ => trivial⟩
  · have h1 : r.red = false := by simpa using h1
    have h3 := hl.no_red_red
    have e : bal of join (node b false l k v s r) = node b false l k v (tot of join l k v r) r := by
      simp only [bal, bal1, bal2, bal3, right_n, left_n, h1, resum_n, Bool.false_and, Bool.and_false, Bool.false_eq_true, if_false, h3]
    rw [e]
    exact ⟨⟨h1, by simp, rfl, m, hl, hr, by simp⟩, fun _ => rfl⟩
/-- A red root between two black ones. -/
theorem bal_red {b : Nat} {l r : RB α} {k : RK} {v : Int} {s : α} {m : Nat} (hl : W of join l m) (hr : W of join r m) (hlb : l.red = false) (hrb : r.red = false) :
    W of join (bal of join (node b true l k v s r)) m := by
  have e : bal of join (node b true l k v s r) = node b true l k v (tot of join l k v r) r := by
    simp only [bal, bal1, bal2, bal3, right_n, left_n, hrb, hlb, resum_n, Bool.false_and, Bool.and_false, Bool.false_eq_true, if_false]
  rw [e]
  exact ⟨hrb, fun _ => hlb, rfl, m, hl, hr, by simp⟩

theorem put_right {b : Nat} {c : Bool} {l r r' : RB α} {k : RK} {v : Int} {s : α} {n m : Nat} (hr : r.red = false) (hc : c = true → l.red = false) (hlw : W of join l m) (hrp : PutPost of join m r r') (hn : n = m + (if c then 0 else 1)) :
    PutPost of join n (node b c l k v s r) (bal of join (node b c l k v s r')) := by
  subst hn
  have hw := hrp.1 hr
  constructor
  · intro h0
    have : c = false := h0
    subst this
    exact (bal_black hlw hw).1
  · intro h0
    have : c = true := h0
    subst this
    have h2 := hc rfl
    by_cases h1 : r'.red = true
    · obtain ⟨b2, l2, k2, v2, s2, r2, rfl, c1, c2, c3, c4, c5⟩ := hw.red_parts h1
      refine ⟨b2, node b true l k v (tot of join l k v l2) l2, k2, v2, r2, ?_, c2, ⟨c1, fun _ => h2, rfl, m, hlw, c4, by simp⟩, c5⟩
      simp only [bal, bal1, bal2, bal3, right_n, left_n, red_n, h2, c2, rotL_n, resum_n, Bool.and_self, Bool.and_false, Bool.false_eq_true, if_true, if_false, Bool.not_true, Bool.not_false]
    · have h1 : r'.red = false := by simpa using h1
      refine ⟨b, l, k, v, r', ?_, h1, hlw, hw⟩
      simp only [bal, bal1, bal2, bal3, right_n, left_n, h1, h2, resum_n, Bool.false_and, Bool.and_false, Bool.false_eq_true, if_false]
theorem put_nil {b : Nat} {k : RK} {v : Int} : PutPost of join 0 (nil : RB α) (node b true nil k v (of k v) nil) :=
  ⟨fun _ => ⟨rfl, fun _ => rfl, rfl, 0, rfl, rfl, rfl⟩, fun h => by cases h⟩
/-- Behind the last step the root is black. -/
theorem put_root {n : Nat} {t t' : RB α} (h : PutPost of join n t t') (ht : t.red = false) : ∃ n', W of join (black t') n' := by
  have hw := h.1 ht
  cases t' with
  | nil => exact ⟨n, hw⟩
  | node b c l k v s r =>
    obtain ⟨y1, y2, y3, m, y4, y5, y6⟩ := hw
    exact ⟨m + 1, y1, by simp, y3, m, y4, y5, by simp⟩

/-! ### Taking out -/
/-- Where something may be taken out: a red node, or a black one of which just one of both below is red. -/
def DropPre (of : RK → Int → α) (join : α → α → α) (n : Nat) (t : RB α) : Prop :=
  ∃ b c l k v s r m, t = node b c l k v s r ∧ W of join l m ∧ W of join r m ∧
    ((c = true ∧ l.red = false ∧ r.red = false ∧ n = m) ∨ (c = false ∧ l.red = true ∧ r.red = false ∧ n = m + 1) ∨ (c = false ∧ l.red = false ∧ r.red = true ∧ n = m + 1))
/-- The same, and the right one is black. -/
def DropPreL (of : RK → Int → α) (join : α → α → α) (n : Nat) (t : RB α) : Prop := DropPre of join n t ∧ t.right.red = false
def DropPost (of : RK → Int → α) (join : α → α → α) (n : Nat) (t t' : RB α) : Prop := W of join t' n ∧ (t.red = false → t'.red = false)

theorem pre_red {t : RB α} {n : Nat} (h : W of join t n) (hr : t.red = true) : DropPreL of join n t := by
  obtain ⟨b, l, k, v, s, r, rfl, a1, a2, a3, a4, a5⟩ := h.red_parts hr
  exact ⟨⟨b, true, l, k, v, s, r, n, rfl, a4, a5, Or.inl ⟨rfl, a1, a2, rfl⟩⟩, a2⟩
theorem pre_left {t : RB α} {n : Nat} (h : W of join t n) (hr : t.red = false) (hl : t.left.red = true) : DropPreL of join n t := by
  cases t with
  | nil => cases hl
  | node b c l k v s r =>
    have : c = false := hr
    subst this
    obtain ⟨y1, y2, y3, m, y4, y5, y6⟩ := h
    exact ⟨⟨b, false, l, k, v, s, r, m, rfl, y4, y5, Or.inr (Or.inl ⟨rfl, hl, y1, by simpa using y6⟩)⟩, y1⟩

variable (of join)
def setL (t x : RB α) : RB α :=
  match t with
  | nil => nil
  | node b c _ k v s r => node b c x k v s r
def setR (t x : RB α) : RB α :=
  match t with
  | nil => nil
  | node b c l k v s _ => node b c l k v s x
def redLeft (t : RB α) : RB α :=
  if t.right.left.red then flip (rotL of join (setR (flip t) (rotR of join (flip t).right))) else flip t
def redRight (t : RB α) : RB α :=
  if t.left.left.red then flip (rotR of join (flip t)) else flip t
/-- The first step on the way to the left one, and on the way to the right one. -/
def goL (t : RB α) : RB α := if !t.left.red && !t.left.left.red then redLeft of join t else t
def goR1 (t : RB α) : RB α := if t.left.red then rotR of join t else t
def goR2 (t : RB α) : RB α := if !t.right.red && !t.right.left.red then redRight of join t else t
theorem setR_n {b : Nat} {c : Bool} {l r x : RB α} {k : RK} {v : Int} {s : α} : setR (node b c l k v s r) x = node b c l k v s x := rfl
variable {of join}

theorem left_flip_left (t : RB α) : (flip t).left.left = t.left.left := by cases t with | nil => rfl | node b c l k v s r => cases l <;> rfl
theorem left_flip_right (t : RB α) : (flip t).right.left = t.right.left := by cases t with | nil => rfl | node b c l k v s r => cases r <;> rfl

/-- On the way to the left. -/
theorem left_step {t : RB α} {n : Nat} (h : DropPreL of join n t) (hl : t.left ≠ nil) :
    ∃ b c l k v s r n1, goL of join t = node b c l k v s r ∧ DropPreL of join n1 l ∧ ∀ l', DropPost of join n1 l l' → DropPost of join n t (bal of join (node b c l' k v s r)) := by
  obtain ⟨⟨b, c, l, k, v, s, r, m, rfl, hlw, hrw, hcase⟩, hrb⟩ := h
  have hrb : r.red = false := hrb
  have hl : l ≠ nil := hl
  rcases hcase with ⟨rfl, h1, -, rfl⟩ | ⟨rfl, h1, -, rfl⟩ | ⟨rfl, h1, h2, rfl⟩
  · -- a red node
    by_cases h3 : l.left.red = true
    · refine ⟨b, true, l, k, v, s, r, n, ?_, pre_left hlw h1 h3, ?_⟩
      · simp only [goL, left_n, h1, h3, Bool.not_true, Bool.and_false, Bool.false_eq_true, if_false]
      · rintro l' ⟨q1, q2⟩
        exact ⟨bal_red q1 hrw (q2 h1) hrb, fun hh => by cases hh⟩
    · have h3 : l.left.red = false := by simpa using h3
      have hm := hlw.black_pos h1 hl
      obtain ⟨b1, l1, k1, v1, s1, r1, m1, rfl, a1, a2, a3, a4, rfl⟩ := hlw.black_parts h1 hm
      have h3 : l1.red = false := h3
      obtain ⟨b2, l2, k2, v2, s2, r2, m2, rfl, c1, c2, c3, c4, c5⟩ := hrw.black_parts hrb hm
      obtain rfl : m1 = m2 := by omega
      by_cases h4 : l2.red = true
      · obtain ⟨b3, l3, k3, v3, s3, r3, rfl, d1, d2, d3, d4, d5⟩ := c3.red_parts h4
        refine ⟨b3, true, node b false (node b1 true l1 k1 v1 s1 r1) k v (tot of join (node b1 true l1 k1 v1 s1 r1) k v l3) l3, k3, v3, tot of join (node b true (node b1 true l1 k1 v1 s1 r1) k v (tot of join (node b1 true l1 k1 v1 s1 r1) k v l3) l3) k3 v3 (node b2 true r3 k2 v2 (tot of join r3 k2 v2 r2) r2), node b2 false r3 k2 v2 (tot of join r3 k2 v2 r2) r2, m1 + 1, ?_, ?_, ?_⟩
        · simp only [goL, redLeft, left_n, right_n, red_n, h3, Bool.not_false, Bool.and_self, if_true, flip_n, flip1_n, rotR_n, setR_n, rotL_n, Bool.not_true]
        · exact ⟨⟨b, false, _, k, v, _, _, m1, rfl, ⟨a1, fun _ => h3, a2, m1, a3, a4, by simp⟩, d4, Or.inr (Or.inl ⟨rfl, rfl, d1, rfl⟩)⟩, d1⟩
        · rintro l' ⟨q1, q2⟩
          exact ⟨bal_red q1 ⟨c1, by simp, rfl, m1, d5, c4, by simp⟩ (q2 rfl) rfl, fun hh => by cases hh⟩
      · have h4 : l2.red = false := by simpa using h4
        refine ⟨b, false, node b1 true l1 k1 v1 s1 r1, k, v, s, node b2 true l2 k2 v2 s2 r2, m1, ?_, ?_, ?_⟩
        · simp only [goL, redLeft, left_n, right_n, red_n, h3, h4, Bool.not_false, Bool.and_self, if_true, flip_n, flip1_n, Bool.not_true, Bool.false_eq_true, if_false]
        · exact pre_red (W.mk (c := true) a1 (fun _ => h3) a2 a3 a4 (by simp)) rfl
        · rintro l' ⟨q1, q2⟩
          exact ⟨(bal_black q1 (W.mk (c := true) c1 (fun _ => h4) c2 c3 c4 (by simp))).1, fun hh => by cases hh⟩
  · -- a black node, red to the left
    refine ⟨b, false, l, k, v, s, r, m, ?_, pre_red hlw h1, ?_⟩
    · simp only [goL, left_n, h1, Bool.not_true, Bool.false_and, Bool.false_eq_true, if_false]
    · rintro l' ⟨q1, q2⟩
      have := bal_black (b := b) (k := k) (v := v) (s := s) q1 hrw
      exact ⟨this.1, fun _ => this.2 (Or.inr hrb)⟩
  · have hrb' : r.red = false := hrb
    rw [hrb'] at h2; cases h2

/-- On the way to the right: behind both steps. -/
theorem right_step {t : RB α} {n : Nat} (h : DropPre of join n t) (hr : (goR1 of join t).right ≠ nil) :
    ∃ b c l k v s r n1, goR2 of join (goR1 of join t) = node b c l k v s r ∧ DropPre of join n1 r ∧ ∀ r' k' v', DropPost of join n1 r r' → DropPost of join n t (bal of join (node b c l k' v' s r')) := by
  obtain ⟨b, c, l, k, v, s, r, m, rfl, hlw, hrw, hcase⟩ := h
  rcases hcase with ⟨rfl, h1, h2, rfl⟩ | ⟨rfl, h1, h2, rfl⟩ | ⟨rfl, h1, h2, rfl⟩
  · -- a red node
    have e1 : goR1 of join (node b true l k v s r) = node b true l k v s r := by simp only [goR1, left_n, h1, Bool.false_eq_true, if_false]
    rw [e1] at hr ⊢
    have hr : r ≠ nil := hr
    by_cases h3 : r.left.red = true
    · refine ⟨b, true, l, k, v, s, r, n, ?_, (pre_left hrw h2 h3).1, ?_⟩
      · simp only [goR2, right_n, h2, h3, Bool.not_true, Bool.and_false, Bool.false_eq_true, if_false]
      · rintro r' k' v' ⟨q1, q2⟩
        exact ⟨bal_red hlw q1 h1 (q2 h2), fun hh => by cases hh⟩
    · have h3 : r.left.red = false := by simpa using h3
      have hm := hrw.black_pos h2 hr
      obtain ⟨b1, l1, k1, v1, s1, r1, m1, rfl, a1, a2, a3, a4, rfl⟩ := hrw.black_parts h2 hm
      have h3 : l1.red = false := h3
      obtain ⟨b2, l2, k2, v2, s2, r2, m2, rfl, c1, c2, c3, c4, c5⟩ := hlw.black_parts h1 hm
      obtain rfl : m1 = m2 := by omega
      by_cases h4 : l2.red = true
      · obtain ⟨b3, l3, k3, v3, s3, r3, rfl, d1, d2, d3, d4, d5⟩ := c3.red_parts h4
        refine ⟨b2, true, node b3 false l3 k3 v3 s3 r3, k2, v2, tot of join (node b3 true l3 k3 v3 s3 r3) k2 v2 (node b true r2 k v (tot of join r2 k v (node b1 true l1 k1 v1 s1 r1)) (node b1 true l1 k1 v1 s1 r1)), node b false r2 k v (tot of join r2 k v (node b1 true l1 k1 v1 s1 r1)) (node b1 true l1 k1 v1 s1 r1), m1 + 1, ?_, ?_, ?_⟩
        · simp only [goR2, redRight, left_n, right_n, red_n, h3, Bool.not_false, Bool.and_self, if_true, flip_n, flip1_n, rotR_n, Bool.not_true]
        · exact ⟨b, false, _, k, v, _, _, m1, rfl, c4, ⟨a1, fun _ => h3, a2, m1, a3, a4, by simp⟩, Or.inr (Or.inr ⟨rfl, c1, rfl, rfl⟩)⟩
        · rintro r' k' v' ⟨q1, q2⟩
          exact ⟨bal_red ⟨d2, by simp, d3, m1, d4, d5, by simp⟩ q1 rfl (q2 rfl), fun hh => by cases hh⟩
      · have h4 : l2.red = false := by simpa using h4
        refine ⟨b, false, node b2 true l2 k2 v2 s2 r2, k, v, s, node b1 true l1 k1 v1 s1 r1, m1, ?_, ?_, ?_⟩
        · simp only [goR2, redRight, left_n, right_n, red_n, h3, h4, Bool.not_false, Bool.and_self, if_true, flip_n, flip1_n, Bool.not_true, Bool.false_eq_true, if_false]
        · exact (pre_red (W.mk (c := true) a1 (fun _ => h3) a2 a3 a4 (by simp)) rfl).1
        · rintro r' k' v' ⟨q1, q2⟩
          exact ⟨(bal_black (W.mk (c := true) c1 (fun _ => h4) c2 c3 c4 (by simp)) q1).1, fun hh => by cases hh⟩
  · -- a black node, red to the left: turned right
    obtain ⟨b1, l1, k1, v1, s1, r1, rfl, a1, a2, a3, a4, a5⟩ := hlw.red_parts h1
    refine ⟨b1, false, l1, k1, v1, tot of join l1 k1 v1 (node b true r1 k v (tot of join r1 k v r) r), node b true r1 k v (tot of join r1 k v r) r, m, ?_, ?_, ?_⟩
    · simp only [goR1, goR2, left_n, right_n, red_n, rotR_n, if_true, Bool.not_true, Bool.false_and, Bool.false_eq_true, if_false]
    · exact (pre_red (W.mk (c := true) h2 (fun _ => a2) rfl a5 hrw (by simp)) rfl).1
    · rintro r' k' v' ⟨q1, q2⟩
      have := bal_black (b := b1) (k := k') (v := v') (s := tot of join l1 k1 v1 (node b true r1 k v (tot of join r1 k v r) r)) a4 q1
      exact ⟨this.1, fun _ => this.2 (Or.inl a1)⟩
  · -- a black node, red to the right
    refine ⟨b, false, l, k, v, s, r, m, ?_, (pre_red hrw h2).1, ?_⟩
    · simp only [goR1, goR2, left_n, right_n, h1, h2, Bool.not_true, Bool.false_and, Bool.false_eq_true, if_false]
    · rintro r' k' v' ⟨q1, q2⟩
      have := bal_black (b := b) (k := k') (v := v') (s := s) hlw q1
      exact ⟨this.1, fun _ => this.2 (Or.inl h1)⟩

end RB
end Go.Proofs.Ytjlnbpomncglcaa
