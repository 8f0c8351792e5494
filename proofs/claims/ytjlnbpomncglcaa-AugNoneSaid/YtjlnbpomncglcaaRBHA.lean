/-
  Red-black trees in memory (h); their small functions.
-/
import Derived.Test.YtjlnbpomncglcaaProg
import Derived.Test.YtjlnbpomncglcaaLib2
import Derived.Test.YtjlnbpomncglcaaRBList
import Derived.Test.YtjlnbpomncglcaaRBA
import Derived.Test.YtjlnbpomncglcaaRegionZ
namespace Go.Proofs.Ytjlnbpomncglcaa
set_option linter.unusedVariables false
set_option linter.unusedSimpArgs false
set_option maxRecDepth 100000
open Go.RowKit

/-- The tree's nodes lie in their blocks. -/
def RepH (w : World) : RB (Int × Int) → Prop
  | .nil => True
  | .node b c l k v s r => Blk w b 138 #[.int .u64 k.1, .int .i64 k.2, .int .u64 v, .int .u64 s.1, .int .i64 s.2, .bool c, ptrV l, ptrV r] ∧ RepH w l ∧ RepH w r
theorem RepH.fr {S : Nat → Prop} {w w' : World} (hf : Fr S w w') : ∀ {t : RB (Int × Int)}, RepH w t → (∀ b ∈ t.blocks, ¬ S b) → RepH w' t
  | .nil, _, _ => trivial
  | .node b c l k v s r, h, hn => ⟨h.1.fr hf (hn b (List.mem_cons_self ..)), RepH.fr hf h.2.1 (fun x hx => hn x (List.mem_cons_of_mem _ (List.mem_append.2 (Or.inl hx)))), RepH.fr hf h.2.2 (fun x hx => hn x (List.mem_cons_of_mem _ (List.mem_append.2 (Or.inr hx))))⟩
theorem RepH.lt {w : World} : ∀ {t : RB (Int × Int)}, RepH w t → ∀ b ∈ t.blocks, b < w.heap.size
  | .nil, _, x, hx => by cases hx
  | .node b c l k v s r, h, x, hx => by
    rcases List.mem_cons.1 hx with rfl | hx
    · exact h.1.lt
    · rcases List.mem_append.1 hx with hx | hx
      · exact RepH.lt h.2.1 x hx
      · exact RepH.lt h.2.2 x hx
theorem RepH.below {w w' : World} {t : RB (Int × Int)} (h : RepH w t) (hb : Below w.heap.size w w') : RepH w' t :=
  h.fr (S := fun k => w.heap.size ≤ k) (Fr.of_below hb) (fun b hx hs => by have := h.lt b hx; omega)
/-- The tree's own block: its functions. -/
def TreH (w : World) (T : Nat) : Prop := ∃ cs, Blk w T 135 cs ∧ cs[0]? = some (.func (.func 86) #[] #[]) ∧ cs[1]? = some (.func (.func 87) #[] #[])
theorem TreH.fr {S : Nat → Prop} {w w' : World} {T : Nat} (h : TreH w T) (hf : Fr S w w') (hn : ¬ S T) : TreH w' T := by
  obtain ⟨cs, h1, h2⟩ := h
  exact ⟨cs, h1.fr hf hn, h2⟩
theorem TreH.below {w w' : World} {T : Nat} (h : TreH w T) (hb : Below w.heap.size w w') : TreH w' T := by
  obtain ⟨cs, h1, h2⟩ := h
  exact ⟨cs, h1.next hb, h2⟩
theorem TreH.c0 {w : World} {T : Nat} (h : TreH w T) : w.cell? ⟨T, 0, none⟩ = some (.func (.func 86) #[] #[]) := by
  obtain ⟨cs, h1, h2, h3⟩ := h
  exact h1.get 0 h2
theorem TreH.c1 {w : World} {T : Nat} (h : TreH w T) : w.cell? ⟨T, 1, none⟩ = some (.func (.func 87) #[] #[]) := by
  obtain ⟨cs, h1, h2, h3⟩ := h
  exact h1.get 1 h3
theorem fn_neqH1 (g : Fn) (w : World) : (binOp .eql 126 (.func g #[] #[]) .nilFunc).run Try.prog w = .ok (.bool false) w := eql_fn 126 g Try.underlying126
theorem fn_neqH2 (g : Fn) (w : World) : (binOp .eql 127 (.func g #[] #[]) .nilFunc).run Try.prog w = .ok (.bool false) w := eql_fn 127 g Try.underlying127
theorem rh_none (T : Nat) (w : World) (hT : TreH w T) : Calls Try.prog 101 #[.pointer (some ⟨T, 0, none⟩)] w fun e w' => e = .returned (.bool false) ∧ w = w' := by
  have c0 := hT.c0
  have c1 := hT.c1
  have e1 := fn_neqH1 (.func 86)
  have e2 := fn_neqH2 (.func 87)
  clear hT
  go_enter Try.func101, Try.ntmps101
  go_wp2
  go_ret
  exact ⟨rfl, rfl⟩
theorem rh_is (t : RB (Int × Int)) (w : World) (h : RepH w t) :
    Calls Try.prog 109 #[ptrV t] w fun e w' => e = .returned (.bool t.red) ∧ w = w' := by
  cases t with
  | nil =>
    go_enter Try.func109, Try.ntmps109
    go_wp2
    go_ret
    exact ⟨rfl, rfl⟩
  | node b c l k v s r =>
    have h0 : w.cell? ⟨b, 5, none⟩ = some (.bool c) := h.1.get 5 rfl
    clear h
    go_enter Try.func109, Try.ntmps109
    go_wp2
    go_ret
    exact ⟨rfl, rfl⟩
/-- What one that is in holds; the lesser one of two. -/
def ofH (k : RK) (v : Int) : Int × Int := (v, k.2)
def ltH (a b : Int × Int) : Bool := decide (a.1 < b.1 ∨ (a.1 = b.1 ∧ a.2 < b.2))
theorem ltH_iff {a b : Int × Int} : ltH a b = true ↔ a.1 < b.1 ∨ (a.1 = b.1 ∧ a.2 < b.2) := by simp [ltH]
def minH (a b : Int × Int) : Int × Int := if ltH b a = true then b else a
theorem minH_assoc (a b c : Int × Int) : minH (minH a b) c = minH a (minH b c) := by
  unfold minH
  repeat' split
  all_goals first | rfl | (exfalso; simp only [ltH_iff] at *; omega)
theorem rh_join (a b : Int × Int) (w : World) :
    Calls Try.prog 87 #[(.agg #[.int .u64 a.1, .int .i64 a.2]), (.agg #[.int .u64 b.1, .int .i64 b.2])] w fun e w' => e = .returned (.agg #[.int .u64 (minH a b).1, .int .i64 (minH a b).2]) ∧ Below w.heap.size w w' := by
  obtain ⟨a1, a2⟩ := a
  obtain ⟨b1, b2⟩ := b
  rcases Int.lt_trichotomy a1 b1 with h | h | h
  · have e1 : minH (a1, a2) (b1, b2) = (a1, a2) := if_neg (by rw [ltH_iff]; simp only; omega)
    rw [e1]
    have d1 : decide (a1 < b1) = true := decide_eq_true h
    have d2 : (a1 == b1) = false := beq_eq_false_iff_ne.2 (by omega)
    clear e1 h
    go_enter Try.func87, Try.ntmps87
    go_wp2
    all_goals go_returns
    all_goals exact ⟨rfl, by go_grown⟩
  · subst h
    rcases Int.lt_trichotomy a2 b2 with h | h | h
    · have e1 : minH (a1, a2) (a1, b2) = (a1, a2) := if_neg (by rw [ltH_iff]; simp only; omega)
      rw [e1]
      have d1 : decide (a2 < b2) = true := decide_eq_true h
      have d2 : (a2 == b2) = false := beq_eq_false_iff_ne.2 (by omega)
      clear e1 h
      go_enter Try.func87, Try.ntmps87
      go_wp2
      all_goals go_returns
      all_goals exact ⟨rfl, by go_grown⟩
    · subst h
      have e1 : minH (a1, a2) (a1, a2) = (a1, a2) := if_neg (by rw [ltH_iff]; simp only; omega)
      rw [e1]
      clear e1
      go_enter Try.func87, Try.ntmps87
      go_wp2
      all_goals go_returns
      all_goals exact ⟨rfl, by go_grown⟩
    · have e1 : minH (a1, a2) (a1, b2) = (a1, b2) := by unfold minH; exact if_pos ((ltH_iff (a := (a1, b2)) (b := (a1, a2))).2 (Or.inr ⟨rfl, h⟩))
      rw [e1]
      have d1 : decide (a2 < b2) = false := decide_eq_false (by omega)
      have d2 : (a2 == b2) = false := beq_eq_false_iff_ne.2 (by omega)
      clear e1 h
      go_enter Try.func87, Try.ntmps87
      go_wp2
      all_goals go_returns
      all_goals exact ⟨rfl, by go_grown⟩
  · have e1 : minH (a1, a2) (b1, b2) = (b1, b2) := by unfold minH; exact if_pos (ltH_iff.2 (Or.inl h))
    rw [e1]
    have d1 : decide (a1 < b1) = false := decide_eq_false (by omega)
    have d2 : (a1 == b1) = false := beq_eq_false_iff_ne.2 (by omega)
    clear e1 h
    go_enter Try.func87, Try.ntmps87
    go_wp2
    all_goals go_returns
    all_goals exact ⟨rfl, by go_grown⟩
theorem rh_of (k : RK) (v : Int) (w : World) :
    Calls Try.prog 86 #[.agg #[.int .u64 k.1, .int .i64 k.2], .int .u64 v] w fun e w' => e = .returned (.agg #[.int .u64 (ofH k v).1, .int .i64 (ofH k v).2]) ∧ Below w.heap.size w w' := by
  go_enter Try.func86, Try.ntmps86
  go_wp2
  go_returns
  exact ⟨rfl, by go_grown⟩

end Go.Proofs.Ytjlnbpomncglcaa
