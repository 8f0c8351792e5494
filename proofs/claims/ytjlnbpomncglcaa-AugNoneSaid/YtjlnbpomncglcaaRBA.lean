/-
  Red-black trees in memory; their small functions.
-/
import Derived.Test.YtjlnbpomncglcaaProg
import Derived.Test.YtjlnbpomncglcaaLib2
import Derived.Test.YtjlnbpomncglcaaRBList
import Derived.Test.YtjlnbpomncglcaaRegionZ
namespace Go.Proofs.Ytjlnbpomncglcaa
set_option linter.unusedVariables false
set_option linter.unusedSimpArgs false
set_option maxRecDepth 100000
open Go.RowKit

section
variable {P : Program} {w : World} {ps rs : Array TypeId} {v : Bool}
/-- A function is not nil. -/
theorem equalIn_fn (d : Nat) (t : TypeId) (g : Fn) (h : P.underlying t = some (.func ps rs v)) : (Op.equalIn (d + 1) t (.func g #[] #[]) .nilFunc).run P w = .ok false w := by simp [Op.equalIn, run_underlying h]
theorem equal_fn (t : TypeId) (g : Fn) (h : P.underlying t = some (.func ps rs v)) : (Op.equal t (.func g #[] #[]) .nilFunc).run P w = .ok false w := equalIn_fn 9999 t g h
theorem eql_fn (t : TypeId) (g : Fn) (h : P.underlying t = some (.func ps rs v)) : (binOp .eql t (.func g #[] #[]) .nilFunc).run P w = .ok (.bool false) w := by
  simp only [binOp]
  simp [equal_fn t g h]
end
/-- A pointer to a tree's root. -/
def ptrV {α : Type} : RB α → Value
  | .nil => .pointer none
  | .node b _ _ _ _ _ _ => .pointer (some ⟨b, 0, none⟩)
@[go_sem] theorem ptrV_node {α : Type} (b : Nat) (c : Bool) (l : RB α) (k : RK) (v : Int) (s : α) (r : RB α) : ptrV (.node b c l k v s r) = .pointer (some ⟨b, 0, none⟩) := rfl
@[go_sem] theorem ptrV_nil {α : Type} : ptrV (.nil : RB α) = .pointer none := rfl
def ptrO {α : Type} : RB α → Option Addr
  | .nil => none
  | .node b _ _ _ _ _ _ => some ⟨b, 0, none⟩
theorem ptrV_eq {α : Type} (t : RB α) : ptrV t = .pointer (ptrO t) := by cases t <;> rfl
/-- The tree's nodes lie in their blocks. -/
def Rep (w : World) : RB Int → Prop
  | .nil => True
  | .node b c l k v s r => Blk w b 106 #[.int .u64 k.1, .int .i64 k.2, .int .u64 v, .int .u64 s, .bool c, ptrV l, ptrV r] ∧ Rep w l ∧ Rep w r
theorem Rep.fr {S : Nat → Prop} {w w' : World} (hf : Fr S w w') : ∀ {t : RB Int}, Rep w t → (∀ b ∈ t.blocks, ¬ S b) → Rep w' t
  | .nil, _, _ => trivial
  | .node b c l k v s r, h, hn => ⟨h.1.fr hf (hn b (List.mem_cons_self ..)), h.2.1.fr hf (fun x hx => hn x (List.mem_cons_of_mem _ (List.mem_append.2 (Or.inl hx)))), h.2.2.fr hf (fun x hx => hn x (List.mem_cons_of_mem _ (List.mem_append.2 (Or.inr hx))))⟩
theorem Rep.lt {w : World} : ∀ {t : RB Int}, Rep w t → ∀ b ∈ t.blocks, b < w.heap.size
  | .nil, _, x, hx => by cases hx
  | .node b c l k v s r, h, x, hx => by
    rcases List.mem_cons.1 hx with rfl | hx
    · exact h.1.lt
    · rcases List.mem_append.1 hx with hx | hx
      · exact h.2.1.lt x hx
      · exact h.2.2.lt x hx
theorem Rep.below {w w' : World} {t : RB Int} (h : Rep w t) (hb : Below w.heap.size w w') : Rep w' t :=
  h.fr (S := fun k => w.heap.size ≤ k) (Fr.of_below hb) (fun b hx hs => by have := h.lt b hx; omega)

/-- The summary of one, and of two together. -/
def ofV (k : RK) (v : Int) : Int := v
def minV (a b : Int) : Int := if b < a then b else a

theorem rb_value (k1 k2 v : Int) (w : World) :
    Calls Try.prog 42 #[.agg #[.int .u64 k1, .int .i64 k2], .int .u64 v] w fun e w' => e = .returned (.int .u64 v) ∧ Below w.heap.size w w' := by
  go_enter Try.func42, Try.ntmps42
  go_wp2
  go_ret
  exact ⟨rfl, by go_grown⟩
theorem rb_least (a b : Int) (w : World) :
    Calls Try.prog 41 #[.int .u64 a, .int .u64 b] w fun e w' => e = .returned (.int .u64 (minV a b)) ∧ w = w' := by
  by_cases h : b < a
  · have e1 : minV a b = b := if_pos h
    rw [e1]
    clear e1
    have h2 : decide (b < a) = true := decide_eq_true h
    clear h
    go_enter Try.func41, Try.ntmps41
    go_wp2
    all_goals go_ret
    all_goals exact ⟨by first | (simp; done) | (simp; have := of_decide_eq_true h2; omega), rfl⟩
  · have e1 : minV a b = a := if_neg h
    rw [e1]
    clear e1
    have h2 : decide (b < a) = false := decide_eq_false h
    clear h
    go_enter Try.func41, Try.ntmps41
    go_wp2
    all_goals go_ret
    all_goals exact ⟨by first | (simp; done) | (simp; have := of_decide_eq_false h2; omega), rfl⟩
theorem rb_less (a1 a2 b1 b2 : Int) (w : World) :
    Calls Try.prog 38 #[.agg #[.int .u64 a1, .int .i64 a2], .agg #[.int .u64 b1, .int .i64 b2]] w fun e w' => e = .returned (.bool (klt (a1, a2) (b1, b2))) ∧ Below w.heap.size w w' := by
  by_cases h : a1 < b1
  · have e1 : klt (a1, a2) (b1, b2) = true := klt_iff.2 (Or.inl h)
    rw [e1]
    clear e1
    have h2 : decide (a1 < b1) = true := decide_eq_true h
    clear h
    go_enter Try.func38, Try.ntmps38
    go_wp2
    go_ret
    exact ⟨rfl, by go_grown⟩
  · have h2 : decide (a1 < b1) = false := decide_eq_false h
    by_cases h3 : a1 = b1
    · subst h3
      by_cases h4 : a2 < b2
      · have e1 : klt (a1, a2) (a1, b2) = true := klt_iff.2 (Or.inr ⟨rfl, h4⟩)
        rw [e1]
        clear e1 h
        have h5 : decide (a2 < b2) = true := decide_eq_true h4
        clear h4
        go_enter Try.func38, Try.ntmps38
        go_wp2
        go_ret
        exact ⟨rfl, by go_grown⟩
      · have e1 : klt (a1, a2) (a1, b2) = false := klt_not.2 (by rintro (h | h); exact absurd h (by simp); exact h4 h.2)
        rw [e1]
        clear e1 h
        have h5 : decide (a2 < b2) = false := decide_eq_false h4
        clear h4
        go_enter Try.func38, Try.ntmps38
        go_wp2
        go_ret
        exact ⟨rfl, by go_grown⟩
    · have e1 : klt (a1, a2) (b1, b2) = false := klt_not.2 (by rintro (x | x); exact h x; exact h3 x.1)
      rw [e1]
      clear e1 h
      have h5 : (a1 == b1) = false := beq_eq_false_iff_ne.2 h3
      clear h3
      go_enter Try.func38, Try.ntmps38
      go_wp2
      go_ret
      exact ⟨rfl, by go_grown⟩
theorem rb_is (t : RB Int) (w : World) (h : Rep w t) :
    Calls Try.prog 62 #[ptrV t] w fun e w' => e = .returned (.bool t.red) ∧ w = w' := by
  cases t with
  | nil =>
    go_enter Try.func62, Try.ntmps62
    go_wp2
    go_ret
    exact ⟨rfl, rfl⟩
  | node b c l k v s r =>
    have h0 : w.cell? ⟨b, 4, none⟩ = some (.bool c) := h.1.get 4 rfl
    clear h
    go_enter Try.func62, Try.ntmps62
    go_wp2
    go_ret
    exact ⟨rfl, rfl⟩

end Go.Proofs.Ytjlnbpomncglcaa
