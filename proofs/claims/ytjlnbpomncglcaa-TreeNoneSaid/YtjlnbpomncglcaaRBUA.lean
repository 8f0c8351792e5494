/-
  Red-black trees in memory (u); their small functions.
-/
import Derived.Test.YtjlnbpomncglcaaProg
import Derived.Test.YtjlnbpomncglcaaLib2
import Derived.Test.YtjlnbpomncglcaaRBList
import Derived.Test.YtjlnbpomncglcaaRBA
import Derived.Test.YtjlnbpomncglcaaRegionZ
namespace Go.Proofs.Ytjlnbpomncglcaa
set_option linter.unusedVariables false
set_option linter.unusedSimpArgs false
set_option maxRecDepth 100000
open Go.RowKit

/-- The tree's nodes lie in their blocks. -/
def RepU (w : World) : RB Int → Prop
  | .nil => True
  | .node b c l k v s r => Blk w b 106 #[.int .u64 k.1, .int .i64 k.2, .int .u64 v, .int .u64 s, .bool c, ptrV l, ptrV r] ∧ RepU w l ∧ RepU w r
theorem RepU.fr {S : Nat → Prop} {w w' : World} (hf : Fr S w w') : ∀ {t : RB Int}, RepU w t → (∀ b ∈ t.blocks, ¬ S b) → RepU w' t
  | .nil, _, _ => trivial
  | .node b c l k v s r, h, hn => ⟨h.1.fr hf (hn b (List.mem_cons_self ..)), RepU.fr hf h.2.1 (fun x hx => hn x (List.mem_cons_of_mem _ (List.mem_append.2 (Or.inl hx)))), RepU.fr hf h.2.2 (fun x hx => hn x (List.mem_cons_of_mem _ (List.mem_append.2 (Or.inr hx))))⟩
theorem RepU.lt {w : World} : ∀ {t : RB Int}, RepU w t → ∀ b ∈ t.blocks, b < w.heap.size
  | .nil, _, x, hx => by cases hx
  | .node b c l k v s r, h, x, hx => by
    rcases List.mem_cons.1 hx with rfl | hx
    · exact h.1.lt
    · rcases List.mem_append.1 hx with hx | hx
      · exact RepU.lt h.2.1 x hx
      · exact RepU.lt h.2.2 x hx
theorem RepU.below {w w' : World} {t : RB Int} (h : RepU w t) (hb : Below w.heap.size w w') : RepU w' t :=
  h.fr (S := fun k => w.heap.size ≤ k) (Fr.of_below hb) (fun b hx hs => by have := h.lt b hx; omega)
/-- The tree's own block: its functions. -/
def TreU (w : World) (T : Nat) : Prop := ∃ cs, Blk w T 69 cs ∧ cs[0]? = some (.func (.func 42) #[] #[]) ∧ cs[1]? = some (.func (.func 41) #[] #[])
theorem TreU.fr {S : Nat → Prop} {w w' : World} {T : Nat} (h : TreU w T) (hf : Fr S w w') (hn : ¬ S T) : TreU w' T := by
  obtain ⟨cs, h1, h2⟩ := h
  exact ⟨cs, h1.fr hf hn, h2⟩
theorem TreU.below {w w' : World} {T : Nat} (h : TreU w T) (hb : Below w.heap.size w w') : TreU w' T := by
  obtain ⟨cs, h1, h2⟩ := h
  exact ⟨cs, h1.next hb, h2⟩
theorem TreU.c0 {w : World} {T : Nat} (h : TreU w T) : w.cell? ⟨T, 0, none⟩ = some (.func (.func 42) #[] #[]) := by
  obtain ⟨cs, h1, h2, h3⟩ := h
  exact h1.get 0 h2
theorem TreU.c1 {w : World} {T : Nat} (h : TreU w T) : w.cell? ⟨T, 1, none⟩ = some (.func (.func 41) #[] #[]) := by
  obtain ⟨cs, h1, h2, h3⟩ := h
  exact h1.get 1 h3
theorem fn_neqU1 (g : Fn) (w : World) : (binOp .eql 65 (.func g #[] #[]) .nilFunc).run Try.prog w = .ok (.bool false) w := eql_fn 65 g Try.underlying65
theorem fn_neqU2 (g : Fn) (w : World) : (binOp .eql 66 (.func g #[] #[]) .nilFunc).run Try.prog w = .ok (.bool false) w := eql_fn 66 g Try.underlying66
theorem ru_none (T : Nat) (w : World) (hT : TreU w T) : Calls Try.prog 60 #[.pointer (some ⟨T, 0, none⟩)] w fun e w' => e = .returned (.bool false) ∧ w = w' := by
  have c0 := hT.c0
  have c1 := hT.c1
  have e1 := fn_neqU1 (.func 42)
  have e2 := fn_neqU2 (.func 41)
  clear hT
  go_enter Try.func60, Try.ntmps60
  go_wp2
  go_ret
  exact ⟨rfl, rfl⟩
theorem ru_is (t : RB Int) (w : World) (h : RepU w t) :
    Calls Try.prog 62 #[ptrV t] w fun e w' => e = .returned (.bool t.red) ∧ w = w' := by
  cases t with
  | nil =>
    go_enter Try.func62, Try.ntmps62
    go_wp2
    go_ret
    exact ⟨rfl, rfl⟩
  | node b c l k v s r =>
    have h0 : w.cell? ⟨b, 4, none⟩ = some (.bool c) := h.1.get 4 rfl
    clear h
    go_enter Try.func62, Try.ntmps62
    go_wp2
    go_ret
    exact ⟨rfl, rfl⟩
theorem ru_join (a b : Int) (w : World) :
    Calls Try.prog 41 #[(.int .u64 a), (.int .u64 b)] w fun e w' => e = .returned (.int .u64 (minV a b)) ∧ Below w.heap.size w w' :=
  (rb_least a b w).mono fun e w' ⟨h1, h2⟩ => ⟨h1, by subst h2; exact Below.refl _ _⟩
theorem ru_of (k : RK) (v : Int) (w : World) :
    Calls Try.prog 42 #[.agg #[.int .u64 k.1, .int .i64 k.2], .int .u64 v] w fun e w' => e = .returned (.int .u64 (ofV k v)) ∧ Below w.heap.size w w' := rb_value k.1 k.2 v w

end Go.Proofs.Ytjlnbpomncglcaa
