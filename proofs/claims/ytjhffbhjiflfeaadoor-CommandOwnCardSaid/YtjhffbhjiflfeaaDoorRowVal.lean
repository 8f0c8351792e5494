/-
  Structs by value, whole: out of a block and into it, their cells whatever they are. Nothing of the program stands here.
-/
import Derived.Test.YtjhffbhjiflfeaaDoorLib2
import Derived.Deep.MidRow
import Derived.Deep.WholeRow
import Derived.Laws.StructEq
namespace Go.Proofs.YtjhffbhjiflfeaaDoor
set_option linter.unusedVariables false
set_option linter.unusedSimpArgs false
open Go.RowKit

section
variable {P : Program} {ops : Array Oper} {rest : List Oper} {op : Oper} {a : Act} {w : World} {Q : Exit → Act → World → Prop}

theorem Blk.range {b : Nat} {t : TypeId} {cs : Array Value} (h : Blk w b t cs) (o : Nat) (l : List Value) (hl : ∀ j v, l[j]? = some v → cs[o + j]? = some v) : w.rangeAt b o l := fun j v hj => h.get (o + j) (hl j v hj)
theorem Blk.there {b : Nat} {t : TypeId} {cs : Array Value} (h : Blk w b t cs) (o n : Nat) (hn : o + n ≤ cs.size) : w.there b o n := fun j hj => by
  refine ⟨?_, h.frozen (o + j)⟩
  rw [h.get (o + j) (Array.getElem?_eq_getElem (show o + j < cs.size by omega))]
  rfl

/-- A value put into a row of values from an offset on. -/
def splice (cs : Array Value) : Nat → List Value → Array Value
  | _, [] => cs
  | o, v :: l => splice (cs.setIfInBounds o v) (o + 1) l
theorem Blk.setCells {b : Nat} {t : TypeId} : ∀ (l : List Value) (o : Nat) {w : World} {cs : Array Value}, Blk w b t cs → Blk (w.setCells b o l) b t (splice cs o l) ∧ Fr (fun k => k = b) w (w.setCells b o l)
  | [], o, w, cs, h => ⟨h, Fr.refl _ _⟩
  | v :: l, o, w, cs, h => by
    have k := Blk.setCells l (o + 1) (h.put o v)
    exact ⟨k.1, ((Fr.refl (fun k => k = b) w).setCell (p := ⟨b, o, none⟩) (fun _ => rfl) v).trans k.2⟩

/-- An operation that is wanted, whether it is guarded or not. -/
theorem wpList_wanted (hw : Region.wanted op (yielded ops a.tmps) = true) (h : ∀ K : Act → World → Prop, (∀ a w, wpList P ops Q rest a w → K a w) → op.wp P a w K Q) : wpList P ops Q (op :: rest) a w :=
  wpList_step fun K hK => by simp only [hw, if_true]; exact h K hK
/-- A struct is loaded, whole. -/
theorem wpList_load_blk (hw : Region.wanted op (yielded ops a.tmps) = true) (ty : TypeId) (x : Operand) (ho : op.op = .load ty x) (b : Nat) (hx : a.eval x = .pointer (some ⟨b, 0, none⟩)) (t : TypeId) (cs : Array Value) (d : TypeDesc) (hb : Blk w b t cs)
    (hu : P.underlying ty = some d) (hd : d.isRow = true) (hi : (P.info? ty).map (·.size) = some cs.size)
    (h : wpList P ops Q rest (a.put op.dst (.agg cs)) w) : wpList P ops Q (op :: rest) a w := by
  have e : cs.toList.toArray = cs := Array.toArray_toList
  refine wpList_wanted hw fun _ hK => wp_load_mid ty x ho b 0 hx cs.toList d (hb.range 0 cs.toList fun j v hj => by rw [Nat.zero_add]; simpa using hj) hu hd (by simpa using hi) (hK _ _ ?_)
  rw [e]
  exact h
/-- A part of it is loaded. -/
theorem wpList_load_part (hw : Region.wanted op (yielded ops a.tmps) = true) (ty : TypeId) (x : Operand) (ho : op.op = .load ty x) (b o : Nat) (hx : a.eval x = .pointer (some ⟨b, o, none⟩)) (l : List Value) (t : TypeId) (cs : Array Value) (d : TypeDesc) (hb : Blk w b t cs)
    (hl : ∀ j v, l[j]? = some v → cs[o + j]? = some v) (hu : P.underlying ty = some d) (hd : d.isRow = true) (hi : (P.info? ty).map (·.size) = some l.length)
    (h : wpList P ops Q rest (a.put op.dst (.agg l.toArray)) w) : wpList P ops Q (op :: rest) a w :=
  wpList_wanted hw fun _ hK => wp_load_mid ty x ho b o hx l d (hb.range o l hl) hu hd hi (hK _ _ h)
/-- A struct is stored, whole or as a part. -/
theorem wpList_store_part (hw : Region.wanted op (yielded ops a.tmps) = true) (ty : TypeId) (x y : Operand) (ho : op.op = .store ty x y) (b o : Nat) (cells : Array Value) (hx : a.eval x = .pointer (some ⟨b, o, none⟩)) (hy : a.eval y = .agg cells) (t : TypeId) (cs : Array Value) (hb : Blk w b t cs)
    (hn : o + cells.size ≤ cs.size) (hi : (P.info? ty).map (·.size) = some cells.size) (h1 : cells.all (·.oneCell') = true)
    (h : ∀ w', Blk w' b t (splice cs o cells.toList) → Fr (fun k => k = b) w w' → wpList P ops Q rest (a.put op.dst undef) w') : wpList P ops Q (op :: rest) a w := by
  obtain ⟨h2, h3⟩ := Blk.setCells cells.toList o hb
  exact wpList_wanted hw fun _ hK => wp_store_mid ty x y ho b o cells hx hy (hb.there o cells.size hn) hi h1 (hK _ _ (h _ h2 h3))
/-- An operation whose value is known. -/
theorem wpList_val (hw : Region.wanted op (yielded ops a.tmps) = true) (r : Value) (hr : (execOp a.eval op).run P w = .ok (.value r) w) (h : wpList P ops Q rest (a.put op.dst r) w) : wpList P ops Q (op :: rest) a w :=
  wpList_wanted hw fun _ hK => by
    unfold Oper.wp
    rw [hr]
    exact hK _ _ h
end

/-- Two structs are compared. -/
theorem wpList_cmp {P : Program} {ops : Array Oper} {rest : List Oper} {op : Oper} {a : Act} {w : World} {Q : Exit → Act → World → Prop} (hw : Region.wanted op (yielded ops a.tmps) = true) (n : Bool) (t u : TypeId) (x y : Operand) (ho : op.op = .binOp (if n then .neq else .eql) t x y u) (A B : Array Value) (hx : a.eval x = .agg A) (hy : a.eval y = .agg B) (r : Bool) (hg : P.eqGuardType P.depth t = false)
    (he : (Op.equalIn 10000 t (.agg A) (.agg B)).run P w = .ok (r != n) w) (h : wpList P ops Q rest (a.put op.dst (.bool r)) w) : wpList P ops Q (op :: rest) a w := by
  refine wpList_val hw (.bool r) ?_ h
  unfold execOp
  simp only [ho, hx, hy]
  cases n with
  | true =>
    have e : (binOp .neq t (.agg A) (.agg B)).run P w = .ok (.bool r) w := by rw [run_neq_struct, he]; cases r <;> rfl
    simp [e, run_eqGuard_agg, hg]
  | false =>
    have e : (binOp .eql t (.agg A) (.agg B)).run P w = .ok (.bool r) w := by rw [run_eql_struct, he]; cases r <;> rfl
    simp [e, run_eqGuard_agg, hg]
/-- In a region that draws its order: a struct is loaded; two are compared. -/
theorem yields_load_blk {P : Program} {ops : Array Oper} {S : World → Prop} {op : Oper} {a : Act} (hw : Region.wanted op (yielded ops a.tmps) = true) (ty : TypeId) (x : Operand) (ho : op.op = .load ty x) (b : Nat) (hx : a.eval x = .pointer (some ⟨b, 0, none⟩)) (t : TypeId) (cs : Array Value) (d : TypeDesc)
    (hS : ∀ w, S w → Blk w b t cs) (hu : P.underlying ty = some d) (hd : d.isRow = true) (hi : (P.info? ty).map (·.size) = some cs.size) : YieldsIf P ops S op (.agg cs) a := by
  have h := yieldsIf_load_mid (P := P) (ops := ops) (S := S) hw ty x ho b 0 hx cs.toList d (fun w hs => (hS w hs).range 0 cs.toList fun j v hj => by rw [Nat.zero_add]; simpa using hj) hu hd (by simpa using hi)
  rwa [Array.toArray_toList] at h
theorem yields_cmp {P : Program} {ops : Array Oper} {S : World → Prop} {op : Oper} {a : Act} (hw : Region.wanted op (yielded ops a.tmps) = true) (n : Bool) (t u : TypeId) (x y : Operand) (ho : op.op = .binOp (if n then .neq else .eql) t x y u) (A B : Array Value) (hx : a.eval x = .agg A) (hy : a.eval y = .agg B) (r : Bool) (hg : P.eqGuardType P.depth t = false)
    (h : ∀ w, (Op.equalIn 10000 t (.agg A) (.agg B)).run P w = .ok (r != n) w) : YieldsIf P ops S op (.bool r) a := by
  refine Or.inl ⟨hw, fun w _ => ?_⟩
  unfold execOp
  simp only [ho, hx, hy]
  cases n with
  | true =>
    have e : (binOp .neq t (.agg A) (.agg B)).run P w = .ok (.bool r) w := by rw [run_neq_struct, h w]; cases r <;> rfl
    simp [e, run_eqGuard_agg, hg]
  | false =>
    have e : (binOp .eql t (.agg A) (.agg B)).run P w = .ok (.bool r) w := by rw [run_eql_struct, h w]; cases r <;> rfl
    simp [e, run_eqGuard_agg, hg]

theorem splice_size : ∀ (l : List Value) (o : Nat) (cs : Array Value), (splice cs o l).size = cs.size
  | [], _, _ => rfl
  | v :: l, o, cs => by rw [splice, splice_size l, Array.size_setIfInBounds]
theorem splice_get : ∀ (l : List Value) (o : Nat) (cs : Array Value) (i : Nat), o + l.length ≤ cs.size → (splice cs o l)[i]? = if o ≤ i ∧ i < o + l.length then l[i - o]? else cs[i]?
  | [], o, cs, i, _ => by rw [if_neg (by simp only [List.length_nil]; omega)]; rfl
  | v :: l, o, cs, i, h => by
    rw [splice, splice_get l (o + 1) _ i (by rw [Array.size_setIfInBounds]; simp at h; omega)]
    simp only [List.length_cons] at h ⊢
    by_cases h1 : i = o
    · subst h1
      rw [if_neg (by omega), if_pos (by omega), Nat.sub_self]
      rw [Array.getElem?_setIfInBounds_self_of_lt (by omega)]
      rfl
    · by_cases h2 : o + 1 ≤ i ∧ i < o + 1 + l.length
      · rw [if_pos h2, if_pos (by omega)]
        obtain ⟨j, rfl⟩ : ∃ j, i = o + 1 + j := ⟨i - (o + 1), by omega⟩
        rw [show o + 1 + j - (o + 1) = j by omega, show o + 1 + j - o = j + 1 by omega]
        rfl
      · rw [if_neg h2, if_neg (by omega), Array.getElem?_setIfInBounds_ne (Ne.symm h1)]
/-- A whole row put into one as long. -/
theorem splice_all (cs : Array Value) (l : List Value) (h : l.length = cs.size) : splice cs 0 l = l.toArray := by
  apply Array.ext_getElem?
  intro i
  rw [splice_get l 0 cs i (by omega)]
  by_cases h1 : i < l.length
  · rw [if_pos (by omega)]; simp
  · rw [if_neg (by omega)]
    rw [Array.getElem?_eq_none (by omega), Array.getElem?_eq_none (by simp; omega)]

end Go.Proofs.YtjhffbhjiflfeaaDoor
