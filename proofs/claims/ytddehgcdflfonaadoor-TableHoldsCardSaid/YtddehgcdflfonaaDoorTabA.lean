/-
  A table in memory: its map of pages, its pages; who is asked for.
-/
import Derived.Test.YtddehgcdflfonaaDoorProg
import Derived.Test.YtddehgcdflfonaaDoorLib2
import Derived.Test.YtddehgcdflfonaaDoorTabPlain
import Derived.Test.YtddehgcdflfonaaDoorRegionZ
import Derived.Maps.OwnSet
import Derived.Maps.OwnOps
import Derived.Laws.ShiftsVarLaws
import Derived.IntWalk
import Derived.Laws.BitsAllLaws
namespace Go.Proofs.YtddehgcdflfonaaDoor
set_option linter.unusedVariables false
set_option linter.unusedSimpArgs false
set_option maxRecDepth 100000
open Go.RowKit

/-- How a pointer to a page reads. -/
def pgEnc : Value → Option (DataW Unit × List MemPlace)
  | .pointer none => some (.nil, [])
  | .pointer (some ⟨b, 0, none⟩) => some (.lit (.int .i64 b), [])
  | _ => none
def pgLit : Option Nat → DataW Unit
  | none => .nil
  | some b => .lit (.int .i64 b)
def pgPtr : Option Nat → Value
  | none => .pointer none
  | some b => .pointer (some ⟨b, 0, none⟩)
theorem pgEnc_ptr (o : Option Nat) : pgEnc (pgPtr o) = some (pgLit o, []) := by cases o <;> rfl
theorem pgEnc_inv {v : Value} {o : Option Nat} {ps : List MemPlace} (h : pgEnc v = some (pgLit o, ps)) : v = pgPtr o := by
  unfold pgEnc at h
  split at h
  · cases o with
    | none => rfl
    | some b => cases h
  · cases o with
    | none => cases h
    | some b =>
      simp only [pgLit, Option.some.injEq, Prod.mk.injEq, DataW.lit.injEq, Lit.int.injEq, true_and] at h
      have := h.1
      simp only [pgPtr]
      congr 3
      omega
  · cases h
theorem key_wf (i : Nat) (h : i ≤ 1023) : (Lit.int .i64 (i : Int)).wf = true := WalkArith.wf_i64 ⟨by omega, by omega⟩
/-- Block m is a map of at most n entries: pages f. -/
def MapAt (w : World) (m n : Nat) (f : Nat → Option Nat) : Prop := ∃ D : DataW Unit, w.ownsMap Tryd.prog 3 pgEnc m n D ∧ ∀ i : Nat, i ≤ 1023 → D.atKey (.int .i64 (i : Int)) .nil = pgLit (f i)
theorem intKey : Maps.Keyed Tryd.prog 3 := Maps.int_keyed Tryd.underlying3
theorem key_lit (i : Nat) (h : i ≤ 1023) : keyOf Tryd.prog 3 (.int .i64 (i : Int)) = some (.int .i64 (i : Int)) := Maps.keyOf_int_mk Tryd.underlying3 (key_wf i h)
theorem key_isLit (i : Nat) (h : i ≤ 1023) : WideAt.IsKeyLit (.int .i64 (i : Int)) := by
  first | exact Maps.isKeyLit_of_keyOf (key_lit i h) | exact intKey.lit _ _ (key_lit i h) | trivial
theorem zero_page (w : World) : (zeroValue 63).run Tryd.prog w = .ok (.pointer none) w := by kernel_rfl

section
variable {w w' : World} {m n : Nat} {f : Nat → Option Nat}
theorem MapAt.lt (h : MapAt w m n f) : m < w.heap.size := by obtain ⟨D, h1, _⟩ := h; exact h1.lt
theorem MapAt.mono (h : MapAt w m n f) {n' : Nat} (hn : n ≤ n') : MapAt w m n' f := by obtain ⟨D, h1, h2⟩ := h; exact ⟨D, h1.mono hn, h2⟩
theorem MapAt.fr {S : Nat → Prop} (h : MapAt w m n f) (hf : Fr S w w') (hm : ¬ S m) : MapAt w' m n f := by
  obtain ⟨D, ⟨es, clock, hb, F, hs, hD⟩, h2⟩ := h
  exact ⟨D, ⟨es, clock, (hf.block m (Array.getElem?_eq_some_iff.1 hb).1 hm).trans hb, F, hs, hD⟩, h2⟩
theorem MapAt.same (h : MapAt w m n f) (e : w'.heap[m]? = w.heap[m]?) : MapAt w' m n f := by
  obtain ⟨D, ⟨es, clock, hb, F, hs, hD⟩, h2⟩ := h
  exact ⟨D, ⟨es, clock, e.trans hb, F, hs, hD⟩, h2⟩
theorem MapAt.look (h : MapAt w m n f) (i : Nat) (hi : i ≤ 1023) : (Instr.lookup 56 (.map (some m)) (.int .i64 (i : Int)) false).run Tryd.prog w = .ok (pgPtr (f i)) w := by
  obtain ⟨D, h1, h2⟩ := h
  obtain ⟨v, ps, hrun, hv⟩ := h1.lookup intKey Tryd.underlying56 (zero_page w) (pgEnc_ptr none) (key_lit i hi)
  have e : D.atKey (.int .i64 (i : Int)) (pgLit none) = pgLit (f i) := h2 i hi
  rw [e] at hv
  rw [hrun, pgEnc_inv hv]
theorem MapAt.new (w : World) : MapAt (w.alloc (.map #[] 0)) w.heap.size 0 (fun _ => none) := ⟨.map [], World.ownsMap_made _ _ _ _, fun i _ => rfl⟩
theorem MapAt.store (h : MapAt w m n f) (hn : n < maxLen) (i : Nat) (hi : i ≤ 1023) (b : Nat) : ∃ w', (Instr.mapUpdate 56 (.map (some m)) (.int .i64 (i : Int)) (.pointer (some ⟨b, 0, none⟩))).run Tryd.prog w = .ok () w' ∧
    MapAt w' m (n + 1) (fun j => if j = i then some b else f j) ∧ w.grownBy w' (some m) := by
  obtain ⟨D, h1, h2⟩ := h
  obtain ⟨w', r1, r2, r3⟩ := h1.update intKey Tryd.underlying56 hn (key_lit i hi) (pgEnc_ptr (some b))
  refine ⟨w', r1, ⟨_, r2, fun j hj => ?_⟩, r3⟩
  dsimp only
  by_cases c : j = i
  · subst c
    rw [if_pos rfl]
    exact Maps.atKey_put_same h1.isMap (key_isLit j hi) _ _
  · rw [if_neg c, ← h2 j hj]
    exact Maps.atKey_put_other (by simp; omega) _ _
theorem MapAt.strike (h : MapAt w m n f) (i : Nat) (hi : i ≤ 1023) (ty : TypeId) : ∃ w', (Builtin.delete_ #[56, 3] ty #[.map (some m), .int .i64 (i : Int)]).run Tryd.prog w = .ok (.tuple #[]) w' ∧
    MapAt w' m n (fun j => if j = i then none else f j) ∧ w.grownBy w' (some m) := by
  obtain ⟨D, h1, h2⟩ := h
  obtain ⟨w', r1, r2, r3⟩ := h1.drop intKey Tryd.underlying56 (key_lit i hi) ty
  refine ⟨w', r1, ⟨_, r2, fun j hj => ?_⟩, r3.grown⟩
  dsimp only
  by_cases c : j = i
  · subst c
    rw [if_pos rfl]
    exact Maps.atKey_del_same _
  · rw [if_neg c, ← h2 j hj]
    exact Maps.atKey_del_other (by simp; omega) _
end

/-! ### Pages -/
def pageCells (has : Nat) (vs : Nat → Int) : Array Value := (Value.int .u64 (has : Int) :: (List.range 64).map fun i => .int .u64 (vs i)).toArray
theorem pageCells_has (has : Nat) (vs : Nat → Int) : (pageCells has vs)[0]? = some (.int .u64 (has : Int)) := by simp [pageCells]
theorem pageCells_v (has : Nat) (vs : Nat → Int) {i : Nat} (hi : i < 64) : (pageCells has vs)[1 + i]? = some (.int .u64 (vs i)) := by
  unfold pageCells
  rw [List.getElem?_toArray, Nat.add_comm, List.getElem?_cons_succ, List.getElem?_map, List.getElem?_range hi]
  rfl
theorem pageCells_put (has has' : Nat) (vs : Nat → Int) : (pageCells has vs).setIfInBounds 0 (.int .u64 (has' : Int)) = pageCells has' vs := by simp [pageCells]
theorem pageCells_set (has : Nat) (vs : Nat → Int) {i : Nat} (hi : i < 64) (v : Int) : (pageCells has vs).setIfInBounds (1 + i) (.int .u64 v) = pageCells has (fun j => if j = i then v else vs j) := by
  unfold pageCells
  rw [List.setIfInBounds_toArray, Nat.add_comm, List.set_cons_succ]
  congr 2
  apply List.ext_getElem?
  intro j
  rw [List.getElem?_set, List.getElem?_map, List.getElem?_map, List.length_map, List.length_range]
  by_cases c : i = j
  · subst c
    rw [if_pos rfl, if_pos hi, List.getElem?_range hi]
    simp
  · rw [if_neg c]
    by_cases h : j < 64
    · rw [List.getElem?_range h]
      simp [Ne.symm c]
    · rw [List.getElem?_eq_none (by simp; omega)]
      rfl

/-- A table's head, its map and its pages. -/
structure Tab (w : World) (T m n : Nat) (pg : Pages) (c : Nat) : Prop where
  head : Blk w T 58 #[.map (some m), .int .i64 (c : Int)]
  map : MapAt w m n (fun i => (pg i).map (·.b))
  pages : ∀ i p, pg i = some p → Blk w p.b 68 (pageCells p.has p.vs)
  apart : ∀ i j p q, pg i = some p → pg j = some q → p.b = q.b → i = j

theorem nil_map (w : World) (r : Option Nat) : (binOp .eql 56 (.map r) (.map none)).run Tryd.prog w = .ok (.bool r.isNone) w := by
  rw [run_eql_map_nil w _ _ _ r Tryd.underlying56]
theorem tab_none_nil (w : World) : Calls Tryd.prog 28 #[.pointer none] w fun e w' => e = .returned (.bool true) ∧ w = w' := by
  go_enter Tryd.func28, Tryd.ntmps28
  go_wp2
  go_ret
  exact ⟨rfl, rfl⟩
theorem tab_none_unmade (T : Nat) (w : World) (h : w.cell? ⟨T, 0, none⟩ = some (.map none)) : Calls Tryd.prog 28 #[.pointer (some ⟨T, 0, none⟩)] w fun e w' => e = .returned (.bool true) ∧ w = w' := by
  have nm := nil_map w none
  go_enter Tryd.func28, Tryd.ntmps28
  go_wp2
  go_ret
  exact ⟨by simp, rfl⟩
theorem tab_none_made (T m : Nat) (w : World) (h : w.cell? ⟨T, 0, none⟩ = some (.map (some m))) : Calls Tryd.prog 28 #[.pointer (some ⟨T, 0, none⟩)] w fun e w' => e = .returned (.bool false) ∧ w = w' := by
  have nm := nil_map w (some m)
  go_enter Tryd.func28, Tryd.ntmps28
  go_wp2
  go_ret
  exact ⟨by simp, rfl⟩

theorem wrap_quo (i : Nat) (h : i ≤ 65535) : IntKind.i64.wrap ((i : Int) / 64) = ((i / 64 : Nat) : Int) := by rw [IntWalk.i64_in _ ⟨by omega, by omega⟩]; rfl
theorem wrap_rem (i : Nat) (h : i ≤ 65535) : IntKind.i64.wrap ((i : Int) % 64) = ((i % 64 : Nat) : Int) := by rw [IntWalk.i64_in _ ⟨by omega, by omega⟩]; rfl
theorem wrap_pow {r : Nat} (hr : r < 64) : IntKind.u64.wrap ((2 : Int) ^ r) = ((2 ^ r : Nat) : Int) := by
  have := bit_lt hr
  rw [IntKind.wrap_u64]
  have e : ((2 ^ r : Nat) : Int) = (2 : Int) ^ r := by simp
  rw [← e]
  generalize 2 ^ r = B at *
  omega
theorem tab_at (T m n i : Nat) (pg : Pages) (c : Nat) (w : World) (h : Tab w T m n pg c) (h1 : 1 ≤ i) (h2 : i ≤ 65535) :
    Calls Tryd.prog 27 #[.pointer (some ⟨T, 0, none⟩), .int .i64 (i : Int)] w fun e w' => e = .returned (.tuple #[pgPtr ((pg (i / 64)).map (·.b)), .int .u64 ((2 ^ (i % 64) : Nat) : Int)]) ∧ ∃ k, w' = w.drewN k := by
  have h0 := h.head.get 0 rfl
  have hl := fun k => MapAt.look (w := w.drewN k) (h.map.same rfl) (i / 64) (by omega)
  have e1 := wrap_quo i h2
  have e2 : ((i : Int)).tmod 64 = ((i % 64 : Nat) : Int) := rfl
  have hr : i % 64 < 64 := Nat.mod_lt _ (by omega)
  clear h
  obtain ⟨j, hj⟩ : ∃ j, i / 64 = j := ⟨_, rfl⟩
  obtain ⟨r, hr'⟩ : ∃ r, i % 64 = r := ⟨_, rfl⟩
  rw [hj] at hl e1 ⊢
  rw [hr'] at e2 hr ⊢
  clear hj hr'
  have e3 : IntKind.u64.wrap ((2 : Int) ^ r) = ((2 ^ r : Nat) : Int) := wrap_pow hr
  obtain ⟨B, hB⟩ : ∃ B : Nat, 2 ^ r = B := ⟨_, rfl⟩
  rw [hB] at e3 ⊢
  clear hB
  obtain ⟨p, hp⟩ : ∃ p, pgPtr ((pg j).map (·.b)) = p := ⟨_, rfl⟩
  rw [hp] at hl ⊢
  clear hp
  go_enter Tryd.func27, Tryd.ntmps27
  go_wp2
  go_quiet (fail)
  go_wp2
  go_ret2
  exact ⟨by simp, _, rfl⟩

end Go.Proofs.YtddehgcdflfonaaDoor
