/-
  A tree and the document's row beside each other.
-/
import Derived.Test.YtjlnbpomncglcaaProg
import Derived.Test.YtjlnbpomncglcaaRBSame
import Derived.Test.YtjlnbpomncglcaaRBTwo
namespace Go.Proofs.Ytjlnbpomncglcaa
set_option linter.unusedVariables false
set_option linter.unusedSimpArgs false
set_option maxRecDepth 100000
open Go.RowKit Go.Shelf

/-- A tree and a row, made since w0, apart. -/
structure Pair (w0 w : World) (T : Nat) (t : RB Int) (r : Nat) (v : Value) (L : Row) : Prop where
  a : TrAt w0 w T t
  row : KRow w r w0.heap.size v L
  rge : w0.heap.size ≤ r
  out : Out r T t
  outV : ∀ j, v.ownBlock = some j → Out j T t
/-- What a step of the row may change. -/
abbrev RowS (r : Nat) (v : Value) : Nat → Prop := fun j => j = r ∨ v.ownBlock = some j
theorem Pair.next {w0 w w' : World} {T r : Nat} {t : RB Int} {v : Value} {L : Row} (h : Pair w0 w T t r v L) (hb : Below w.heap.size w w') : Pair w0 w' T t r v L := ⟨h.a.next hb, h.row.next hb, h.rge, h.out, h.outV⟩
theorem Pair.stays {w0 w w' : World} {T r B : Nat} {t : RB Int} {v : Value} {L : Row} (h : Pair w0 w T t r v L) (hs : Stays B w w') (hB : w0.heap.size ≤ B) : Pair w0 w' T t r v L := ⟨h.a.stays hs hB, h.row.stays hs, h.rge, h.out, h.outV⟩
theorem Pair.tree {w0 w w' : World} {T r : Nat} {t t' : RB Int} {v : Value} {L : Row} (h : Pair w0 w T t r v L) (k : TrToU w w' T t t') : Pair w0 w' T t' r v L :=
  ⟨h.a.step k, h.row.fr k.fr (by rintro (e | e); exact h.out.1 e; exact h.out.2 e) (fun j hj => by rintro (e | e); exact (h.outV j hj).1 e; exact (h.outV j hj).2 e), h.rge, h.out.step k h.row.head.lt, fun j hj => (h.outV j hj).step k (h.row.own.lt j hj).2⟩
theorem Pair.rowStep {w0 w w' : World} {T r : Nat} {t : RB Int} {v v' : Value} {L L' : Row} (h : Pair w0 w T t r v L) (hr : KRow w' r w0.heap.size v' L') (hf : Fr (RowS r v) w w') (hv : ∀ j, v'.ownBlock = some j → RowS r v j ∨ w.heap.size ≤ j) : Pair w0 w' T t r v' L' := by
  have hS : ∀ j, RowS r v j → w0.heap.size ≤ j ∧ Out j T t := by
    rintro j (rfl | hj)
    · exact ⟨h.rge, h.out⟩
    · exact ⟨(h.row.own.lt j hj).1, h.outV j hj⟩
  refine ⟨⟨h.a.is.fr hf (fun e => (hS _ e).2.1 rfl) (fun x hx e => (hS _ e).2.2 hx), h.a.ge, h.a.bl, h.a.below.trans (hf.below h.a.below.size (fun j hj hs => by have := (hS j hs).1; omega))⟩, hr, h.rge, h.out, fun j hj => ?_⟩
  rcases hv j hj with e | e
  · exact (hS j e).2
  · exact ⟨fun e2 => by have := h.a.is.blk.lt; omega, fun hx => by have := RepU.lt h.a.is.rep j hx; omega⟩
/-- The row puts. -/
theorem pair_put {w0 w : World} {T r : Nat} {t : RB Int} {v : Value} {L : Row} (h : Pair w0 w T t r v L) (hR : Rises L) (hf : L.length ≤ 65535) (k : RK) (x : Int) :
    Calls Try.prog 20 #[.pointer (some ⟨r, 0, none⟩), .agg #[.int .u64 k.1, .int .i64 k.2], .int .u64 x] w fun e w' => e = .returned (.int .i64 (putE k L)) ∧ ∃ v', Pair w0 w' T t r v' (rput k x L) ∧ Fr (RowS r v) w w' ∧ ∀ j, v'.ownBlock = some j → RowS r v j ∨ w.heap.size ≤ j := by
  refine (k_put r w0.heap.size v L k x w h.row h.a.below.size hR hf (RowS r v) (fun j hj => Or.inr hj) (Or.inl rfl)).mono ?_
  rintro e w' ⟨v', rfl, h1, h2, h3⟩
  exact ⟨rfl, v', h.rowStep h1 h2 h3, h2, h3⟩
/-- The row drops. -/
theorem pair_drop {w0 w : World} {T r : Nat} {t : RB Int} {v : Value} {L : Row} (h : Pair w0 w T t r v L) (hR : Rises L) (hf : L.length ≤ 65535) (k : RK) :
    Calls Try.prog 18 #[.pointer (some ⟨r, 0, none⟩), .agg #[.int .u64 k.1, .int .i64 k.2]] w fun e w' => e = .returned (.int .i64 (delE k L)) ∧ ∃ v', Pair w0 w' T t r v' (del k L) ∧ Fr (RowS r v) w w' ∧ ∀ j, v'.ownBlock = some j → RowS r v j ∨ w.heap.size ≤ j := by
  refine (k_drop r w0.heap.size v L k w h.row h.a.below.size hR hf).mono ?_
  rintro e w' ⟨v', rfl, h1, h2, h3⟩
  have hf2 : Fr (RowS r v) w w' := h2.mono fun j _ hj => Or.inl hj
  have hv2 : ∀ j, v'.ownBlock = some j → RowS r v j ∨ w.heap.size ≤ j := fun j hj => (h3 j hj).imp Or.inr id
  exact ⟨rfl, v', h.rowStep h1 hf2 hv2, hf2, hv2⟩
theorem acts_rises (N I V : Nat → Int) (D : Nat → Bool) : ∀ i, Rises (actsRow N I V D i)
  | 0 => List.Pairwise.nil
  | i + 1 => actR_rises (acts_rises N I V D i)

end Go.Proofs.Ytjlnbpomncglcaa
