/-
  The document's row of chapter 12: where an id is, the next one.
-/
import Derived.Test.YtddehgcdflfonaaDoorProg
import Derived.Test.YtddehgcdflfonaaDoorTabPlain
import Derived.Test.YtddehgcdflfonaaDoorLib2
import Derived.Test.YtddehgcdflfonaaDoorTabG
import Derived.Test.YtddehgcdflfonaaDoorRegionZ
namespace Go.Proofs.YtddehgcdflfonaaDoor
set_option linter.unusedVariables false
set_option linter.unusedSimpArgs false
set_option maxRecDepth 100000
open Go.RowKit Go.Shelf

/-- A row's items, cell by cell. -/
def flatR (L : TRow) : List Value := L.flatMap fun p => [.int .i64 p.1, .int .u64 p.2]
theorem flatR_length (L : TRow) : (flatR L).length = L.length * 2 := by
  induction L with
  | nil => rfl
  | cons p L ih => simp only [flatR, List.flatMap_cons, List.length_append, List.length_cons, List.length_nil] at *; omega
theorem flatR_at : ∀ {L : TRow} {i : Nat} {p : Int × Int}, L[i]? = some p → (flatR L)[i * 2]? = some (.int .i64 p.1) ∧ (flatR L)[i * 2 + 1]? = some (.int .u64 p.2)
  | [], i, p, h => by simp at h
  | q :: L, 0, p, h => by
    simp only [List.getElem?_cons_zero, Option.some.injEq] at h
    subst h
    exact ⟨rfl, rfl⟩
  | q :: L, i + 1, p, h => by
    simp only [List.getElem?_cons_succ] at h
    obtain ⟨h1, h2⟩ := flatR_at h
    have e : flatR (q :: L) = .int .i64 q.1 :: .int .u64 q.2 :: flatR L := rfl
    rw [e, show (i + 1) * 2 = i * 2 + 1 + 1 by omega]
    exact ⟨h1, h2⟩
theorem flatR_append (L M : TRow) : flatR (L ++ M) = flatR L ++ flatR M := List.flatMap_append

/-- The row lies at r, its items from B on. -/
structure RowAt (w : World) (r B : Nat) (v : Value) (L : TRow) : Prop where
  head : Blk w r 50 #[v]
  own : w.ownsRow B 72 2 v L.length (flatR L)
theorem RowAt.form {w : World} {r B : Nat} {v : Value} {L : TRow} (h : RowAt w r B v L) : ∃ A c, v = .slice A L.length c ∧ L.length ≤ c ∧ c ≤ maxLen ∧
    (0 < L.length → ∃ g, A = some ⟨g, 0, none⟩ ∧ B ≤ g ∧ g < w.heap.size ∧ ∀ i p, L[i]? = some p → w.cell? ⟨g, i * 2, none⟩ = some (.int .i64 p.1) ∧ w.cell? ⟨g, i * 2 + 1, none⟩ = some (.int .u64 p.2)) := by
  have hadd : ∀ (g j : Nat), (⟨g, 0, none⟩ : Addr).add j = ⟨g, j, none⟩ := by
    intro g j
    unfold Addr.add
    split
    · rename_i h0
      rw [h0]
    · simp only [Nat.zero_add]
  rcases h.own.2 with ⟨rfl, hn⟩ | ⟨g, cap, cur, rfl, hb, hg, hle, hm, r⟩
  · exact ⟨none, 0, by rw [hn], by omega, by decide, fun hp => by omega⟩
  · refine ⟨_, cap, rfl, hle, hm, fun hp => ⟨g, rfl, hb, (Array.getElem?_eq_some_iff.1 hg).1, fun i p e => ?_⟩⟩
    obtain ⟨h1, h2⟩ := flatR_at e
    have c1 := h.own.cells (g := g) rfl _ _ h1
    have c2 := h.own.cells (g := g) rfl _ _ h2
    rw [hadd] at c1 c2
    exact ⟨c1, c2⟩
theorem RowAt.next {w w' : World} {r B : Nat} {v : Value} {L : TRow} (h : RowAt w r B v L) (hb : Below w.heap.size w w') : RowAt w' r B v L := ⟨h.head.next hb, own_next h.own hb⟩

theorem row_lookup {L : TRow} {i : Nat} (h : i < L.length) : ∃ id v, L[i]? = some (id, v) ∧ (id, v) ∈ L := ⟨(L[i]).1, (L[i]).2, List.getElem?_eq_getElem h, List.getElem_mem h⟩

set_option maxHeartbeats 4000000 in
theorem ref_at (r B : Nat) (v : Value) (L : TRow) (id : Int) (w : World) (h : RowAt w r B v L) (hR : TRises L) (hf : L.length ≤ 65535) :
    Calls Tryd.prog 31 #[.pointer (some ⟨r, 0, none⟩), .int .i64 id] w fun e w' => Below w.heap.size w w' ∧ ∃ k : Int, e = .returned (.int .i64 k) ∧ ((tget id L = none ∧ k = -1) ∨ ∃ (i : Nat) (x : Int), k = (i : Int) ∧ L[i]? = some (id, x) ∧ tget id L = some x) := by
  obtain ⟨A, c, rfl, hlc, hcm, hcells⟩ := h.form
  have HH := Lib.hid h
  have HC := Lib.hid hcells
  have HR := Lib.hid hR
  obtain ⟨l, hl⟩ : ∃ l, L.length = l := ⟨_, rfl⟩
  have HLL := Lib.hid hl
  have c0 := h.head.get 0 rfl
  rw [hl] at c0 hf hlc HC
  clear h hcells hl hR hcm hlc
  go_enter Tryd.func31, Tryd.ntmps31
  go_wp2
  go_loopg [5] l (fun gk ix wr => ∃ i : Nat, i + gk = l ∧ ix = .int .i64 i ∧ Below w.heap.size w wr ∧ ∀ j p, j < i → L[j]? = some p → p.1 ≠ id)
  case atStart => exact ⟨0, by omega, rfl, Below.refl _ _, fun j p hj => absurd hj (by omega)⟩
  case round =>
    obtain ⟨i, hi, rfl, hb, hn⟩ := hrel
    have HB := Lib.hid hb
    have HNO := Lib.hid hn
    have c0 := (hb.cell (p := ⟨r, 0, none⟩) HH.out.head.lt).trans c0
    clear hb hn
    by_cases hlt : i < l
    · obtain ⟨gm, rfl⟩ : ∃ gm, gk = gm + 1 := ⟨gk - 1, by omega⟩
      obtain ⟨y, x, q1, q2⟩ := row_lookup (L := L) (i := i) (by rw [HLL.out]; exact hlt)
      obtain ⟨g, rfl, hg1, hg2, hg3⟩ := HC.out (by omega)
      have c1 := (HB.out.cell (p := ⟨g, i * 2, none⟩) hg2).trans (hg3 i _ q1).1
      dsimp only at c1
      have HQ := Lib.hid (And.intro q1 q2)
      have p0 : (0 : Int) ≤ (i : Int) := by omega
      have p1 : (i : Int) < (l : Int) := by omega
      have e5 : wrap64 ((i : Int) + 1) = ((i + 1 : Nat) : Int) := by unfold wrap64; omega
      clear hg3 q1 q2
      by_cases hy : y = id
      · subst hy
        go_wp2
        go_ret
        exact ⟨HB.out, _, rfl, Or.inr ⟨i, x, rfl, HQ.out.1, tget_of_mem HR.out HQ.out.2⟩⟩
      · have dy : (y == id) = false := beq_eq_false_iff_ne.2 hy
        have HNY := Lib.hid hy
        clear hy
        go_wp2
        go_roundg gm
        case rel => exact ⟨i + 1, by omega, by go_num, HB.out, fun j p hj e => by
          by_cases hji : j = i
          · subst hji
            rw [HQ.out.1] at e
            cases e
            exact HNY.out
          · exact HNO.out j p (by omega) e⟩
        case measure => omega
    · obtain rfl : gk = 0 := by omega
      obtain rfl : i = l := by omega
      go_wp2
      go_ret
      refine ⟨HB.out, _, rfl, Or.inl ⟨tget_none.2 fun p hp => ?_, rfl⟩⟩
      obtain ⟨j, hj, rfl⟩ := List.getElem_of_mem hp
      exact HNO.out j _ (by rw [← HLL.out]; exact hj) (List.getElem?_eq_getElem hj)

set_option maxHeartbeats 4000000 in
theorem ref_next (r B : Nat) (v : Value) (L : TRow) (id : Int) (w : World) (h : RowAt w r B v L) (hR : TRises L) (hf : L.length ≤ 65535) :
    Calls Tryd.prog 32 #[.pointer (some ⟨r, 0, none⟩), .int .i64 id] w fun e w' => e = .returned (.tuple #[.int .i64 ((tnext id L).getD 0), .bool (tnext id L).isSome]) ∧ Below w.heap.size w w' := by
  obtain ⟨A, c, rfl, hlc, hcm, hcells⟩ := h.form
  have HH := Lib.hid h
  have HC := Lib.hid hcells
  have HR := Lib.hid hR
  obtain ⟨l, hl⟩ : ∃ l, L.length = l := ⟨_, rfl⟩
  have HLL := Lib.hid hl
  have c0 := h.head.get 0 rfl
  rw [hl] at c0 hf hlc HC
  clear h hcells hl hR hcm hlc
  go_enter Tryd.func32, Tryd.ntmps32
  go_wp2
  go_loopg [6] l (fun gk ix wr => ∃ i : Nat, i + gk = l ∧ ix = .int .i64 i ∧ Below w.heap.size w wr ∧ ∀ j p, j < i → L[j]? = some p → p.1 ≤ id)
  case atStart => exact ⟨0, by omega, rfl, Below.refl _ _, fun j p hj => absurd hj (by omega)⟩
  case round =>
    obtain ⟨i, hi, rfl, hb, hn⟩ := hrel
    have HB := Lib.hid hb
    have HNO := Lib.hid hn
    have c0 := (hb.cell (p := ⟨r, 0, none⟩) HH.out.head.lt).trans c0
    clear hb hn
    by_cases hlt : i < l
    · obtain ⟨gm, rfl⟩ : ∃ gm, gk = gm + 1 := ⟨gk - 1, by omega⟩
      obtain ⟨y, x, q1, q2⟩ := row_lookup (L := L) (i := i) (by rw [HLL.out]; exact hlt)
      obtain ⟨g, rfl, hg1, hg2, hg3⟩ := HC.out (by omega)
      have c1 := (HB.out.cell (p := ⟨g, i * 2, none⟩) hg2).trans (hg3 i _ q1).1
      dsimp only at c1
      have HQ := Lib.hid (And.intro q1 q2)
      have p0 : (0 : Int) ≤ (i : Int) := by omega
      have p1 : (i : Int) < (l : Int) := by omega
      have e5 : wrap64 ((i : Int) + 1) = ((i + 1 : Nat) : Int) := by unfold wrap64; omega
      clear hg3 q1 q2
      by_cases hy : id < y
      · have hlt' : i < L.length := by rw [HLL.out]; exact hlt
        have hx : (L[i]'hlt').1 = y := by have := HQ.out.1; rw [List.getElem?_eq_getElem hlt'] at this; exact congrArg Prod.fst (Option.some.inj this)
        have hnx := tnext_at HR.out hlt' (id := id) (fun j hj hji => HNO.out j _ hji (List.getElem?_eq_getElem hj)) (by rw [hx]; exact hy)
        rw [hx] at hnx
        have HNX := Lib.hid hnx
        have dy : decide (id < y) = true := decide_eq_true hy
        clear hnx hx hy
        go_wp2
        go_ret2
        exact ⟨by rw [HNX.out]; simp, HB.out⟩
      · have dy : decide (id < y) = false := decide_eq_false hy
        have HNY := Lib.hid (show y ≤ id by omega)
        clear hy
        go_wp2
        go_roundg gm
        case rel => exact ⟨i + 1, by omega, by go_num, HB.out, fun j p hj e => by
          by_cases hji : j = i
          · subst hji
            rw [HQ.out.1] at e
            cases e
            exact HNY.out
          · exact HNO.out j p (by omega) e⟩
        case measure => omega
    · obtain rfl : gk = 0 := by omega
      obtain rfl : i = l := by omega
      have hnx : tnext id L = none := tnext_none.2 fun p hp => by
        obtain ⟨j, hj, rfl⟩ := List.getElem_of_mem hp
        exact HNO.out j _ (by rw [← HLL.out]; exact hj) (List.getElem?_eq_getElem hj)
      have HNX := Lib.hid hnx
      clear hnx
      go_wp2
      go_ret2
      exact ⟨by rw [HNX.out]; simp, HB.out⟩

end Go.Proofs.YtddehgcdflfonaaDoor
