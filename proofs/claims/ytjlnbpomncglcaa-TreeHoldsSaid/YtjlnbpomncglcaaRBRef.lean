/-
  The document's row of chapter 8: where a key is; what is put, dropped; the least value, the first that is found.
-/
import Derived.Test.YtjlnbpomncglcaaProg
import Derived.Test.YtjlnbpomncglcaaLib2
import Derived.Test.YtjlnbpomncglcaaRBList
import Derived.Test.YtjlnbpomncglcaaRBUK
import Derived.Test.YtjlnbpomncglcaaAppendSrc
namespace Go.Proofs.Ytjlnbpomncglcaa
set_option linter.unusedVariables false
set_option linter.unusedSimpArgs false
set_option maxRecDepth 100000
open Go.RowKit

/-! ### Rows taken apart -/
/-- A row's items, cell by cell. -/
def flatK (L : Row) : List Value := L.flatMap fun p => [.int .u64 p.1.1, .int .i64 p.1.2, .int .u64 p.2]
theorem flatK_length (L : Row) : (flatK L).length = L.length * 3 := by
  induction L with
  | nil => rfl
  | cons p L ih => simp only [flatK, List.flatMap_cons, List.length_append, List.length_cons, List.length_nil] at *; omega
theorem flatK_at : ∀ {L : Row} {i : Nat} {p : RK × Int}, L[i]? = some p → (flatK L)[i * 3]? = some (.int .u64 p.1.1) ∧ (flatK L)[i * 3 + 1]? = some (.int .i64 p.1.2) ∧ (flatK L)[i * 3 + 2]? = some (.int .u64 p.2)
  | [], i, p, h => by simp at h
  | q :: L, 0, p, h => by
    simp only [List.getElem?_cons_zero, Option.some.injEq] at h
    subst h
    exact ⟨rfl, rfl, rfl⟩
  | q :: L, i + 1, p, h => by
    simp only [List.getElem?_cons_succ] at h
    obtain ⟨h1, h2, h3⟩ := flatK_at h
    have e : flatK (q :: L) = .int .u64 q.1.1 :: .int .i64 q.1.2 :: .int .u64 q.2 :: flatK L := rfl
    rw [e, show (i + 1) * 3 = i * 3 + 1 + 1 + 1 by omega]
    exact ⟨h1, h2, h3⟩
theorem flatK_append (L M : Row) : flatK (L ++ M) = flatK L ++ flatK M := List.flatMap_append
theorem flatK_take (L : Row) : ∀ a, (flatK L).take (a * 3) = flatK (L.take a) := by
  induction L with
  | nil => intro a; simp [flatK]
  | cons p L ih =>
    intro a
    cases a with
    | zero => simp [flatK]
    | succ a =>
      have e : flatK (p :: L) = .int .u64 p.1.1 :: .int .i64 p.1.2 :: .int .u64 p.2 :: flatK L := rfl
      rw [e, show (a + 1) * 3 = a * 3 + 1 + 1 + 1 by omega, List.take_succ_cons, List.take_succ_cons, List.take_succ_cons, ih, List.take_succ_cons]
      rfl
theorem flatK_drop (L : Row) : ∀ a, (flatK L).drop (a * 3) = flatK (L.drop a) := by
  induction L with
  | nil => intro a; simp [flatK]
  | cons p L ih =>
    intro a
    cases a with
    | zero => simp
    | succ a =>
      have e : flatK (p :: L) = .int .u64 p.1.1 :: .int .i64 p.1.2 :: .int .u64 p.2 :: flatK L := rfl
      rw [e, show (a + 1) * 3 = a * 3 + 1 + 1 + 1 by omega, List.drop_succ_cons, List.drop_succ_cons, List.drop_succ_cons, ih, List.drop_succ_cons]
theorem flatK_one : ∀ (L : Row), ∀ u ∈ flatK L, u.oneCell' = true
  | [], u, h => by cases h
  | p :: L, u, h => by
    have e : flatK (p :: L) = .int .u64 p.1.1 :: .int .i64 p.1.2 :: .int .u64 p.2 :: flatK L := rfl
    rw [e] at h
    rcases List.mem_cons.1 h with rfl | h
    · rfl
    · rcases List.mem_cons.1 h with rfl | h
      · rfl
      · rcases List.mem_cons.1 h with rfl | h
        · rfl
        · exact flatK_one L u h
theorem ins_at {k : RK} {v : Int} : ∀ {L : Row} (a : Nat), a ≤ L.length → (∀ j, (hj : j < L.length) → j < a → klt k (L[j]).1 = false) → (∀ hj : a < L.length, klt k (L[a]).1 = true) → ins k v L = L.take a ++ (k, v) :: L.drop a
  | [], a, ha, _, _ => by
    obtain rfl : a = 0 := by simpa using ha
    rfl
  | p :: L, 0, _, _, h2 => by
    have := h2 (by simp)
    simp only [List.getElem_cons_zero] at this
    simp only [ins]
    rw [if_pos this]
    rfl
  | p :: L, a + 1, ha, h1, h2 => by
    have h0 := h1 0 (by simp) (by omega)
    simp only [List.getElem_cons_zero] at h0
    simp only [ins]
    rw [if_neg (by rw [h0]; decide), ins_at a (by simpa using ha) (fun j hj hja => by have := h1 (j + 1) (by simpa using hj) (by omega); simpa using this) (fun hj => by have := h2 (by simpa using hj); simpa using this)]
    rfl
theorem rsplit_at {L : Row} {i : Nat} {p : RK × Int} (h : L[i]? = some p) : L = L.take i ++ p :: L.drop (i + 1) := by
  obtain ⟨hi, rfl⟩ := List.getElem?_eq_some_iff.1 h
  rw [← List.drop_eq_getElem_cons hi, List.take_append_drop]
theorem del_at {L : Row} (h : Rises L) {i : Nat} {k : RK} {x : Int} (e : L[i]? = some (k, x)) : del k L = L.take i ++ L.drop (i + 1) := by
  have hs := rsplit_at e
  have h2 := h
  rw [hs] at h2
  conv => lhs; rw [hs]
  exact del_here h2
theorem rises_lt {L : Row} (h : Rises L) {i j : Nat} (hi : i < L.length) (hj : j < L.length) (hij : i < j) : klt (L[i]).1 (L[j]).1 = true := List.pairwise_iff_getElem.1 h i j hi hj hij
theorem get_at {L : Row} (h : Rises L) {i : Nat} {k : RK} {x : Int} (e : L[i]? = some (k, x)) : get k L = some x := get_of_mem h (List.mem_of_getElem? e)
theorem k_lookup {L : Row} {i : Nat} (h : i < L.length) : ∃ k v, L[i]? = some (k, v) ∧ (k, v) ∈ L := ⟨(L[i]).1, (L[i]).2, List.getElem?_eq_getElem h, List.getElem_mem h⟩

/-! ### The row in memory -/
theorem ownK_less {w : World} {B B' : Nat} {e : TypeId} {size n : Nat} {v : Value} {xs : List Value} (h : w.ownsRow B e size v n xs) (hb : B' ≤ B) : w.ownsRow B' e size v n xs := by
  refine ⟨h.1, ?_⟩
  rcases h.2 with h2 | ⟨g, cap, cur, h1, h2, h3⟩
  · exact Or.inl h2
  · exact Or.inr ⟨g, cap, cur, h1, by omega, h3⟩
/-- The row lies at r, its items from B on. -/
structure KRow (w : World) (r B : Nat) (v : Value) (L : Row) : Prop where
  head : Blk w r 29 #[v]
  own : w.ownsRow B 51 3 v L.length (flatK L)
theorem KRow.form {w : World} {r B : Nat} {v : Value} {L : Row} (h : KRow w r B v L) : ∃ A c, v = .slice A L.length c ∧ L.length ≤ c ∧ c ≤ maxLen ∧
    (0 < L.length → ∃ g, A = some ⟨g, 0, none⟩ ∧ B ≤ g ∧ g < w.heap.size ∧ ∀ i p, L[i]? = some p → w.cell? ⟨g, i * 3, none⟩ = some (.int .u64 p.1.1) ∧ w.cell? ⟨g, i * 3 + 1, none⟩ = some (.int .i64 p.1.2) ∧ w.cell? ⟨g, i * 3 + 2, none⟩ = some (.int .u64 p.2)) := by
  have hadd : ∀ (g j : Nat), (⟨g, 0, none⟩ : Addr).add j = ⟨g, j, none⟩ := by
    intro g j
    unfold Addr.add
    split
    · rename_i h0
      rw [h0]
    · simp only [Nat.zero_add]
  rcases h.own.2 with ⟨rfl, hn⟩ | ⟨g, cap, cur, rfl, hb, hg, hle, hm, r⟩
  · exact ⟨none, 0, by rw [hn], by omega, by decide, fun hp => by omega⟩
  · refine ⟨_, cap, rfl, hle, hm, fun hp => ⟨g, rfl, hb, (Array.getElem?_eq_some_iff.1 hg).1, fun i p e => ?_⟩⟩
    obtain ⟨h1, h2, h3⟩ := flatK_at e
    have c1 := h.own.cells (g := g) rfl _ _ h1
    have c2 := h.own.cells (g := g) rfl _ _ h2
    have c3 := h.own.cells (g := g) rfl _ _ h3
    rw [hadd] at c1 c2 c3
    exact ⟨c1, c2, c3⟩
theorem KRow.next {w w' : World} {r B : Nat} {v : Value} {L : Row} (h : KRow w r B v L) (hb : Below w.heap.size w w') : KRow w' r B v L := ⟨h.head.next hb, own_next h.own hb⟩
theorem KRow.fr {w w' : World} {r B : Nat} {v : Value} {L : Row} {S : Nat → Prop} (h : KRow w r B v L) (hf : Fr S w w') (hr : ¬ S r) (hv : ∀ k, v.ownBlock = some k → ¬ S k) : KRow w' r B v L := ⟨h.head.fr hf hr, ownsRow_fr h.own hf hv⟩
theorem KRow.cells {w : World} {r B n c : Nat} {A : Option Addr} {L : Row} (h : KRow w r B (.slice A n c) L) {i : Nat} {p : RK × Int} (e : L[i]? = some p) : ∃ g, A = some ⟨g, 0, none⟩ ∧ g < w.heap.size ∧ w.cell? ⟨g, i * 3, none⟩ = some (.int .u64 p.1.1) ∧ w.cell? ⟨g, i * 3 + 1, none⟩ = some (.int .i64 p.1.2) ∧ w.cell? ⟨g, i * 3 + 2, none⟩ = some (.int .u64 p.2) := by
  obtain ⟨A', c', he, -, -, hc⟩ := h.form
  cases he
  obtain ⟨g, h1, -, h2, h3⟩ := hc (by have := (List.getElem?_eq_some_iff.1 e).1; omega)
  exact ⟨g, h1, h2, h3 i p e⟩
theorem KRow.apart {w : World} {r B g : Nat} {v : Value} {L : Row} (h : KRow w r B v L) (hg : v.ownBlock = some g) : g ≠ r := by
  rintro rfl
  rcases h.own.2 with ⟨rfl, _⟩ | ⟨g', cap, cur, rfl, hb, hgg, _⟩
  · cases hg
  · cases hg
    have := h.head
    unfold Blk at this
    rw [hgg] at this
    simp only [Option.some.injEq, Obj.cells.injEq] at this
    exact absurd this.2.1 (by decide)
theorem krow_info : ∃ i, RowInfo Try.prog 27 51 i (.agg #[.int .u64 0, .int .i64 0, .int .u64 0]) 3 24 := by
  obtain ⟨i0, hi, hz0, hz1, hz2⟩ := info_parts (show (Try.prog.info? 51).map (fun i => (i.zero, i.size, i.bytes)) = some (some (.agg #[.int .u64 0, .int .i64 0, .int .u64 0]), 3, 24) by kernel_rfl)
  exact ⟨i0, Try.underlying27, hi, hz0, hz1, hz2, by simp [Value.cells], by decide, by decide⟩

set_option maxHeartbeats 4000000 in
theorem k_at (r B : Nat) (v : Value) (L : Row) (k : RK) (w : World) (h : KRow w r B v L) (hR : Rises L) (hf : L.length ≤ 65535) :
    Calls Try.prog 30 #[.pointer (some ⟨r, 0, none⟩), .agg #[.int .u64 k.1, .int .i64 k.2]] w fun e w' => Below w.heap.size w w' ∧ ∃ q : Int, e = .returned (.int .i64 q) ∧ ((get k L = none ∧ q = -1) ∨ ∃ (i : Nat) (x : Int), q = (i : Int) ∧ L[i]? = some (k, x) ∧ get k L = some x) := by
  obtain ⟨A, c, rfl, hlc, hcm, hcells⟩ := h.form
  have HH := Lib.hid h
  have HC := Lib.hid hcells
  have HR := Lib.hid hR
  obtain ⟨l, hl⟩ : ∃ l, L.length = l := ⟨_, rfl⟩
  have HLL := Lib.hid hl
  have c0 := h.head.get 0 rfl
  rw [hl] at c0 hf hlc HC
  clear h hcells hl hR hcm hlc
  go_enter Try.func30, Try.ntmps30
  go_upto_region 1 with (fail)
  have hb0 : Below w.heap.size w (w.alloc (.cells #[.int .u64 k.1, .int .i64 k.2] 31)) := by go_grown
  have kb := Blk.new w 31 #[.int .u64 k.1, .int .i64 k.2]
  generalize w.alloc (.cells #[.int .u64 k.1, .int .i64 k.2] 31) = w0 at hb0 kb ⊢
  have HB0 := Lib.hid (And.intro hb0 kb)
  have c0 := (hb0.cell (p := ⟨r, 0, none⟩) HH.out.head.lt).trans c0
  clear hb0 kb
  go_wp2
  go_loopg [5] l (fun gk ix wr => ∃ i : Nat, i + gk = l ∧ ix = .int .i64 i ∧ Below w0.heap.size w0 wr ∧ ∀ j p, j < i → L[j]? = some p → p.1 ≠ k)
  case atStart => exact ⟨0, by omega, rfl, Below.refl _ _, fun j p hj => absurd hj (by omega)⟩
  case round =>
    obtain ⟨i, hi, rfl, hb, hn⟩ := hrel
    have HB := Lib.hid (HB0.out.1.trans (hb.mono HB0.out.1.size))
    have HKB := Lib.hid (HB0.out.2.next hb)
    have HBW := Lib.hid hb
    have HNO := Lib.hid hn
    have c0 := (hb.cell (p := ⟨r, 0, none⟩) (Nat.lt_of_lt_of_le HH.out.head.lt HB0.out.1.size)).trans c0
    clear hb hn
    by_cases hlt : i < l
    · obtain ⟨gm, rfl⟩ : ∃ gm, gk = gm + 1 := ⟨gk - 1, by omega⟩
      obtain ⟨y, x, q1, q2⟩ := k_lookup (L := L) (i := i) (by rw [HLL.out]; exact hlt)
      obtain ⟨g, rfl, hg1, hg2, hg3⟩ := HC.out (by omega)
      have hgw : g < wr.heap.size := Nat.lt_of_lt_of_le hg2 HB.out.size
      have c1 := (HB.out.cell (p := ⟨g, i * 3, none⟩) hg2).trans (hg3 i _ q1).1
      have c2 := (HB.out.cell (p := ⟨g, i * 3 + 1, none⟩) hg2).trans (hg3 i _ q1).2.1
      dsimp only at c1 c2
      have HCC := Lib.hid (And.intro c0 (And.intro c1 (And.intro c2 (And.intro hgw (Nat.lt_of_lt_of_le HH.out.head.lt HB.out.size)))))
      have HQ := Lib.hid (And.intro q1 q2)
      have p0 : (0 : Int) ≤ (i : Int) := by omega
      have p1 : (i : Int) < (l : Int) := by omega
      have e5 : wrap64 ((i : Int) + 1) = ((i + 1 : Nat) : Int) := by unfold wrap64; omega
      clear hg3 q1 q2 hg1 hg2 hgw c1 c2
      obtain ⟨bb, hbb⟩ : ∃ bb : Bool, decide (y = k) = bb := ⟨_, rfl⟩
      have hiff : (bb != false) = true ↔ y = k := by rw [← hbb]; by_cases e : y = k <;> simp [e]
      have HKE := Lib.hid (fun w => eq_key y k (bb != false) w (by rw [hiff]))
      have HBQ := Lib.hid hbb
      clear hbb hiff
      go_upto_region 4 with (fail)
      clear c0
      have KP : Hid (∀ w', Below (wr.heap.size) wr w' → (w'.cell? ⟨r, 0, none⟩ = some (.slice (some ⟨g, 0, none⟩) l c) ∧ w'.cell? ⟨w.heap.size, 0, none⟩ = some (.int .u64 k.1) ∧ w'.cell? ⟨w.heap.size, 1, none⟩ = some (.int .i64 k.2) ∧ w'.cell? ⟨g, i * 3, none⟩ = some (.int .u64 y.1) ∧ w'.cell? ⟨g, i * 3 + 1, none⟩ = some (.int .i64 y.2)) ∧ Below (wr.heap.size) wr w') := fun w' hb => ⟨⟨((hb.cell (p := ⟨r, 0, none⟩) HCC.out.2.2.2.2).trans HCC.out.1), (HKB.out.next hb).get 0 rfl, (HKB.out.next hb).get 1 rfl, ((hb.cell (p := ⟨g, i * 3, none⟩) HCC.out.2.2.2.1).trans HCC.out.2.1), ((hb.cell (p := ⟨g, i * 3 + 1, none⟩) HCC.out.2.2.2.1).trans HCC.out.2.2.1)⟩, hb⟩
      cases bb with
      | true =>
        have hy : y = k := of_decide_eq_true HBQ.out
        have HY := Lib.hid hy
        clear hy
        refine wp_region_noPanic ?_
        refine wp_region_held_drew (S := fun w' => (w'.cell? ⟨r, 0, none⟩ = some (.slice (some ⟨g, 0, none⟩) l c) ∧ w'.cell? ⟨w.heap.size, 0, none⟩ = some (.int .u64 k.1) ∧ w'.cell? ⟨w.heap.size, 1, none⟩ = some (.int .i64 k.2) ∧ w'.cell? ⟨g, i * 3, none⟩ = some (.int .u64 y.1) ∧ w'.cell? ⟨g, i * 3 + 1, none⟩ = some (.int .i64 y.2)) ∧ Below (wr.heap.size) wr w') (by kernel_rfl) (KP.out _ (below_of_drew ((Below.refl wr.heap.size wr)))) (fun hH => ?_)
        first | (refine wpAnyH_take (i := 0) (v := undef) rfl ?_ ?_ ?_ (fun _ _ _ h => h) ?_ ?_ ?_; kernel_rfl; kernel_rfl; kernel_rfl; exact Or.inr ⟨by rfl, rfl⟩; exact hH) | (refine wpAnyH_take (i := 0) (v := ?_) rfl ?_ ?_ ?_ (fun _ _ _ h => h) ?_ ?_ ?_; rotate_left; kernel_rfl; kernel_rfl; kernel_rfl; (focus (refine Or.inl ⟨by rfl, ?_⟩; intro w' hSw; (try dsimp only at hSw); go_simp)); exact hH) | (refine wpAnyH_take (i := 0) (v := ?_) rfl ?_ ?_ ?_ (fun _ _ _ h => h) ?_ ?_ ?_; rotate_left; kernel_rfl; kernel_rfl; kernel_rfl; (focus (refine Or.inl ⟨by rfl, ?_⟩; intro w' hSw; (try dsimp only at hSw); go_simp; with_reducible rfl)); exact hH)
        try simp only [Act.put, List.getElem_toArray, List.getElem_cons_succ, List.getElem_cons_zero, List.setIfInBounds_toArray, List.set_cons_zero, List.set_cons_succ]
        first | (refine wpAnyH_take (i := 1) (v := undef) rfl ?_ ?_ ?_ (fun _ _ _ h => h) ?_ ?_ ?_; kernel_rfl; kernel_rfl; kernel_rfl; exact Or.inr ⟨by rfl, rfl⟩; exact hH) | (refine wpAnyH_take (i := 1) (v := ?_) rfl ?_ ?_ ?_ (fun _ _ _ h => h) ?_ ?_ ?_; rotate_left; kernel_rfl; kernel_rfl; kernel_rfl; (focus (refine Or.inl ⟨by rfl, ?_⟩; intro w' hSw; (try dsimp only at hSw); go_simp)); exact hH) | (refine wpAnyH_take (i := 1) (v := ?_) rfl ?_ ?_ ?_ (fun _ _ _ h => h) ?_ ?_ ?_; rotate_left; kernel_rfl; kernel_rfl; kernel_rfl; (focus (refine Or.inl ⟨by rfl, ?_⟩; intro w' hSw; (try dsimp only at hSw); go_simp; with_reducible rfl)); exact hH)
        try simp only [Act.put, List.getElem_toArray, List.getElem_cons_succ, List.getElem_cons_zero, List.setIfInBounds_toArray, List.set_cons_zero, List.set_cons_succ]
        first | (refine wpAnyH_take (i := 2) (v := undef) rfl ?_ ?_ ?_ (fun _ _ _ h => h) ?_ ?_ ?_; kernel_rfl; kernel_rfl; kernel_rfl; exact Or.inr ⟨by rfl, rfl⟩; exact hH) | (refine wpAnyH_take (i := 2) (v := ?_) rfl ?_ ?_ ?_ (fun _ _ _ h => h) ?_ ?_ ?_; rotate_left; kernel_rfl; kernel_rfl; kernel_rfl; (focus (refine Or.inl ⟨by rfl, ?_⟩; intro w' hSw; (try dsimp only at hSw); go_simp)); exact hH) | (refine wpAnyH_take (i := 2) (v := ?_) rfl ?_ ?_ ?_ (fun _ _ _ h => h) ?_ ?_ ?_; rotate_left; kernel_rfl; kernel_rfl; kernel_rfl; (focus (refine Or.inl ⟨by rfl, ?_⟩; intro w' hSw; (try dsimp only at hSw); go_simp; with_reducible rfl)); exact hH)
        try simp only [Act.put, List.getElem_toArray, List.getElem_cons_succ, List.getElem_cons_zero, List.setIfInBounds_toArray, List.set_cons_zero, List.set_cons_succ]
        first | (refine wpAnyH_take (i := 3) (v := undef) rfl ?_ ?_ ?_ (fun _ _ _ h => h) ?_ ?_ ?_; kernel_rfl; kernel_rfl; kernel_rfl; exact Or.inr ⟨by rfl, rfl⟩; exact hH) | (refine wpAnyH_take (i := 3) (v := ?_) rfl ?_ ?_ ?_ (fun _ _ _ h => h) ?_ ?_ ?_; rotate_left; kernel_rfl; kernel_rfl; kernel_rfl; (focus (refine Or.inl ⟨by rfl, ?_⟩; intro w' hSw; (try dsimp only at hSw); go_simp)); exact hH) | (refine wpAnyH_take (i := 3) (v := ?_) rfl ?_ ?_ ?_ (fun _ _ _ h => h) ?_ ?_ ?_; rotate_left; kernel_rfl; kernel_rfl; kernel_rfl; (focus (refine Or.inl ⟨by rfl, ?_⟩; intro w' hSw; (try dsimp only at hSw); go_simp; with_reducible rfl)); exact hH)
        try simp only [Act.put, List.getElem_toArray, List.getElem_cons_succ, List.getElem_cons_zero, List.setIfInBounds_toArray, List.set_cons_zero, List.set_cons_succ]
        first | (refine wpAnyH_take (i := 4) (v := undef) rfl ?_ ?_ ?_ (fun _ _ _ h => h) ?_ ?_ ?_; kernel_rfl; kernel_rfl; kernel_rfl; exact Or.inr ⟨by rfl, rfl⟩; exact hH) | (refine wpAnyH_take (i := 4) (v := ?_) rfl ?_ ?_ ?_ (fun _ _ _ h => h) ?_ ?_ ?_; rotate_left; kernel_rfl; kernel_rfl; kernel_rfl; (focus (refine Or.inl ⟨by rfl, ?_⟩; intro w' hSw; (try dsimp only at hSw); go_simp)); exact hH) | (refine wpAnyH_take (i := 4) (v := ?_) rfl ?_ ?_ ?_ (fun _ _ _ h => h) ?_ ?_ ?_; rotate_left; kernel_rfl; kernel_rfl; kernel_rfl; (focus (refine Or.inl ⟨by rfl, ?_⟩; intro w' hSw; (try dsimp only at hSw); go_simp; with_reducible rfl)); exact hH)
        try simp only [Act.put, List.getElem_toArray, List.getElem_cons_succ, List.getElem_cons_zero, List.setIfInBounds_toArray, List.set_cons_zero, List.set_cons_succ]
        first | (refine wpAnyH_take (i := 5) (v := undef) rfl ?_ ?_ ?_ (fun _ _ _ h => h) ?_ ?_ ?_; kernel_rfl; kernel_rfl; kernel_rfl; exact Or.inr ⟨by rfl, rfl⟩; exact hH) | (refine wpAnyH_take (i := 5) (v := ?_) rfl ?_ ?_ ?_ (fun _ _ _ h => h) ?_ ?_ ?_; rotate_left; kernel_rfl; kernel_rfl; kernel_rfl; (focus (refine Or.inl ⟨by rfl, ?_⟩; intro w' hSw; (try dsimp only at hSw); go_simp)); exact hH) | (refine wpAnyH_take (i := 5) (v := ?_) rfl ?_ ?_ ?_ (fun _ _ _ h => h) ?_ ?_ ?_; rotate_left; kernel_rfl; kernel_rfl; kernel_rfl; (focus (refine Or.inl ⟨by rfl, ?_⟩; intro w' hSw; (try dsimp only at hSw); go_simp; with_reducible rfl)); exact hH)
        try simp only [Act.put, List.getElem_toArray, List.getElem_cons_succ, List.getElem_cons_zero, List.setIfInBounds_toArray, List.set_cons_zero, List.set_cons_succ]
        first | (refine wpAnyH_take (i := 6) (v := undef) rfl ?_ ?_ ?_ (fun _ _ _ h => h) ?_ ?_ ?_; kernel_rfl; kernel_rfl; kernel_rfl; exact Or.inr ⟨by rfl, rfl⟩; exact hH) | (refine wpAnyH_take (i := 6) (v := ?_) rfl ?_ ?_ ?_ (fun _ _ _ h => h) ?_ ?_ ?_; rotate_left; kernel_rfl; kernel_rfl; kernel_rfl; (focus (refine Or.inl ⟨by rfl, ?_⟩; intro w' hSw; (try dsimp only at hSw); go_simp)); exact hH) | (refine wpAnyH_take (i := 6) (v := ?_) rfl ?_ ?_ ?_ (fun _ _ _ h => h) ?_ ?_ ?_; rotate_left; kernel_rfl; kernel_rfl; kernel_rfl; (focus (refine Or.inl ⟨by rfl, ?_⟩; intro w' hSw; (try dsimp only at hSw); go_simp; with_reducible rfl)); exact hH)
        try simp only [Act.put, List.getElem_toArray, List.getElem_cons_succ, List.getElem_cons_zero, List.setIfInBounds_toArray, List.set_cons_zero, List.set_cons_succ]
        first | (refine wpAnyH_take (i := 7) (v := undef) rfl ?_ ?_ ?_ (fun _ _ _ h => h) ?_ ?_ ?_; kernel_rfl; kernel_rfl; kernel_rfl; exact Or.inr ⟨by rfl, rfl⟩; exact hH) | (refine wpAnyH_take (i := 7) (v := ?_) rfl ?_ ?_ ?_ (fun _ _ _ h => h) ?_ ?_ ?_; rotate_left; kernel_rfl; kernel_rfl; kernel_rfl; (focus (refine Or.inl ⟨by rfl, ?_⟩; intro w' hSw; (try dsimp only at hSw); go_simp)); exact hH) | (refine wpAnyH_take (i := 7) (v := ?_) rfl ?_ ?_ ?_ (fun _ _ _ h => h) ?_ ?_ ?_; rotate_left; kernel_rfl; kernel_rfl; kernel_rfl; (focus (refine Or.inl ⟨by rfl, ?_⟩; intro w' hSw; (try dsimp only at hSw); go_simp; with_reducible rfl)); exact hH)
        try simp only [Act.put, List.getElem_toArray, List.getElem_cons_succ, List.getElem_cons_zero, List.setIfInBounds_toArray, List.set_cons_zero, List.set_cons_succ]
        first | (refine wpAnyH_take (i := 8) (v := undef) rfl ?_ ?_ ?_ (fun _ _ _ h => h) ?_ ?_ ?_; kernel_rfl; kernel_rfl; kernel_rfl; exact Or.inr ⟨by rfl, rfl⟩; exact hH) | (refine wpAnyH_take (i := 8) (v := ?_) rfl ?_ ?_ ?_ (fun _ _ _ h => h) ?_ ?_ ?_; rotate_left; kernel_rfl; kernel_rfl; kernel_rfl; (focus (refine Or.inl ⟨by rfl, ?_⟩; intro w' hSw; (try dsimp only at hSw); go_simp)); exact hH) | (refine wpAnyH_take (i := 8) (v := ?_) rfl ?_ ?_ ?_ (fun _ _ _ h => h) ?_ ?_ ?_; rotate_left; kernel_rfl; kernel_rfl; kernel_rfl; (focus (refine Or.inl ⟨by rfl, ?_⟩; intro w' hSw; (try dsimp only at hSw); go_simp; with_reducible rfl)); exact hH)
        try simp only [Act.put, List.getElem_toArray, List.getElem_cons_succ, List.getElem_cons_zero, List.setIfInBounds_toArray, List.set_cons_zero, List.set_cons_succ]
        (refine wpAnyH_take (i := 9) (v := .bool true) rfl ?_ ?_ ?_ (fun _ _ _ h => h) ?_ ?_ ?_; kernel_rfl; kernel_rfl; kernel_rfl; exact yields_cmp rfl false 31 _ _ _ rfl _ _ rfl rfl true (by kernel_rfl) HKE.out; exact hH)
        try simp only [Act.put, List.getElem_toArray, List.getElem_cons_succ, List.getElem_cons_zero, List.setIfInBounds_toArray, List.set_cons_zero, List.set_cons_succ]
        refine wpAnyH_done (by kernel_rfl) ?_ _
        refine NoPanic.normal ?_
        have hbD := hH.2
        clear hH
        have HZ := Lib.hid (HB.out.trans (hbD.mono HB.out.size))
        clear hbD KP HKE
        go_wp2
        go_ret
        have hq := HQ.out.1
        rw [HY.out] at hq
        exact ⟨HZ.out, _, rfl, Or.inr ⟨i, x, rfl, hq, get_at HR.out hq⟩⟩
      | false =>
        have hy : ¬ y = k := of_decide_eq_false HBQ.out
        have HNY := Lib.hid hy
        clear hy
        refine wp_region_noPanic ?_
        refine wp_region_held_drew (S := fun w' => (w'.cell? ⟨r, 0, none⟩ = some (.slice (some ⟨g, 0, none⟩) l c) ∧ w'.cell? ⟨w.heap.size, 0, none⟩ = some (.int .u64 k.1) ∧ w'.cell? ⟨w.heap.size, 1, none⟩ = some (.int .i64 k.2) ∧ w'.cell? ⟨g, i * 3, none⟩ = some (.int .u64 y.1) ∧ w'.cell? ⟨g, i * 3 + 1, none⟩ = some (.int .i64 y.2)) ∧ Below (wr.heap.size) wr w') (by kernel_rfl) (KP.out _ (below_of_drew ((Below.refl wr.heap.size wr)))) (fun hH => ?_)
        first | (refine wpAnyH_take (i := 0) (v := undef) rfl ?_ ?_ ?_ (fun _ _ _ h => h) ?_ ?_ ?_; kernel_rfl; kernel_rfl; kernel_rfl; exact Or.inr ⟨by rfl, rfl⟩; exact hH) | (refine wpAnyH_take (i := 0) (v := ?_) rfl ?_ ?_ ?_ (fun _ _ _ h => h) ?_ ?_ ?_; rotate_left; kernel_rfl; kernel_rfl; kernel_rfl; (focus (refine Or.inl ⟨by rfl, ?_⟩; intro w' hSw; (try dsimp only at hSw); go_simp)); exact hH) | (refine wpAnyH_take (i := 0) (v := ?_) rfl ?_ ?_ ?_ (fun _ _ _ h => h) ?_ ?_ ?_; rotate_left; kernel_rfl; kernel_rfl; kernel_rfl; (focus (refine Or.inl ⟨by rfl, ?_⟩; intro w' hSw; (try dsimp only at hSw); go_simp; with_reducible rfl)); exact hH)
        try simp only [Act.put, List.getElem_toArray, List.getElem_cons_succ, List.getElem_cons_zero, List.setIfInBounds_toArray, List.set_cons_zero, List.set_cons_succ]
        first | (refine wpAnyH_take (i := 1) (v := undef) rfl ?_ ?_ ?_ (fun _ _ _ h => h) ?_ ?_ ?_; kernel_rfl; kernel_rfl; kernel_rfl; exact Or.inr ⟨by rfl, rfl⟩; exact hH) | (refine wpAnyH_take (i := 1) (v := ?_) rfl ?_ ?_ ?_ (fun _ _ _ h => h) ?_ ?_ ?_; rotate_left; kernel_rfl; kernel_rfl; kernel_rfl; (focus (refine Or.inl ⟨by rfl, ?_⟩; intro w' hSw; (try dsimp only at hSw); go_simp)); exact hH) | (refine wpAnyH_take (i := 1) (v := ?_) rfl ?_ ?_ ?_ (fun _ _ _ h => h) ?_ ?_ ?_; rotate_left; kernel_rfl; kernel_rfl; kernel_rfl; (focus (refine Or.inl ⟨by rfl, ?_⟩; intro w' hSw; (try dsimp only at hSw); go_simp; with_reducible rfl)); exact hH)
        try simp only [Act.put, List.getElem_toArray, List.getElem_cons_succ, List.getElem_cons_zero, List.setIfInBounds_toArray, List.set_cons_zero, List.set_cons_succ]
        first | (refine wpAnyH_take (i := 2) (v := undef) rfl ?_ ?_ ?_ (fun _ _ _ h => h) ?_ ?_ ?_; kernel_rfl; kernel_rfl; kernel_rfl; exact Or.inr ⟨by rfl, rfl⟩; exact hH) | (refine wpAnyH_take (i := 2) (v := ?_) rfl ?_ ?_ ?_ (fun _ _ _ h => h) ?_ ?_ ?_; rotate_left; kernel_rfl; kernel_rfl; kernel_rfl; (focus (refine Or.inl ⟨by rfl, ?_⟩; intro w' hSw; (try dsimp only at hSw); go_simp)); exact hH) | (refine wpAnyH_take (i := 2) (v := ?_) rfl ?_ ?_ ?_ (fun _ _ _ h => h) ?_ ?_ ?_; rotate_left; kernel_rfl; kernel_rfl; kernel_rfl; (focus (refine Or.inl ⟨by rfl, ?_⟩; intro w' hSw; (try dsimp only at hSw); go_simp; with_reducible rfl)); exact hH)
        try simp only [Act.put, List.getElem_toArray, List.getElem_cons_succ, List.getElem_cons_zero, List.setIfInBounds_toArray, List.set_cons_zero, List.set_cons_succ]
        first | (refine wpAnyH_take (i := 3) (v := undef) rfl ?_ ?_ ?_ (fun _ _ _ h => h) ?_ ?_ ?_; kernel_rfl; kernel_rfl; kernel_rfl; exact Or.inr ⟨by rfl, rfl⟩; exact hH) | (refine wpAnyH_take (i := 3) (v := ?_) rfl ?_ ?_ ?_ (fun _ _ _ h => h) ?_ ?_ ?_; rotate_left; kernel_rfl; kernel_rfl; kernel_rfl; (focus (refine Or.inl ⟨by rfl, ?_⟩; intro w' hSw; (try dsimp only at hSw); go_simp)); exact hH) | (refine wpAnyH_take (i := 3) (v := ?_) rfl ?_ ?_ ?_ (fun _ _ _ h => h) ?_ ?_ ?_; rotate_left; kernel_rfl; kernel_rfl; kernel_rfl; (focus (refine Or.inl ⟨by rfl, ?_⟩; intro w' hSw; (try dsimp only at hSw); go_simp; with_reducible rfl)); exact hH)
        try simp only [Act.put, List.getElem_toArray, List.getElem_cons_succ, List.getElem_cons_zero, List.setIfInBounds_toArray, List.set_cons_zero, List.set_cons_succ]
        first | (refine wpAnyH_take (i := 4) (v := undef) rfl ?_ ?_ ?_ (fun _ _ _ h => h) ?_ ?_ ?_; kernel_rfl; kernel_rfl; kernel_rfl; exact Or.inr ⟨by rfl, rfl⟩; exact hH) | (refine wpAnyH_take (i := 4) (v := ?_) rfl ?_ ?_ ?_ (fun _ _ _ h => h) ?_ ?_ ?_; rotate_left; kernel_rfl; kernel_rfl; kernel_rfl; (focus (refine Or.inl ⟨by rfl, ?_⟩; intro w' hSw; (try dsimp only at hSw); go_simp)); exact hH) | (refine wpAnyH_take (i := 4) (v := ?_) rfl ?_ ?_ ?_ (fun _ _ _ h => h) ?_ ?_ ?_; rotate_left; kernel_rfl; kernel_rfl; kernel_rfl; (focus (refine Or.inl ⟨by rfl, ?_⟩; intro w' hSw; (try dsimp only at hSw); go_simp; with_reducible rfl)); exact hH)
        try simp only [Act.put, List.getElem_toArray, List.getElem_cons_succ, List.getElem_cons_zero, List.setIfInBounds_toArray, List.set_cons_zero, List.set_cons_succ]
        first | (refine wpAnyH_take (i := 5) (v := undef) rfl ?_ ?_ ?_ (fun _ _ _ h => h) ?_ ?_ ?_; kernel_rfl; kernel_rfl; kernel_rfl; exact Or.inr ⟨by rfl, rfl⟩; exact hH) | (refine wpAnyH_take (i := 5) (v := ?_) rfl ?_ ?_ ?_ (fun _ _ _ h => h) ?_ ?_ ?_; rotate_left; kernel_rfl; kernel_rfl; kernel_rfl; (focus (refine Or.inl ⟨by rfl, ?_⟩; intro w' hSw; (try dsimp only at hSw); go_simp)); exact hH) | (refine wpAnyH_take (i := 5) (v := ?_) rfl ?_ ?_ ?_ (fun _ _ _ h => h) ?_ ?_ ?_; rotate_left; kernel_rfl; kernel_rfl; kernel_rfl; (focus (refine Or.inl ⟨by rfl, ?_⟩; intro w' hSw; (try dsimp only at hSw); go_simp; with_reducible rfl)); exact hH)
        try simp only [Act.put, List.getElem_toArray, List.getElem_cons_succ, List.getElem_cons_zero, List.setIfInBounds_toArray, List.set_cons_zero, List.set_cons_succ]
        first | (refine wpAnyH_take (i := 6) (v := undef) rfl ?_ ?_ ?_ (fun _ _ _ h => h) ?_ ?_ ?_; kernel_rfl; kernel_rfl; kernel_rfl; exact Or.inr ⟨by rfl, rfl⟩; exact hH) | (refine wpAnyH_take (i := 6) (v := ?_) rfl ?_ ?_ ?_ (fun _ _ _ h => h) ?_ ?_ ?_; rotate_left; kernel_rfl; kernel_rfl; kernel_rfl; (focus (refine Or.inl ⟨by rfl, ?_⟩; intro w' hSw; (try dsimp only at hSw); go_simp)); exact hH) | (refine wpAnyH_take (i := 6) (v := ?_) rfl ?_ ?_ ?_ (fun _ _ _ h => h) ?_ ?_ ?_; rotate_left; kernel_rfl; kernel_rfl; kernel_rfl; (focus (refine Or.inl ⟨by rfl, ?_⟩; intro w' hSw; (try dsimp only at hSw); go_simp; with_reducible rfl)); exact hH)
        try simp only [Act.put, List.getElem_toArray, List.getElem_cons_succ, List.getElem_cons_zero, List.setIfInBounds_toArray, List.set_cons_zero, List.set_cons_succ]
        first | (refine wpAnyH_take (i := 7) (v := undef) rfl ?_ ?_ ?_ (fun _ _ _ h => h) ?_ ?_ ?_; kernel_rfl; kernel_rfl; kernel_rfl; exact Or.inr ⟨by rfl, rfl⟩; exact hH) | (refine wpAnyH_take (i := 7) (v := ?_) rfl ?_ ?_ ?_ (fun _ _ _ h => h) ?_ ?_ ?_; rotate_left; kernel_rfl; kernel_rfl; kernel_rfl; (focus (refine Or.inl ⟨by rfl, ?_⟩; intro w' hSw; (try dsimp only at hSw); go_simp)); exact hH) | (refine wpAnyH_take (i := 7) (v := ?_) rfl ?_ ?_ ?_ (fun _ _ _ h => h) ?_ ?_ ?_; rotate_left; kernel_rfl; kernel_rfl; kernel_rfl; (focus (refine Or.inl ⟨by rfl, ?_⟩; intro w' hSw; (try dsimp only at hSw); go_simp; with_reducible rfl)); exact hH)
        try simp only [Act.put, List.getElem_toArray, List.getElem_cons_succ, List.getElem_cons_zero, List.setIfInBounds_toArray, List.set_cons_zero, List.set_cons_succ]
        first | (refine wpAnyH_take (i := 8) (v := undef) rfl ?_ ?_ ?_ (fun _ _ _ h => h) ?_ ?_ ?_; kernel_rfl; kernel_rfl; kernel_rfl; exact Or.inr ⟨by rfl, rfl⟩; exact hH) | (refine wpAnyH_take (i := 8) (v := ?_) rfl ?_ ?_ ?_ (fun _ _ _ h => h) ?_ ?_ ?_; rotate_left; kernel_rfl; kernel_rfl; kernel_rfl; (focus (refine Or.inl ⟨by rfl, ?_⟩; intro w' hSw; (try dsimp only at hSw); go_simp)); exact hH) | (refine wpAnyH_take (i := 8) (v := ?_) rfl ?_ ?_ ?_ (fun _ _ _ h => h) ?_ ?_ ?_; rotate_left; kernel_rfl; kernel_rfl; kernel_rfl; (focus (refine Or.inl ⟨by rfl, ?_⟩; intro w' hSw; (try dsimp only at hSw); go_simp; with_reducible rfl)); exact hH)
        try simp only [Act.put, List.getElem_toArray, List.getElem_cons_succ, List.getElem_cons_zero, List.setIfInBounds_toArray, List.set_cons_zero, List.set_cons_succ]
        (refine wpAnyH_take (i := 9) (v := .bool false) rfl ?_ ?_ ?_ (fun _ _ _ h => h) ?_ ?_ ?_; kernel_rfl; kernel_rfl; kernel_rfl; exact yields_cmp rfl false 31 _ _ _ rfl _ _ rfl rfl false (by kernel_rfl) HKE.out; exact hH)
        try simp only [Act.put, List.getElem_toArray, List.getElem_cons_succ, List.getElem_cons_zero, List.setIfInBounds_toArray, List.set_cons_zero, List.set_cons_succ]
        refine wpAnyH_done (by kernel_rfl) ?_ _
        refine NoPanic.normal ?_
        have hbD := hH.2
        clear hH
        have HZ := Lib.hid (HBW.out.trans (hbD.mono HBW.out.size))
        clear hbD KP HKE
        go_wp2
        go_roundg gm
        case rel => exact ⟨i + 1, by omega, by go_num, HZ.out, fun j p hj e => by
          by_cases hji : j = i
          · subst hji
            rw [HQ.out.1] at e
            cases e
            exact HNY.out
          · exact HNO.out j p (by omega) e⟩
        case measure => omega
    · obtain rfl : gk = 0 := by omega
      obtain rfl : i = l := by omega
      go_wp2
      go_ret
      refine ⟨HB.out, _, rfl, Or.inl ⟨get_none.2 fun p hp => ?_, rfl⟩⟩
      obtain ⟨j, hj, rfl⟩ := List.getElem_of_mem hp
      exact HNO.out j _ (by rw [← HLL.out]; exact hj) (List.getElem?_eq_getElem hj)

end Go.Proofs.Ytjlnbpomncglcaa
