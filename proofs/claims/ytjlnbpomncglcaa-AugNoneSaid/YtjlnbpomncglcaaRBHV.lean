/-
  Red-black trees in memory (h): the first key.
-/
import Derived.Test.YtjlnbpomncglcaaProg
import Derived.Test.YtjlnbpomncglcaaRBHU
namespace Go.Proofs.Ytjlnbpomncglcaa
set_option linter.unusedVariables false
set_option linter.unusedSimpArgs false
set_option maxRecDepth 100000
open Go.RowKit Go.Shelf

attribute [local go_sem] Oper.semAt_some

def firstK : Row → RK
  | [] => (0, 0)
  | p :: _ => p.1

/-- What is asked of a tree for going over it. -/
structure OverH (p : Value) (L : Row) (Inv : World → Prop) : Prop where
  one : p.oneCell' = true
  yields : ∀ B0, Yields Try.prog 104 #[.pointer (some ⟨B0, 0, none⟩)] L.length (encRB L) (fun W => Inv W ∧ Blk W B0 98 #[p])
  stays : ∀ (B : Nat) (w w' : World), Inv w → Stays B w w' → Inv w'
  next : ∀ (w w' : World), Inv w → Below w.heap.size w w' → Inv w'
theorem overH (T : Nat) (t : RB (Int × Int)) : OverH (.pointer (some ⟨T, 0, none⟩)) t.items (fun W => TrIsH W T t) := ⟨rfl, fun B0 => rh_yields T B0 t, fun B w w' h hs => h.stays hs, fun w w' h hb => h.next hb⟩
set_option maxHeartbeats 4000000 in
theorem rh_first (p : Value) (L : Row) (Inv : World → Prop) (H : OverH p L Inv) (w : World) (h : Inv w) :
    Calls Try.prog 80 #[p] w fun e w' => e = .returned (.tuple #[.agg #[.int .u64 (firstK L).1, .int .i64 (firstK L).2], .bool (!L.isEmpty)]) ∧ Below w.heap.size w w' := by
  have HH := Lib.hid (And.intro H h)
  have h1 := H.one
  clear H h
  refine calls_of_wp_marks Try.func80 rfl ?_
  simp only [Try.ntmps80, List.size_toArray, List.length_cons, List.length_nil, Nat.reduceAdd, Nat.reduceSub, Array.replicate_succ, Array.replicate_zero, List.push_toArray, List.append_toArray, List.nil_append, List.cons_append]
  go_wp2_with fail
  with_reducible refine (rh_Each p h1 _).mono ?_
  rintro e w1 ⟨rfl, rfl⟩
  go_wp2_with fail
  obtain ⟨W0, hW0⟩ : ∃ x, ((w.alloc (.cells #[.int .u64 0, .int .i64 0] 31)).alloc (.cells #[.bool false] 4)).alloc (.cells #[p] 98) = x := ⟨_, rfl⟩
  have bK : Blk W0 w.heap.size 31 #[.int .u64 0, .int .i64 0] := by rw [← hW0]; exact ((Blk.new w _ _).alloc _).alloc _
  have bB : Blk W0 (w.heap.size + 1) 4 #[.bool false] := by rw [← hW0]; exact (Blk.new_at (by simp)).alloc _
  have bT : Blk W0 (w.heap.size + 2) 98 #[p] := by rw [← hW0]; exact Blk.new_at (by simp)
  have hB0 : Below w.heap.size w W0 := by rw [← hW0]; go_grown
  have hsz : W0.heap.size = w.heap.size + 3 := by rw [← hW0]; simp
  rw [hW0]
  clear hW0
  have h0i := HH.out.1.next _ _ HH.out.2 hB0
  refine wp_range (gf := 104) (lb := #[.pointer (some ⟨w.heap.size + 2, 0, none⟩)]) rfl (enters_of Try.func104 (by kernel_rfl) rfl) (HH.out.1.yields (w.heap.size + 2)) (fun _ _ => rfl)
    (fun k W => k = 0 ∧ Inv W ∧ Blk W (w.heap.size + 2) 98 #[p] ∧ Blk W w.heap.size 31 #[.int .u64 0, .int .i64 0] ∧ Blk W (w.heap.size + 1) 4 #[.bool false] ∧ Below w.heap.size w W ∧ W0.heap.size ≤ W.heap.size)
    (fun c k W => c = .ret ∧ L ≠ [] ∧ Blk W w.heap.size 31 #[.int .u64 (firstK L).1, .int .i64 (firstK L).2] ∧ Blk W (w.heap.size + 1) 4 #[.bool true] ∧ Below w.heap.size w W ∧ W0.heap.size ≤ W.heap.size) ?hI ?hIx (fun k A h => ⟨h.2.1, h.2.2.1⟩) ?h0 ?hround ?hdone ?hstop
  case hI =>
    rintro k A C ⟨rfl, h1, h2, h3, h4, h5, h6⟩ hs
    exact ⟨rfl, HH.out.1.stays _ _ _ h1 hs, h2.stays hs, h3.stays hs, h4.stays hs, below_stays h5 hs (by omega), Nat.le_trans h6 hs.size⟩
  case hIx =>
    rintro c k A C ⟨rfl, h0, h3, h4, h5, h6⟩ hs
    exact ⟨rfl, h0, h3.stays hs, h4.stays hs, below_stays h5 hs (by omega), Nat.le_trans h6 hs.size⟩
  case h0 => exact ⟨rfl, h0i, bT, bK, bB, hB0, Nat.le_refl _⟩
  case hround =>
    rintro k W hk ⟨rfl, h1, h2, h3, h4, h5, h6⟩ hlt
    obtain ⟨q, L', rfl⟩ : ∃ q L', L = q :: L' := by
      cases L with
      | nil => exact absurd hk (by simp)
      | cons q L' => exact ⟨q, L', rfl⟩
    rw [encRB_at (p := q) rfl]
    have HI := Lib.hid (And.intro h1 (And.intro h2 (And.intro h3 (And.intro h4 (And.intro h5 h6)))))
    clear h1 h2 h3 h4 h5 h6 bK bB bT hB0 h0i hk
    gi_wp2
    refine ⟨(Holds.refl hlt).alloc _, fun W2 hs => ?_⟩
    have bN : Blk W2 W.heap.size 31 #[.int .u64 q.1.1, .int .i64 q.1.2] := (Blk.new W _ _).stays hs
    have b3 := (HI.out.2.2.1.alloc (.cells #[.int .u64 q.1.1, .int .i64 q.1.2] 31)).stays hs
    have b4 := (HI.out.2.2.2.1.alloc (.cells #[.int .u64 q.1.1, .int .i64 q.1.2] 31)).stays hs
    have b5 : Below w.heap.size w W2 := below_stays (HI.out.2.2.2.2.1.alloc (Nat.le_trans (Nat.le_add_right _ 3) (by have := HI.out.2.2.2.2.2; omega)) _) hs (by omega)
    have hl2 : W0.heap.size + 1 < W2.heap.size := by have := hs.size; simp only [World.size_alloc] at this; omega
    have HX := Lib.hid (And.intro b3 (And.intro b4 b5))
    have n0 := bN.get 0 rfl
    have n1 := bN.get 1 rfl
    have f3 := b3.frozen 0
    have f3' := b3.frozen 1
    have f4 := b4.frozen 0
    have x3 := b3.get 0 rfl
    have x3' := b3.get 1 rfl
    have x4 := b4.get 0 rfl
    clear hs b3 b4 b5 bN
    gi_wp2
    refine ⟨(((Holds.refl hl2).set (p := ⟨w.heap.size, 0, none⟩) (show w.heap.size ≠ W0.heap.size by omega) (show w.heap.size ≠ W0.heap.size + 1 by omega) _).set (p := ⟨w.heap.size, 1, none⟩) (show w.heap.size ≠ W0.heap.size by omega) (show w.heap.size ≠ W0.heap.size + 1 by omega) _).set (p := ⟨w.heap.size + 1, 0, none⟩) (show w.heap.size + 1 ≠ W0.heap.size by omega) (show w.heap.size + 1 ≠ W0.heap.size + 1 by omega) _, rfl, by simp, ?_, ?_, ?_, ?_⟩
    · exact ((HX.out.1.put 0 _).put 1 _).far (p := ⟨w.heap.size + 1, 0, none⟩) (show w.heap.size ≠ w.heap.size + 1 by omega) _
    · exact ((HX.out.2.1.far (p := ⟨w.heap.size, 0, none⟩) (show w.heap.size + 1 ≠ w.heap.size by omega) _).far (p := ⟨w.heap.size, 1, none⟩) (show w.heap.size + 1 ≠ w.heap.size by omega) _).put 0 _
    · exact ((HX.out.2.2.setCell (p := ⟨w.heap.size, 0, none⟩) (Nat.le_refl _) _).setCell (p := ⟨w.heap.size, 1, none⟩) (Nat.le_refl _) _).setCell (p := ⟨w.heap.size + 1, 0, none⟩) (Nat.le_add_right _ 1) _
    · simp; omega
  case hdone =>
    rintro W ⟨h0, h1, h2, h3, h4, h5, h6⟩ hD
    obtain rfl : L = [] := List.eq_nil_of_length_eq_zero h0
    have HI := Lib.hid (And.intro h3 (And.intro h4 (And.intro h5 (And.intro h6 hD))))
    have f3 := h3.frozen 0
    have f3' := h3.frozen 1
    have f4 := h4.frozen 0
    have x3 := h3.get 0 rfl
    have x3' := h3.get 1 rfl
    have x4 := h4.get 0 rfl
    clear h1 h2 h3 h4 h5 h6 hD bK bB bT hB0 h0i
    go_wp2
    refine marks_ret (B := w.heap.size) [W0.heap.size] rfl (by intro D hd; simp only [List.mem_singleton] at hd; subst hd; exact ⟨by omega, (Below.heap_setCell _ _ _ _ (show W0.heap.size ≠ w.heap.size + 1 by omega)).trans ((Below.heap_setCell _ _ _ _ (show W0.heap.size ≠ w.heap.size by omega)).trans ((Below.heap_setCell _ _ _ _ (show W0.heap.size ≠ w.heap.size by omega)).trans HI.out.2.2.2.2))⟩) (by simp) ?_
    intro w' hs
    have b3 := (((HI.out.1.put 0 (.int .u64 0)).put 1 (.int .i64 0)).far (p := ⟨w.heap.size + 1, 0, none⟩) (show w.heap.size ≠ w.heap.size + 1 by omega) (.bool false)).stays hs
    have b4 := (((HI.out.2.1.far (p := ⟨w.heap.size, 0, none⟩) (show w.heap.size + 1 ≠ w.heap.size by omega) (.int .u64 0)).far (p := ⟨w.heap.size, 1, none⟩) (show w.heap.size + 1 ≠ w.heap.size by omega) (.int .i64 0)).put 0 (.bool false)).stays hs
    have b5 := below_stays (((HI.out.2.2.1.setCell (p := ⟨w.heap.size, 0, none⟩) (Nat.le_refl _) (.int .u64 0)).setCell (p := ⟨w.heap.size, 1, none⟩) (Nat.le_refl _) (.int .i64 0)).setCell (p := ⟨w.heap.size + 1, 0, none⟩) (Nat.le_add_right _ 1) (.bool false)) hs (Nat.le_refl _)
    have n0 : w'.cell? ⟨w.heap.size, 0, none⟩ = some (.int .u64 0) := b3.get 0 rfl
    have n1 : w'.cell? ⟨w.heap.size, 1, none⟩ = some (.int .i64 0) := b3.get 1 rfl
    have n2 : w'.cell? ⟨w.heap.size + 1, 0, none⟩ = some (.bool false) := b4.get 0 rfl
    exact ⟨_, by simp [results, Try.results80, go_sem, n0, n1, n2]; first | rfl | exact ⟨rfl, rfl⟩, rfl, b5⟩
  case hstop =>
    rintro c k W hk ⟨rfl, h0, h3, h4, h5, h6⟩ hD
    go_wp2
    refine marks_ret (B := w.heap.size) [W0.heap.size] rfl (by intro D hd; simp only [List.mem_singleton] at hd; subst hd; exact ⟨by omega, hD⟩) (by simp) ?_
    intro w' hs
    have b3 := h3.stays hs
    have b4 := h4.stays hs
    have b5 := below_stays h5 hs (Nat.le_refl _)
    have n0 : w'.cell? ⟨w.heap.size, 0, none⟩ = some (.int .u64 (firstK L).1) := b3.get 0 rfl
    have n1 : w'.cell? ⟨w.heap.size, 1, none⟩ = some (.int .i64 (firstK L).2) := b3.get 1 rfl
    have n2 : w'.cell? ⟨w.heap.size + 1, 0, none⟩ = some (.bool true) := b4.get 0 rfl
    have hem : (!L.isEmpty) = true := by cases L with | nil => exact absurd rfl h0 | cons a b => rfl
    rw [hem]
    exact ⟨_, by simp [results, Try.results80, go_sem, n0, n1, n2]; try rfl, rfl, b5⟩

end Go.Proofs.Ytjlnbpomncglcaa
