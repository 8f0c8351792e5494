/-
  Aug's trees that nobody made.
-/
import Derived.Test.YtjlnbpomncglcaaProg
import Derived.Test.YtjlnbpomncglcaaAugJ
import Derived.Test.YtjlnbpomncglcaaRBHN
namespace Go.Proofs.Ytjlnbpomncglcaa
set_option linter.unusedVariables false
set_option linter.unusedSimpArgs false
set_option maxRecDepth 100000
open Go.RowKit Go.Shelf

attribute [local go_sem] Oper.semAt_some

/-- Nobody made the tree. -/
def NoA (w : World) (p : Value) : Prop := p = .pointer none ∨ ∃ U, p = .pointer (some ⟨U, 0, none⟩) ∧ Blk w U 101 #[.pointer none, .map none]
theorem NoA.next {w w' : World} {p : Value} (h : NoA w p) (hb : Below w.heap.size w w') : NoA w' p := h.imp id fun ⟨T, e, b⟩ => ⟨T, e, b.next hb⟩
theorem noA_h (w : World) : NoH w (.pointer none) := Or.inl rfl
theorem noa_of (p : Value) (w : World) (h : NoA w p) : Calls Try.prog 72 #[p] w fun e w' => e = .returned (.pointer none) ∧ w = w' := by
  rcases h with rfl | ⟨T, rfl, hb⟩
  · go_enter Try.func72, Try.ntmps72
    go_wp2
    go_ret
    exact ⟨rfl, rfl⟩
  · have c0 := hb.get 0 rfl
    clear hb
    go_enter Try.func72, Try.ntmps72
    go_wp2
    go_ret
    exact ⟨rfl, rfl⟩
theorem noa_put (p : Value) (id k v : Int) (w : World) (h : NoA w p) : Calls Try.prog 53 #[p, .int .i64 id, .int .u64 k, .int .u64 v] w fun e w' => e = .returned (.tuple #[]) ∧ Below w.heap.size w w' := by
  go_enter Try.func53, Try.ntmps53
  go_wp2_with fail
  with_reducible refine (noa_of p w h).mono ?_
  rintro e wx ⟨rfl, rfl⟩
  clear h
  go_wp2
  refine bodyPost_ret (results_none rfl _ _ _) rfl ?_
  exact ⟨rfl, Below.refl _ _⟩
theorem noa_drop (p : Value) (id : Int) (w : World) (h : NoA w p) : Calls Try.prog 55 #[p, .int .i64 id] w fun e w' => e = .returned (.bool false) ∧ Below w.heap.size w w' := by
  go_enter Try.func55, Try.ntmps55
  go_wp2_with fail
  with_reducible refine (noa_of p w h).mono ?_
  rintro e wx ⟨rfl, rfl⟩
  clear h
  go_wp2
  go_ret
  exact ⟨rfl, Below.refl _ _⟩
theorem noa_get (p : Value) (id : Int) (w : World) (h : NoA w p) : Calls Try.prog 47 #[p, .int .i64 id] w fun e w' => e = .returned (.tuple #[.int .u64 0, .int .u64 0, .bool false]) ∧ Below w.heap.size w w' := by
  go_enter Try.func47, Try.ntmps47
  go_wp2_with fail
  with_reducible refine (noa_of p w h).mono ?_
  rintro e wx ⟨rfl, rfl⟩
  clear h
  go_wp2
  go_returns
  exact ⟨rfl, Below.refl _ _⟩
theorem noh_first (w : World) : Calls Try.prog 80 #[.pointer none] w fun e w' => e = .returned (.tuple #[.agg #[.int .u64 0, .int .i64 0], .bool false]) ∧ Below w.heap.size w w' := rh_first _ [] _ (noh_over _ w (noA_h w)) w (noA_h w)
theorem noa_first (p : Value) (w : World) (h : NoA w p) : Calls Try.prog 51 #[p] w fun e w' => e = .returned (.tuple #[.int .i64 0, .bool false]) ∧ Below w.heap.size w w' := by
  go_enter Try.func51, Try.ntmps51
  go_wp2_with fail
  with_reducible refine (noa_of p w h).mono ?_
  rintro e wx ⟨rfl, rfl⟩
  clear h
  go_wp2_with fail
  with_reducible refine (noh_first w).mono ?_
  rintro e w1 ⟨rfl, hb⟩
  have HB := Lib.hid hb
  clear hb
  go_wp2
  go_returns
  exact ⟨rfl, below_next HB.out (by go_grown)⟩
theorem noa_least (p : Value) (k : Int) (w : World) (h : NoA w p) : Calls Try.prog 45 #[p, .int .u64 k] w fun e w' => e = .returned (.tuple #[.int .i64 0, .bool false]) ∧ Below w.heap.size w w' := by
  go_enter Try.func45, Try.ntmps45
  go_wp2_with fail
  with_reducible refine (noa_of p w h).mono ?_
  rintro e wx ⟨rfl, rfl⟩
  clear h
  go_wp2_with fail
  with_reducible refine (noh_upto _ k w (noA_h w)).mono ?_
  rintro e w1 ⟨rfl, hb⟩
  have HB := Lib.hid hb
  clear hb
  go_wp2
  go_returns
  exact ⟨rfl, below_next HB.out (by go_grown)⟩
theorem noa_lowest (p : Value) (w : World) (h : NoA w p) : Calls Try.prog 49 #[p] w fun e w' => e = .returned (.tuple #[.int .u64 0, .bool false]) ∧ Below w.heap.size w w' := by
  go_enter Try.func49, Try.ntmps49
  go_wp2_with fail
  with_reducible refine (noa_of p w h).mono ?_
  rintro e wx ⟨rfl, rfl⟩
  clear h
  go_wp2_with fail
  with_reducible refine (noh_all _ w (noA_h w)).mono ?_
  rintro e w1 ⟨rfl, hb⟩
  have HB := Lib.hid hb
  clear hb
  go_wp2
  go_returns
  exact ⟨rfl, below_next HB.out (by go_grown)⟩
theorem noa_len (p : Value) (w : World) (h : NoA w p) : Calls Try.prog 50 #[p] w fun e w' => e = .returned (.int .i64 0) ∧ Below w.heap.size w w' := by
  go_enter Try.func50, Try.ntmps50
  go_wp2_with fail
  with_reducible refine (noa_of p w h).mono ?_
  rintro e wx ⟨rfl, rfl⟩
  clear h
  go_wp2_with fail
  with_reducible refine (noh_len _ w (noA_h w)).mono ?_
  rintro e w1 ⟨rfl, hb⟩
  have HB := Lib.hid hb
  clear hb
  go_wp2
  go_ret
  exact ⟨by simp, HB.out⟩
theorem noa_within (p : Value) (v : Int) (w : World) (h : NoA w p) : Calls Try.prog 46 #[p, .int .u64 v] w fun e w' => e = .returned (.tuple #[.int .i64 0, .bool false]) ∧ Below w.heap.size w w' := by
  obtain ⟨w0, hw0⟩ : ∃ x, w.alloc (.cells #[.int .u64 v] 23) = x := ⟨_, rfl⟩
  have hb0 : Below w.heap.size w w0 := by rw [← hw0]; go_grown
  have H0 := Lib.hid (And.intro (h.next hb0) hb0)
  have HEQ := Lib.hid hw0
  clear h hw0 hb0
  go_enter Try.func46, Try.ntmps46
  go_wp2_with fail
  rw [HEQ.out]
  with_reducible refine (noa_of p w0 H0.out.1).mono ?_
  rintro e wx ⟨rfl, rfl⟩
  go_wp2_with fail
  with_reducible refine (noh_find _ _ w0 (noA_h w0)).mono ?_
  rintro e w1 ⟨rfl, hb⟩
  have HB := Lib.hid (below_next H0.out.2 hb)
  clear hb
  go_wp2
  go_returns
  exact ⟨rfl, below_next HB.out (by go_grown)⟩
theorem noa_copy (w : World) : Calls Try.prog 52 #[.pointer none] w fun e w' => e = .returned (.pointer none) ∧ Below w.heap.size w w' := by
  go_enter Try.func52, Try.ntmps52
  go_wp2
  go_ret
  exact ⟨by simp, by go_grown⟩
set_option maxHeartbeats 4000000 in
theorem noa_ids (p : Value) (w : World) (h : NoA w p) :
    Calls Try.prog 48 #[p] w fun e w' => ∃ v, e = .returned v ∧ w'.ownsRow w.heap.size 3 1 v 0 (idCells []) ∧ Below w.heap.size w w' := by
  refine calls_of_wp_marks Try.func48 rfl ?_
  simp only [Try.ntmps48, List.size_toArray, List.length_cons, List.length_nil, Nat.reduceAdd, Nat.reduceSub, Array.replicate_succ, Array.replicate_zero, List.push_toArray, List.append_toArray, List.nil_append, List.cons_append]
  obtain ⟨w0, hw0⟩ : ∃ x, w.alloc (.cells #[.slice none 0 0] 80) = x := ⟨_, rfl⟩
  have hb0 : Below w.heap.size w w0 := by rw [← hw0]; go_grown
  have bO : Blk w0 w.heap.size 80 #[.slice none 0 0] := by rw [← hw0]; exact Blk.new w _ _
  have hz0 : w0.heap.size = w.heap.size + 1 := by rw [← hw0]; simp
  have H0 := Lib.hid (And.intro (h.next hb0) (And.intro hb0 (And.intro bO hz0)))
  have HEQ := Lib.hid hw0
  clear hw0 hb0 bO hz0 h
  go_wp2_with fail
  rw [HEQ.out]
  with_reducible refine (noa_of p w0 H0.out.1).mono ?_
  rintro e wx ⟨rfl, rfl⟩
  go_wp2_with fail
  with_reducible refine (rh_Each _ rfl _).mono ?_
  rintro e w1 ⟨rfl, rfl⟩
  go_wp2_with fail
  have bT := Blk.new w0 98 #[.pointer none]
  have bO := H0.out.2.2.1.alloc (.cells #[.pointer none] 98)
  have hB0 : Below w.heap.size w (w0.alloc (.cells #[.pointer none] 98)) := H0.out.2.1.alloc H0.out.2.1.size _
  have hsz : (w0.alloc (.cells #[.pointer none] 98)).heap.size = w.heap.size + 2 := by simp [H0.out.2.2.2]
  rw [H0.out.2.2.2] at bT ⊢
  obtain ⟨W0, hW0⟩ : ∃ W0, w0.alloc (.cells #[.pointer none] 98) = W0 := ⟨_, rfl⟩
  rw [hW0] at bO bT hB0 hsz ⊢
  clear hW0
  refine wp_range (gf := 104) (lb := #[.pointer (some ⟨w.heap.size + 1, 0, none⟩)]) rfl (enters_of Try.func104 (by kernel_rfl) rfl) ((noh_over (.pointer none) w (noA_h w)).yields (w.heap.size + 1)) (fun _ _ => rfl)
    (fun k W => Blk W w.heap.size 80 #[.slice none 0 0] ∧ Blk W (w.heap.size + 1) 98 #[.pointer none] ∧ Below w.heap.size w W ∧ w.heap.size + 2 ≤ W.heap.size)
    (fun _ _ _ => False) ?hI (fun _ _ _ _ h _ => h) (fun k A h => ⟨noA_h A, h.2.1⟩) ?h0 ?hround ?hdone (fun _ _ _ _ h _ => h.elim)
  case hI =>
    rintro k A C ⟨h1, h4, h5, h6⟩ hs
    exact ⟨h1.stays hs, h4.stays hs, below_stays h5 hs (by omega), Nat.le_trans h6 hs.size⟩
  case h0 => exact ⟨bO, bT, hB0, by omega⟩
  case hround =>
    intro k W hk
    exact absurd hk (Nat.not_lt_zero _)
  case hdone =>
    rintro W ⟨h1, h4, h5, h6⟩ hD
    have c1 := h1.get 0 rfl
    go_wp2
    refine marks_ret (B := w.heap.size) [W0.heap.size] rfl (by intro D hd; simp only [List.mem_singleton] at hd; subst hd; exact ⟨by omega, hD⟩) (by simp) ?_
    intro w' hs
    exact ⟨_, results_tmp rfl _ _ _, _, rfl, World.ownsRow_nil _ _ _ _, below_stays h5 hs (Nat.le_refl _)⟩
theorem noa_ask (p : Value) : AugAsk p (fun W => NoA W p) [] :=
  ⟨fun w w' h hb => h.next hb, fun id w h => noa_get p id w h, fun w h => noa_first p w h, fun k w h => noa_least p k w h, fun v w h => noa_within p v w h, fun w h => noa_lowest p w h, fun w h => noa_len p w h, fun w h => noa_ids p w h⟩

end Go.Proofs.Ytjlnbpomncglcaa
