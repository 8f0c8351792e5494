/-
  The document's run of a bent curve: a start more; the least of all copies.
-/
import Derived.Test.YtdkeoanlcninkaaBentRefA
import Derived.Test.YtdkeoanlcninkaaRegionZ
namespace Go.Proofs.Ytdkeoanlcninkaa
set_option linter.unusedVariables false
set_option linter.unusedSimpArgs false
set_option maxRecDepth 100000
open Go.RowKit Go.Shelf

theorem rnew_bad (F L R : Int) (w : World) (wL : Word L) (h : (mayB F L R && decide (R < F)) = false) : Calls Try.prog 23 #[.agg #[.int .u64 F, .int .u64 L, .int .u64 R]] w fun e w' => e = .returned (.tuple #[.pointer none, .int .i64 30]) ∧ Below w.heap.size w w' := by
  rcases Bool.eq_false_or_eq_true (mayB F L R) with hm | hm
  · have hb : decide (R < F) = false := by rw [hm] at h; simpa using h
    have MA := Lib.hid (fun w => refmay_val F L R true w wL hm)
    have BE := Lib.hid (fun w => refbent_val F L R false w hb)
    clear h hm hb
    go_enter Try.func23, Try.ntmps23
    go_wp2_with fail
    with_reducible refine (MA.out _).mono ?_
    rintro e w1 ⟨rfl, hb1⟩
    have Cm : Blk w1 (w.heap.size) 24 #[.int .u64 F, .int .u64 L, .int .u64 R] := Blk.next (by repeat (first | (refine Blk.new_at ?_; simp only [World.size_alloc]; done) | (with_reducible refine Blk.alloc ?_ _) | (with_reducible refine Blk.drewN ?_ _))) hb1
    have Cb := Cm
    clear Cm
    have Cc0 : World.cell? w1 ⟨w.heap.size, 0, none⟩ = some (.int .u64 F) := Cb.get 0 rfl
    have Cf0 := Blk.frozen Cb 0
    have Cc1 : World.cell? w1 ⟨w.heap.size, 1, none⟩ = some (.int .u64 L) := Cb.get 1 rfl
    have Cf1 := Blk.frozen Cb 1
    have Cc2 : World.cell? w1 ⟨w.heap.size, 2, none⟩ = some (.int .u64 R) := Cb.get 2 rfl
    have Cf2 := Blk.frozen Cb 2
    have Cn := Blk.lt Cb
    have B1 : Below w.heap.size w w1 := by first | with_reducible exact hb1 | exact Below.trans (by go_grown) (hb1.mono (by simp only [World.size_alloc]; omega))
    clear hb1
    go_wp2_with fail
    with_reducible refine (BE.out _).mono ?_
    rintro e w2 ⟨rfl, hb2⟩
    have Cm : Blk w2 (w.heap.size) 24 #[.int .u64 F, .int .u64 L, .int .u64 R] := Blk.next (by repeat (first | (with_reducible exact Cb) | (refine Blk.new_at ?_; simp only [World.size_alloc]; done) | (with_reducible refine Blk.alloc ?_ _) | (with_reducible refine Blk.drewN ?_ _))) hb2
    clear Cn Cb Cc0 Cf0 Cc1 Cf1 Cc2 Cf2
    have Cb := Cm
    clear Cm
    have Cc0 : World.cell? w2 ⟨w.heap.size, 0, none⟩ = some (.int .u64 F) := Cb.get 0 rfl
    have Cf0 := Blk.frozen Cb 0
    have Cc1 : World.cell? w2 ⟨w.heap.size, 1, none⟩ = some (.int .u64 L) := Cb.get 1 rfl
    have Cf1 := Blk.frozen Cb 1
    have Cc2 : World.cell? w2 ⟨w.heap.size, 2, none⟩ = some (.int .u64 R) := Cb.get 2 rfl
    have Cf2 := Blk.frozen Cb 2
    have Cn := Blk.lt Cb
    have B2 : Below w.heap.size w w2 := by first | with_reducible exact below_next B1 hb2 | exact below_step B1 (by go_grown) hb2
    clear hb2 B1
    go_wp2_with fail
    go_ret2
    exact ⟨by simp, B2⟩
  · have MA := Lib.hid (fun w => refmay_val F L R false w wL hm)
    clear h hm
    go_enter Try.func23, Try.ntmps23
    go_wp2_with fail
    with_reducible refine (MA.out _).mono ?_
    rintro e w1 ⟨rfl, hb1⟩
    have Cm : Blk w1 (w.heap.size) 24 #[.int .u64 F, .int .u64 L, .int .u64 R] := Blk.next (by repeat (first | (refine Blk.new_at ?_; simp only [World.size_alloc]; done) | (with_reducible refine Blk.alloc ?_ _) | (with_reducible refine Blk.drewN ?_ _))) hb1
    have Cb := Cm
    clear Cm
    have Cc0 : World.cell? w1 ⟨w.heap.size, 0, none⟩ = some (.int .u64 F) := Cb.get 0 rfl
    have Cf0 := Blk.frozen Cb 0
    have Cc1 : World.cell? w1 ⟨w.heap.size, 1, none⟩ = some (.int .u64 L) := Cb.get 1 rfl
    have Cf1 := Blk.frozen Cb 1
    have Cc2 : World.cell? w1 ⟨w.heap.size, 2, none⟩ = some (.int .u64 R) := Cb.get 2 rfl
    have Cf2 := Blk.frozen Cb 2
    have Cn := Blk.lt Cb
    have B1 : Below w.heap.size w w1 := by first | with_reducible exact hb1 | exact Below.trans (by go_grown) (hb1.mono (by simp only [World.size_alloc]; omega))
    clear hb1
    go_wp2_with fail
    go_ret2
    exact ⟨by simp, B1⟩
theorem rnew_made (F L R : Int) (X Y : Nat → Int) (w : World) (wL : Word L) (hm : mayB F L R = true) (hb : R < F) : Calls Try.prog 23 #[.agg #[.int .u64 F, .int .u64 L, .int .u64 R]] w fun e w' =>
    ∃ p, e = .returned (.tuple #[.pointer (some ⟨p, 0, none⟩), .int .i64 0]) ∧ w.heap.size ≤ p ∧ IsCop w' p F L R 0 X Y ∧ Below w.heap.size w w' := by
  have MA := Lib.hid (fun w => refmay_val F L R true w wL hm)
  have BE := Lib.hid (fun w => refbent_val F L R true w (decide_eq_true hb))
  clear hm hb
  go_enter Try.func23, Try.ntmps23
  go_wp2_with fail
  with_reducible refine (MA.out _).mono ?_
  rintro e w1 ⟨rfl, hb1⟩
  have Cm : Blk w1 (w.heap.size) 24 #[.int .u64 F, .int .u64 L, .int .u64 R] := Blk.next (by repeat (first | (refine Blk.new_at ?_; simp only [World.size_alloc]; done) | (with_reducible refine Blk.alloc ?_ _) | (with_reducible refine Blk.drewN ?_ _))) hb1
  have Cb := Cm
  clear Cm
  have Cc0 : World.cell? w1 ⟨w.heap.size, 0, none⟩ = some (.int .u64 F) := Cb.get 0 rfl
  have Cf0 := Blk.frozen Cb 0
  have Cc1 : World.cell? w1 ⟨w.heap.size, 1, none⟩ = some (.int .u64 L) := Cb.get 1 rfl
  have Cf1 := Blk.frozen Cb 1
  have Cc2 : World.cell? w1 ⟨w.heap.size, 2, none⟩ = some (.int .u64 R) := Cb.get 2 rfl
  have Cf2 := Blk.frozen Cb 2
  have Cn := Blk.lt Cb
  have B1 : Below w.heap.size w w1 := by first | with_reducible exact hb1 | exact Below.trans (by go_grown) (hb1.mono (by simp only [World.size_alloc]; omega))
  clear hb1
  go_wp2_with fail
  with_reducible refine (BE.out _).mono ?_
  rintro e w2 ⟨rfl, hb2⟩
  have Cm : Blk w2 (w.heap.size) 24 #[.int .u64 F, .int .u64 L, .int .u64 R] := Blk.next (by repeat (first | (with_reducible exact Cb) | (refine Blk.new_at ?_; simp only [World.size_alloc]; done) | (with_reducible refine Blk.alloc ?_ _) | (with_reducible refine Blk.drewN ?_ _))) hb2
  clear Cn Cb Cc0 Cf0 Cc1 Cf1 Cc2 Cf2
  have Cb := Cm
  clear Cm
  have Cc0 : World.cell? w2 ⟨w.heap.size, 0, none⟩ = some (.int .u64 F) := Cb.get 0 rfl
  have Cf0 := Blk.frozen Cb 0
  have Cc1 : World.cell? w2 ⟨w.heap.size, 1, none⟩ = some (.int .u64 L) := Cb.get 1 rfl
  have Cf1 := Blk.frozen Cb 1
  have Cc2 : World.cell? w2 ⟨w.heap.size, 2, none⟩ = some (.int .u64 R) := Cb.get 2 rfl
  have Cf2 := Blk.frozen Cb 2
  have Cn := Blk.lt Cb
  have B2 : Below w.heap.size w w2 := by first | with_reducible exact below_next B1 hb2 | exact below_step B1 (by go_grown) hb2
  clear hb2 B1
  go_wp2_with fail
  go_ret2
  exact ⟨w2.heap.size, by simp, B2.size, ⟨.slice none 0 0, .slice none 0 0, Blk.new w2 _ _, World.ownsRow_nil _ _ _ _, World.ownsRow_nil _ _ _ _, fun g hg => by cases hg⟩, B2.alloc B2.size _⟩

/-- The rows on their way: as many ticks, as many amounts. -/
def RowsAt (w : World) (q : Nat) (F L R : Int) (vx vy : Value) (n m : Nat) (X Y : Nat → Int) : Prop :=
  Blk w q 71 #[.int .u64 F, .int .u64 L, .int .u64 R, vx, vy] ∧ w.ownsRow (q + 1) 22 1 vx n (rowOf X n) ∧ w.ownsRow (q + 1) 22 1 vy m (rowOf Y m) ∧ (∀ g, vx.ownBlock = some g → vy.ownBlock ≠ some g)
section
variable {w w' w0 : World} {q : Nat} {F L R : Int} {vx vy v : Value} {n m : Nat} {X Y : Nat → Int}
theorem RowsAt.next (h : RowsAt w q F L R vx vy n m X Y) (hb : Below w.heap.size w w') : RowsAt w' q F L R vx vy n m X Y := ⟨h.1.next hb, own_next h.2.1 hb, own_next h.2.2.1 hb, h.2.2.2⟩
theorem own_set {base : Nat} {e : TypeId} {size : Nat} {xs : List Value} (h : w.ownsRow base e size v n xs) (hq : q < base) (i : Nat) (u : Value) : (w.setCell ⟨q, i, none⟩ u).ownsRow base e size v n xs :=
  ownsRow_fr h ((Fr.refl (fun k => k = q) w).setCell (p := ⟨q, i, none⟩) (fun _ => rfl) u) fun k hk e => by have := (h.lt k hk).1; omega
theorem RowsAt.growX (h : RowsAt w q F L R vx vy n m X Y) (hg : w.grownBy w' vx.ownBlock) (ho : w'.ownsRow (q + 1) 22 1 v (n + 1) (rowOf X n ++ [.int .u64 (X n)])) (hat : v.ownBlock = vx.ownBlock ∨ v.ownBlock = some w.heap.size) :
    RowsAt (w'.setCell ⟨q, 3, none⟩ v) q F L R v vy (n + 1) m X Y := by
  obtain ⟨hq, hx, hy, hd⟩ := h
  have ne : vy.ownBlock = none ∨ vy.ownBlock ≠ vx.ownBlock := by
    cases e : vy.ownBlock with
    | none => exact .inl rfl
    | some g => exact .inr fun k => hd g k.symm e
  refine ⟨(hq.grown hg fun e => ?_).put 3 v, by rw [rowOf_succ]; exact own_set ho (by omega) _ _, own_set (hy.kept hg ne) (by omega) _ _, fun g hgv e => ?_⟩
  · have := (hx.lt q e.symm).1; omega
  · rcases hat with k | k
    · exact hd g (by rw [← k]; exact hgv) e
    · rw [k] at hgv
      have := (hy.lt g e).2
      injection hgv; omega
theorem RowsAt.growY (h : RowsAt w q F L R vx vy n m X Y) (hg : w.grownBy w' vy.ownBlock) (ho : w'.ownsRow (q + 1) 22 1 v (m + 1) (rowOf Y m ++ [.int .u64 (Y m)])) (hat : v.ownBlock = vy.ownBlock ∨ v.ownBlock = some w.heap.size) :
    RowsAt (w'.setCell ⟨q, 4, none⟩ v) q F L R vx v n (m + 1) X Y := by
  obtain ⟨hq, hx, hy, hd⟩ := h
  have ne : vx.ownBlock = none ∨ vx.ownBlock ≠ vy.ownBlock := by
    cases e : vx.ownBlock with
    | none => exact .inl rfl
    | some g => exact .inr fun k => hd g e k.symm
  refine ⟨(hq.grown hg fun e => ?_).put 4 v, own_set (hx.kept hg ne) (by omega) _ _, by rw [rowOf_succ]; exact own_set ho (by omega) _ _, fun g hgv e => ?_⟩
  · have := (hy.lt q e.symm).1; omega
  · rcases hat with k | k
    · exact hd g hgv (by rw [← k]; exact e)
    · rw [k] at e
      have := (hx.lt g hgv).2
      injection e; omega
theorem RowsAt.below (h : RowsAt w q F L R vx vy n m X Y) (hb : Below q w0 w) (hg : w.grownBy w' vx.ownBlock ∨ w.grownBy w' vy.ownBlock) (i : Nat) (u : Value) : Below q w0 (w'.setCell ⟨q, i, none⟩ u) := by
  have hq : q ≤ w.heap.size := Nat.le_of_lt (Blk.lt h.1)
  rcases hg with hg | hg
  · exact (below_grown hb hg hq fun k hk => by have := (h.2.1.lt k hk).1; omega).setCell (p := ⟨q, i, none⟩) (Nat.le_refl _) u
  · exact (below_grown hb hg hq fun k hk => by have := (h.2.2.1.lt k hk).1; omega).setCell (p := ⟨q, i, none⟩) (Nat.le_refl _) u
end

set_option maxHeartbeats 4000000 in
/-- One copy more. -/
theorem rstart_any (q : Nat) (F L R : Int) (n : Nat) (X Y : Nat → Int) (x y l : Int) (w : World) (h : IsCop w q F L R n X Y) (hn : n ≤ 1000000) (wx : Word x) (wy : Word y) (hl : lastOf X n = l) (hX : max (min x 9223372036854775808) l = X n) (hY : min y 4611686018427387904 = Y n) :
    Calls Try.prog 25 #[.pointer (some ⟨q, 0, none⟩), .int .u64 x, .int .u64 y] w fun e w' => e = .returned (.tuple #[]) ∧ IsCop w' q F L R (n + 1) X Y ∧ Below q w w' := by
  have LA := Lib.hid (fun w h => rlast_any q F L R n X Y l w h hn hl)
  have HI := Lib.hid h
  obtain ⟨vx, vy, HR⟩ : ∃ vx vy, Hid (RowsAt w q F L R vx vy n n X Y) := by obtain ⟨vx, vy, a, b, c, d⟩ := h; exact ⟨vx, vy, ⟨a, b, c, d⟩⟩
  have Qb := HR.out.1
  have hq := Blk.lt Qb
  obtain ⟨i0, hi, hz0, hz1, hz2⟩ := info_parts (show (Try.prog.info? 22).map (fun i => (i.zero, i.size, i.bytes)) = some (some (.int .u64 0), 1, 8) by kernel_rfl)
  have HIF := Lib.hid (And.intro hi (And.intro hz0 (And.intro hz1 hz2)))
  obtain ⟨xn, exn⟩ : ∃ z, X n = z := ⟨_, rfl⟩
  obtain ⟨yn, eyn⟩ : ∃ z, Y n = z := ⟨_, rfl⟩
  rw [exn] at hX
  rw [eyn] at hY
  have EX := Lib.hid exn
  have EY := Lib.hid eyn
  have hm1 : n + 1 ≤ maxLen := by unfold maxLen; omega
  have RL := Lib.hid (fun k hk => (HR.out.2.1.lt k hk).1)
  have KP : Hid (∀ w', Below (q + 1) w w' → (w'.cell? ⟨q, 3, none⟩ = some (vx)) ∧ Below (q + 1) w w') := fun w' hb => ⟨((Blk.below Qb hb (by omega)).get 3 rfl), hb⟩
  clear hl exn eyn hi hz0 hz1 hz2 Qb h
  go_enter Try.func25, Try.ntmps25
  go_upto_region 0 with (fail)
  go_cut [17] (fun sv wc => ∃ v', RowsAt wc q F L R v' vy (n + 1) n X Y ∧ Below q w wc)
  case first =>
    refine wp_region_noPanic ?_
    refine wp_region_Z [14] (fun w' => (w'.cell? ⟨q, 3, none⟩ = some (vx)) ∧ Below (q + 1) w w') (by kernel_rfl) (KP.out _ (below_of_drew ((Below.refl (q + 1) w)))) (fun hH => ?_)
    have hbR := below_of_drew ((Below.refl (q + 1) w))
    first | (refine wpAnyZ_take (i := 0) (v := undef) rfl ?_ ?_ ?_ ?_ (fun _ _ _ h => h) ?_ ?_ ?_; kernel_rfl; kernel_rfl; kernel_rfl; kernel_rfl; exact Or.inr ⟨by rfl, rfl⟩; exact hH) | (refine wpAnyZ_take (i := 0) (v := ?_) rfl ?_ ?_ ?_ ?_ (fun _ _ _ h => h) ?_ ?_ ?_; rotate_left; kernel_rfl; kernel_rfl; kernel_rfl; kernel_rfl; (focus (refine Or.inl ⟨by rfl, ?_⟩; intro w' hSw; (try dsimp only at hSw); go_simp)); exact hH) | (refine wpAnyZ_take (i := 0) (v := ?_) rfl ?_ ?_ ?_ ?_ (fun _ _ _ h => h) ?_ ?_ ?_; rotate_left; kernel_rfl; kernel_rfl; kernel_rfl; kernel_rfl; (focus (refine Or.inl ⟨by rfl, ?_⟩; intro w' hSw; (try dsimp only at hSw); go_simp; with_reducible rfl)); exact hH)
    try simp only [Act.put, List.getElem_toArray, List.getElem_cons_succ, List.getElem_cons_zero, List.setIfInBounds_toArray, List.set_cons_zero, List.set_cons_succ]
    first | (refine wpAnyZ_take (i := 1) (v := undef) rfl ?_ ?_ ?_ ?_ (fun _ _ _ h => h) ?_ ?_ ?_; kernel_rfl; kernel_rfl; kernel_rfl; kernel_rfl; exact Or.inr ⟨by rfl, rfl⟩; exact hH) | (refine wpAnyZ_take (i := 1) (v := ?_) rfl ?_ ?_ ?_ ?_ (fun _ _ _ h => h) ?_ ?_ ?_; rotate_left; kernel_rfl; kernel_rfl; kernel_rfl; kernel_rfl; (focus (refine Or.inl ⟨by rfl, ?_⟩; intro w' hSw; (try dsimp only at hSw); go_simp)); exact hH) | (refine wpAnyZ_take (i := 1) (v := ?_) rfl ?_ ?_ ?_ ?_ (fun _ _ _ h => h) ?_ ?_ ?_; rotate_left; kernel_rfl; kernel_rfl; kernel_rfl; kernel_rfl; (focus (refine Or.inl ⟨by rfl, ?_⟩; intro w' hSw; (try dsimp only at hSw); go_simp; with_reducible rfl)); exact hH)
    try simp only [Act.put, List.getElem_toArray, List.getElem_cons_succ, List.getElem_cons_zero, List.setIfInBounds_toArray, List.set_cons_zero, List.set_cons_succ]
    first | (refine wpAnyZ_take (i := 2) (v := undef) rfl ?_ ?_ ?_ ?_ (fun _ _ _ h => h) ?_ ?_ ?_; kernel_rfl; kernel_rfl; kernel_rfl; kernel_rfl; exact Or.inr ⟨by rfl, rfl⟩; exact hH) | (refine wpAnyZ_take (i := 2) (v := ?_) rfl ?_ ?_ ?_ ?_ (fun _ _ _ h => h) ?_ ?_ ?_; rotate_left; kernel_rfl; kernel_rfl; kernel_rfl; kernel_rfl; (focus (refine Or.inl ⟨by rfl, ?_⟩; intro w' hSw; (try dsimp only at hSw); go_simp)); exact hH) | (refine wpAnyZ_take (i := 2) (v := ?_) rfl ?_ ?_ ?_ ?_ (fun _ _ _ h => h) ?_ ?_ ?_; rotate_left; kernel_rfl; kernel_rfl; kernel_rfl; kernel_rfl; (focus (refine Or.inl ⟨by rfl, ?_⟩; intro w' hSw; (try dsimp only at hSw); go_simp; with_reducible rfl)); exact hH)
    try simp only [Act.put, List.getElem_toArray, List.getElem_cons_succ, List.getElem_cons_zero, List.setIfInBounds_toArray, List.set_cons_zero, List.set_cons_succ]
    first | (refine wpAnyZ_take (i := 3) (v := undef) rfl ?_ ?_ ?_ ?_ (fun _ _ _ h => h) ?_ ?_ ?_; kernel_rfl; kernel_rfl; kernel_rfl; kernel_rfl; exact Or.inr ⟨by rfl, rfl⟩; exact hH) | (refine wpAnyZ_take (i := 3) (v := ?_) rfl ?_ ?_ ?_ ?_ (fun _ _ _ h => h) ?_ ?_ ?_; rotate_left; kernel_rfl; kernel_rfl; kernel_rfl; kernel_rfl; (focus (refine Or.inl ⟨by rfl, ?_⟩; intro w' hSw; (try dsimp only at hSw); go_simp)); exact hH) | (refine wpAnyZ_take (i := 3) (v := ?_) rfl ?_ ?_ ?_ ?_ (fun _ _ _ h => h) ?_ ?_ ?_; rotate_left; kernel_rfl; kernel_rfl; kernel_rfl; kernel_rfl; (focus (refine Or.inl ⟨by rfl, ?_⟩; intro w' hSw; (try dsimp only at hSw); go_simp; with_reducible rfl)); exact hH)
    try simp only [Act.put, List.getElem_toArray, List.getElem_cons_succ, List.getElem_cons_zero, List.setIfInBounds_toArray, List.set_cons_zero, List.set_cons_succ]
    first | (refine wpAnyZ_take (i := 4) (v := undef) rfl ?_ ?_ ?_ ?_ (fun _ _ _ h => h) ?_ ?_ ?_; kernel_rfl; kernel_rfl; kernel_rfl; kernel_rfl; exact Or.inr ⟨by rfl, rfl⟩; exact hH) | (refine wpAnyZ_take (i := 4) (v := ?_) rfl ?_ ?_ ?_ ?_ (fun _ _ _ h => h) ?_ ?_ ?_; rotate_left; kernel_rfl; kernel_rfl; kernel_rfl; kernel_rfl; (focus (refine Or.inl ⟨by rfl, ?_⟩; intro w' hSw; (try dsimp only at hSw); go_simp)); exact hH) | (refine wpAnyZ_take (i := 4) (v := ?_) rfl ?_ ?_ ?_ ?_ (fun _ _ _ h => h) ?_ ?_ ?_; rotate_left; kernel_rfl; kernel_rfl; kernel_rfl; kernel_rfl; (focus (refine Or.inl ⟨by rfl, ?_⟩; intro w' hSw; (try dsimp only at hSw); go_simp; with_reducible rfl)); exact hH)
    try simp only [Act.put, List.getElem_toArray, List.getElem_cons_succ, List.getElem_cons_zero, List.setIfInBounds_toArray, List.set_cons_zero, List.set_cons_succ]
    first | (refine wpAnyZ_take (i := 5) (v := undef) rfl ?_ ?_ ?_ ?_ (fun _ _ _ h => h) ?_ ?_ ?_; kernel_rfl; kernel_rfl; kernel_rfl; kernel_rfl; exact Or.inr ⟨by rfl, rfl⟩; exact hH) | (refine wpAnyZ_take (i := 5) (v := ?_) rfl ?_ ?_ ?_ ?_ (fun _ _ _ h => h) ?_ ?_ ?_; rotate_left; kernel_rfl; kernel_rfl; kernel_rfl; kernel_rfl; (focus (refine Or.inl ⟨by rfl, ?_⟩; intro w' hSw; (try dsimp only at hSw); go_simp)); exact hH) | (refine wpAnyZ_take (i := 5) (v := ?_) rfl ?_ ?_ ?_ ?_ (fun _ _ _ h => h) ?_ ?_ ?_; rotate_left; kernel_rfl; kernel_rfl; kernel_rfl; kernel_rfl; (focus (refine Or.inl ⟨by rfl, ?_⟩; intro w' hSw; (try dsimp only at hSw); go_simp; with_reducible rfl)); exact hH)
    try simp only [Act.put, List.getElem_toArray, List.getElem_cons_succ, List.getElem_cons_zero, List.setIfInBounds_toArray, List.set_cons_zero, List.set_cons_succ]
    first | (refine wpAnyZ_take (i := 6) (v := undef) rfl ?_ ?_ ?_ ?_ (fun _ _ _ h => h) ?_ ?_ ?_; kernel_rfl; kernel_rfl; kernel_rfl; kernel_rfl; exact Or.inr ⟨by rfl, rfl⟩; exact hH) | (refine wpAnyZ_take (i := 6) (v := ?_) rfl ?_ ?_ ?_ ?_ (fun _ _ _ h => h) ?_ ?_ ?_; rotate_left; kernel_rfl; kernel_rfl; kernel_rfl; kernel_rfl; (focus (refine Or.inl ⟨by rfl, ?_⟩; intro w' hSw; (try dsimp only at hSw); go_simp)); exact hH) | (refine wpAnyZ_take (i := 6) (v := ?_) rfl ?_ ?_ ?_ ?_ (fun _ _ _ h => h) ?_ ?_ ?_; rotate_left; kernel_rfl; kernel_rfl; kernel_rfl; kernel_rfl; (focus (refine Or.inl ⟨by rfl, ?_⟩; intro w' hSw; (try dsimp only at hSw); go_simp; with_reducible rfl)); exact hH)
    try simp only [Act.put, List.getElem_toArray, List.getElem_cons_succ, List.getElem_cons_zero, List.setIfInBounds_toArray, List.set_cons_zero, List.set_cons_succ]
    first | (refine wpAnyZ_take (i := 7) (v := undef) rfl ?_ ?_ ?_ ?_ (fun _ _ _ h => h) ?_ ?_ ?_; kernel_rfl; kernel_rfl; kernel_rfl; kernel_rfl; exact Or.inr ⟨by rfl, rfl⟩; exact hH) | (refine wpAnyZ_take (i := 7) (v := ?_) rfl ?_ ?_ ?_ ?_ (fun _ _ _ h => h) ?_ ?_ ?_; rotate_left; kernel_rfl; kernel_rfl; kernel_rfl; kernel_rfl; (focus (refine Or.inl ⟨by rfl, ?_⟩; intro w' hSw; (try dsimp only at hSw); go_simp)); exact hH) | (refine wpAnyZ_take (i := 7) (v := ?_) rfl ?_ ?_ ?_ ?_ (fun _ _ _ h => h) ?_ ?_ ?_; rotate_left; kernel_rfl; kernel_rfl; kernel_rfl; kernel_rfl; (focus (refine Or.inl ⟨by rfl, ?_⟩; intro w' hSw; (try dsimp only at hSw); go_simp; with_reducible rfl)); exact hH)
    try simp only [Act.put, List.getElem_toArray, List.getElem_cons_succ, List.getElem_cons_zero, List.setIfInBounds_toArray, List.set_cons_zero, List.set_cons_succ]
    refine wpAnyZ_ready (rs := [8]) (by kernel_rfl) (by simp) ?_
    refine (AllReadyZ.cons rfl (fun K hK => ?_) AllReadyZ.nil)
    go_simp
    with_reducible refine (LA.out _ (HI.out.next (below_of_drew (Below.refl _ _)))).mono ?_
    rintro e w1 ⟨rfl, hb1'⟩
    have hb1 : Below (q + 1) w w1 := (hbR).trans (hb1'.mono (Nat.le_trans (by omega) (Below.size (hbR))))
    try go_wp2_with fail
    have hH1 := KP.out _ hb1
    refine hK.out _ _ (fun _ => hH1) ?_
    clear hK K hH
    have hH := hH1
    clear hH1
    try simp only [Act.put, List.getElem_toArray, List.getElem_cons_succ, List.getElem_cons_zero, List.setIfInBounds_toArray, List.set_cons_zero, List.set_cons_succ]
    first | (refine wpAnyZ_take (i := 9) (v := undef) rfl ?_ ?_ ?_ ?_ (fun _ _ _ h => h) ?_ ?_ ?_; kernel_rfl; kernel_rfl; kernel_rfl; kernel_rfl; exact Or.inr ⟨by rfl, rfl⟩; exact hH) | (refine wpAnyZ_take (i := 9) (v := ?_) rfl ?_ ?_ ?_ ?_ (fun _ _ _ h => h) ?_ ?_ ?_; rotate_left; kernel_rfl; kernel_rfl; kernel_rfl; kernel_rfl; (focus (refine Or.inl ⟨by rfl, ?_⟩; intro w' hSw; (try dsimp only at hSw); go_simp)); exact hH) | (refine wpAnyZ_take (i := 9) (v := ?_) rfl ?_ ?_ ?_ ?_ (fun _ _ _ h => h) ?_ ?_ ?_; rotate_left; kernel_rfl; kernel_rfl; kernel_rfl; kernel_rfl; (focus (refine Or.inl ⟨by rfl, ?_⟩; intro w' hSw; (try dsimp only at hSw); go_simp; with_reducible rfl)); exact hH)
    try simp only [Act.put, List.getElem_toArray, List.getElem_cons_succ, List.getElem_cons_zero, List.setIfInBounds_toArray, List.set_cons_zero, List.set_cons_succ]
    refine wpAnyZ_ready (rs := [10]) (by kernel_rfl) (by simp) ?_
    refine (AllReadyZ.cons rfl (fun K hK => ?_) AllReadyZ.nil)
    go_simp
    have Bb2 : Blk (w1.alloc (.cells #[.int .u64 xn] 22)) (w1.heap.size) 22 #[.int .u64 xn] := Blk.new_at (by simp)
    have QGB : w.heap.size ≤ w1.heap.size := Nat.le_trans (Below.size (hb1)) (Nat.le_of_eq (by simp))
    have hb2 := Below.alloc (hb1) (Nat.le_trans (by omega) (Below.size (hb1))) (.cells #[.int .u64 xn] 22)
    have hH2 := KP.out _ hb2
    refine hK.out _ _ (fun _ => hH2) ?_
    clear hK K hH
    have hH := hH2
    clear hH2
    try simp only [Act.put, List.getElem_toArray, List.getElem_cons_succ, List.getElem_cons_zero, List.setIfInBounds_toArray, List.set_cons_zero, List.set_cons_succ]
    refine wpAnyZ_ready (rs := [11]) (by kernel_rfl) (by simp) ?_
    refine (AllReadyZ.cons rfl (fun K hK => ?_) AllReadyZ.nil)
    obtain ⟨hi, hz0, hz1, hz2⟩ := HIF.out
    have R0 := (HR.out.next (below_of_drew (Below.refl _ _))).next hb1'
    have R1 : RowsAt (w1.alloc (.cells #[.int .u64 xn] 22)) q F L R vx vy n n X Y := R0.next ((Below.refl _ _).alloc (Nat.le_refl _) _)
    refine want_yes (by rfl) ?_
    refine wp_append_one _ _ 27 rfl (q + 1) 22 i0 (.int .u64 0) 8 Try.underlying27 hi hz0 hz1 hz2 rfl vx n (rowOf X n) (by rfl) R1.2.1 ⟨w1.heap.size, 0, none⟩ 1 (.int .u64 xn) (by rfl) (Bb2.get 0 rfl) rfl hm1 (by omega) (by have := Below.size hb2; omega) ?_
    intro v2 w3 hown3 hgrow3 hat3
    obtain ⟨gv, cv, rfl, -⟩ := own_form hown3 (by omega)
    rw [← EX.out] at hown3
    have G3 := R1.growX hgrow3 hown3 hat3
    have Q3 := Blk.grown R1.1 hgrow3 (by intro e; have := RL.out q e.symm; omega)
    have Qc3 : World.cell? w3 ⟨q, 3, none⟩ = some vx := Q3.get 3 rfl
    have Qf3 := Blk.frozen Q3 3
    have D3 := R1.below (Below.mono hb2 (Nat.le_succ _)) (.inl hgrow3) 3 (.slice (some ⟨gv, 0, none⟩) (n + 1) cv)
    have hH3 := KP.out _ (below_grown hb2 hgrow3 (by have := Below.size hb2; omega) (fun k hk => RL.out k hk))
    refine hK.out _ _ (fun _ => hH3) ?_
    clear hK K hH
    have hH := hH3
    clear hH3
    try simp only [Act.put, List.getElem_toArray, List.getElem_cons_succ, List.getElem_cons_zero, List.setIfInBounds_toArray, List.set_cons_zero, List.set_cons_succ]
    refine wpAnyZ_ready (rs := [12]) (by kernel_rfl) (by simp) ?_
    refine (AllReadyZ.cons rfl (fun K hK => ?_) AllReadyZ.nil)
    go_simp
    refine hK.out _ _ (fun _ => hH) ?_
    clear hK K
    try simp only [Act.put, List.getElem_toArray, List.getElem_cons_succ, List.getElem_cons_zero, List.setIfInBounds_toArray, List.set_cons_zero, List.set_cons_succ]
    first | (refine wpAnyZ_take (i := 13) (v := undef) rfl ?_ ?_ ?_ ?_ (fun _ _ _ h => h) ?_ ?_ ?_; kernel_rfl; kernel_rfl; kernel_rfl; kernel_rfl; exact Or.inr ⟨by rfl, rfl⟩; exact hH) | (refine wpAnyZ_take (i := 13) (v := ?_) rfl ?_ ?_ ?_ ?_ (fun _ _ _ h => h) ?_ ?_ ?_; rotate_left; kernel_rfl; kernel_rfl; kernel_rfl; kernel_rfl; (focus (refine Or.inl ⟨by rfl, ?_⟩; intro w' hSw; (try dsimp only at hSw); go_simp)); exact hH) | (refine wpAnyZ_take (i := 13) (v := ?_) rfl ?_ ?_ ?_ ?_ (fun _ _ _ h => h) ?_ ?_ ?_; rotate_left; kernel_rfl; kernel_rfl; kernel_rfl; kernel_rfl; (focus (refine Or.inl ⟨by rfl, ?_⟩; intro w' hSw; (try dsimp only at hSw); go_simp; with_reducible rfl)); exact hH)
    try simp only [Act.put, List.getElem_toArray, List.getElem_cons_succ, List.getElem_cons_zero, List.setIfInBounds_toArray, List.set_cons_zero, List.set_cons_succ]
    refine wpAnyZ_ready (rs := [14]) (by kernel_rfl) (by simp) ?_
    refine (AllReadyZ.cons rfl (fun K hK => ?_) AllReadyZ.nil)
    go_simp
    refine hK.out _ _ (fun h => absurd (by simp) h) ?_
    clear hK K
    try simp only [Act.put, List.getElem_toArray, List.getElem_cons_succ, List.getElem_cons_zero, List.setIfInBounds_toArray, List.set_cons_zero, List.set_cons_succ]
    refine wpAnyZ_done (by kernel_rfl) ?_ _
    refine NoPanic.normal ?_
    go_wp2_with fail
    go_meet
    exact ⟨_, G3, D3⟩
  case rest =>
    obtain ⟨v', R1, B0⟩ := hcut
    have Qc4 : World.cell? wc ⟨q, 4, none⟩ = some vy := R1.1.get 4 rfl
    have Qf4 := Blk.frozen R1.1 4
    have R2 : RowsAt (wc.alloc (.cells #[.int .u64 yn] 22)) q F L R v' vy (n + 1) n X Y := R1.next ((Below.refl _ _).alloc (Nat.le_refl _) _)
    have hy := R2.2.2.1
    have hqc := Blk.lt R1.1
    have HR2 := Lib.hid R2
    have HB := Lib.hid B0
    have hnw : (wc.alloc (.cells #[.int .u64 yn] 22)).cell? ⟨wc.heap.size, 0, none⟩ = some (.int .u64 yn) := (Blk.new wc 22 #[.int .u64 yn]).get 0 rfl
    have HN := Lib.hid hnw
    obtain ⟨hi, hz0, hz1, hz2⟩ := HIF.out
    clear R1 B0 R2 hnw
    have hyH := Lib.hid hy
    clear hy
    go_wp2_with (at_builtin; refine wpList_append_own_at _ rfl _ _ 27 rfl (q + 1) 22 i0 (.int .u64 0) 1 8 Try.underlying27 hi hz0 hz1 hz2 rfl (by decide) vy n (rowOf Y n) rfl hyH.out ⟨wc.heap.size, 0, none⟩ 1 1 [.int .u64 yn] rfl rfl ?c1 ?c2 hm1 (by omega) (by simp only [World.size_alloc]; omega) ?_)
    case c1 =>
      intro j u hj
      match j, hj with
      | 0, hj => simp at hj; subst hj; exact HN.out
    case c2 => intro u hu; rw [List.mem_singleton] at hu; subst hu; rfl
    intro v2 w3 hown3 hgrow3 _ hat3
    obtain ⟨gv, cv, rfl, -⟩ := own_form hown3 (by omega)
    rw [← EY.out] at hown3
    have G3 := Lib.hid (HR2.out.growY hgrow3 hown3 (by rw [World.size_alloc]; exact hat3))
    have D3 := Lib.hid (HR2.out.below (HB.out.alloc (by omega) _) (.inr hgrow3) 4 (.slice (some ⟨gv, 0, none⟩) (n + 1) cv))
    have Q3 := Blk.grown HR2.out.1 hgrow3 (by intro e; have := (hyH.out.lt q e.symm).1; omega)
    have Qc3 : World.cell? w3 ⟨q, 4, none⟩ = some vy := Q3.get 4 rfl
    have Qf3 := Blk.frozen Q3 4
    clear hown3 hgrow3 hat3 Qc4 Qf4 Q3
    go_wp2_with fail
    go_end0
    exact ⟨rfl, ⟨v', _, G3.out⟩, D3.out⟩

end Go.Proofs.Ytdkeoanlcninkaa
