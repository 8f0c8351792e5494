/-
  What a curve by parts is: the program's Scale and the document's.
-/
import Derived.Test.YtjbajongjdbplaaCurveE
namespace Go.Proofs.Ytjbajongjdbplaa
set_option linter.unusedVariables false
set_option linter.unusedSimpArgs false
open Go.RowKit Go.Shelf

/-- All three cells of a block are stored to. -/
theorem Blk.puts3 {w : World} {b : Nat} {t : TypeId} {c0 c1 c2 : Value} (h : Blk w b t #[c0, c1, c2]) (x y z : Value) :
    (w.setCell ⟨b, 0, none⟩ x).cell? ⟨b, 0, none⟩ = some x ∧ ((w.setCell ⟨b, 0, none⟩ x).setCell ⟨b, 1, none⟩ y).cell? ⟨b, 1, none⟩ = some y ∧
    (((w.setCell ⟨b, 0, none⟩ x).setCell ⟨b, 1, none⟩ y).setCell ⟨b, 2, none⟩ z).cell? ⟨b, 2, none⟩ = some z ∧ Blk (((w.setCell ⟨b, 0, none⟩ x).setCell ⟨b, 1, none⟩ y).setCell ⟨b, 2, none⟩ z) b t #[x, y, z] := by
  have a := Blk.put h 0 x
  have c := Blk.put a 1 y
  have d := Blk.put c 2 z
  exact ⟨Blk.get a 0 rfl, Blk.get c 1 rfl, Blk.get d 2 rfl, d⟩
theorem below_puts3 {w w' : World} {b : Nat} (h : Below w.heap.size w w') (hb : w.heap.size ≤ b) (x y z : Value) :
    Below w.heap.size w (((w'.setCell ⟨b, 0, none⟩ x).setCell ⟨b, 1, none⟩ y).setCell ⟨b, 2, none⟩ z) :=
  ((h.setCell (p := ⟨b, 0, none⟩) hb x).setCell (p := ⟨b, 1, none⟩) hb y).setCell (p := ⟨b, 2, none⟩) hb z
theorem Blk.far3 {w : World} {b b' : Nat} {t : TypeId} {cs : Array Value} (h : Blk w b' t cs) (hn : b' ≠ b) (x y z : Value) :
    Blk (((w.setCell ⟨b, 0, none⟩ x).setCell ⟨b, 1, none⟩ y).setCell ⟨b, 2, none⟩ z) b' t cs :=
  Blk.far (Blk.far (Blk.far h (p := ⟨b, 0, none⟩) hn x) (p := ⟨b, 1, none⟩) hn y) (p := ⟨b, 2, none⟩) hn z

theorem one_any (F L R : Int) (w : World) (hL : Word L) : Calls Try.prog 56 #[.agg #[.int .u64 F, .int .u64 L, .int .u64 R]] w fun e w' => e = .returned (.agg #[.int .u64 (oneF F L R), .int .u64 (oneL F L R), .int .u64 R]) ∧ Below w.heap.size w w' := by
  unfold oneF oneL
  by_cases h1 : F = R
  · rw [if_pos (.inl h1), if_pos (.inl h1)]
    subst h1
    go_enter Try.func56, Try.ntmps56
    go_wp2_with fail
    go_returns
    exact ⟨rfl, by go_grown⟩
  have h1' : (F == R) = false := beq_eq_false_iff_ne.2 h1
  by_cases h2 : L = 0
  · rw [if_pos (.inr h2), if_pos (.inr h2)]
    subst h2
    clear h1
    go_enter Try.func56, Try.ntmps56
    go_wp2_with fail
    go_returns
    exact ⟨rfl, by go_grown⟩
  · have h2' : (L == 0) = false := beq_eq_false_iff_ne.2 h2
    rw [if_neg (by rintro (h | h); exact h1 h; exact h2 h), if_neg (by rintro (h | h); exact h1 h; exact h2 h)]
    clear h1 h2
    go_enter Try.func56, Try.ntmps56
    go_wp2_with fail
    go_returns
    exact ⟨rfl, by go_grown⟩

/-- What Scale tells, at named values. -/
theorem parts_bad {F L R a b : Int} (h : mayB F L R = false) : partE F L R a b = 30 ∧ partF F L R a b = 0 ∧ partL F L R a b = 0 ∧ partR F L R a b = 0 := by
  have e : partE F L R a b = 30 := by unfold partE; rw [h]; rfl
  unfold partF partL partR
  rw [e]; exact ⟨rfl, rfl, rfl, rfl⟩
theorem parts_zero {F L R a b : Int} (h : mayB F L R = true) (hb : b = 0) : partE F L R a b = 2 ∧ partF F L R a b = 0 ∧ partL F L R a b = 0 ∧ partR F L R a b = 0 := by
  have e : partE F L R a b = 2 := by unfold partE; rw [if_pos h, if_pos hb]
  unfold partF partL partR
  rw [e]; exact ⟨rfl, rfl, rfl, rfl⟩
theorem parts_not {F L R a b : Int} (h : mayB F L R = true) (hb : b ≠ 0) (hm : mayB (oneF (downN F a b) L (downN R a b)) (oneL (downN F a b) L (downN R a b)) (downN R a b) = false) :
    partE F L R a b = 30 ∧ partF F L R a b = 0 ∧ partL F L R a b = 0 ∧ partR F L R a b = 0 := by
  have e : partE F L R a b = 30 := by unfold partE; rw [if_pos h, if_neg hb, hm]; rfl
  unfold partF partL partR
  rw [e]; exact ⟨rfl, rfl, rfl, rfl⟩
theorem parts_is {F L R a b : Int} (h : mayB F L R = true) (hb : b ≠ 0) (hm : mayB (oneF (downN F a b) L (downN R a b)) (oneL (downN F a b) L (downN R a b)) (downN R a b) = true) :
    partE F L R a b = 0 ∧ partF F L R a b = oneF (downN F a b) L (downN R a b) ∧ partL F L R a b = oneL (downN F a b) L (downN R a b) ∧ partR F L R a b = downN R a b := by
  have e : partE F L R a b = 0 := by unfold partE; rw [if_pos h, if_neg hb, hm]; rfl
  unfold partF partL partR
  rw [e]; exact ⟨rfl, rfl, rfl, rfl⟩
theorem down_words (a b c : Int) (ha : 0 ≤ a) (hb : 0 ≤ b) (hc : 0 ≤ c) : Word (downN a b c) := by
  unfold downN
  split
  · exact ⟨by decide, by decide⟩
  · have p : 0 ≤ a * b / c := Int.ediv_nonneg (Int.mul_nonneg ha hb) hc
    exact ⟨stop_nonneg p, by have := stop_le (a * b / c); omega⟩

theorem index2_0 (p q : Value) (w : World) : (Instr.index 83 (.agg #[p, q]) (.int .i64 0)).run Try.prog w = .ok p w := by kernel_rfl
theorem index2_1 (p q : Value) (w : World) : (Instr.index 83 (.agg #[p, q]) (.int .i64 1)).run Try.prog w = .ok q w := by kernel_rfl

set_option maxRecDepth 100000 in
set_option maxHeartbeats 4000000 in
theorem scale_any (F L R a b : Int) (w : World) (wF : Word F) (wL : Word L) (wR : Word R) (wa : Word a) (wb : Word b) : Calls Try.prog 27 #[.agg #[.int .u64 F, .int .u64 L, .int .u64 R], .int .u64 a, .int .u64 b] w fun e w' =>
    e = .returned (.tuple #[.agg #[.int .u64 (partF F L R a b), .int .u64 (partL F L R a b), .int .u64 (partR F L R a b)], .int .i64 (partE F L R a b)]) ∧ Below w.heap.size w w' := by
  have X0 := index2_0
  have X1 := index2_1
  rcases Bool.eq_false_or_eq_true (mayB F L R) with hm | hm
  rotate_left
  · have MA := Lib.hid (fun w => may_val F L R false w wF wL wR hm)
    obtain ⟨e1, e2, e3, e4⟩ := parts_bad (a := a) (b := b) hm
    rw [e1, e2, e3, e4]
    clear hm e1 e2 e3 e4
    go_enter Try.func27, Try.ntmps27
    go_wp2_with fail
    with_reducible refine (MA.out _).mono ?_
    rintro e w1 ⟨rfl, hb1⟩
    have Cm : Blk w1 (w.heap.size) 24 #[.int .u64 F, .int .u64 L, .int .u64 R] := Blk.next (by repeat (first | (refine Blk.new_at ?_; simp only [World.size_alloc]; done) | (with_reducible refine Blk.alloc ?_ _) | (with_reducible refine Blk.drewN ?_ _))) hb1
    have Cb := Cm
    clear Cm
    have Cc0 : World.cell? w1 ⟨w.heap.size, 0, none⟩ = some (.int .u64 F) := Cb.get 0 rfl
    have Cf0 := Blk.frozen Cb 0
    have Cc1 : World.cell? w1 ⟨w.heap.size, 1, none⟩ = some (.int .u64 L) := Cb.get 1 rfl
    have Cf1 := Blk.frozen Cb 1
    have Cc2 : World.cell? w1 ⟨w.heap.size, 2, none⟩ = some (.int .u64 R) := Cb.get 2 rfl
    have Cf2 := Blk.frozen Cb 2
    have Cn := Blk.lt Cb
    have Zm : Blk w1 (w.heap.size + 1) 24 #[.int .u64 0, .int .u64 0, .int .u64 0] := Blk.next (by repeat (first | (refine Blk.new_at ?_; simp only [World.size_alloc]; done) | (with_reducible refine Blk.alloc ?_ _) | (with_reducible refine Blk.drewN ?_ _))) hb1
    have Zb := Zm
    clear Zm
    have Zc0 : World.cell? w1 ⟨w.heap.size + 1, 0, none⟩ = some (.int .u64 0) := Zb.get 0 rfl
    have Zf0 := Blk.frozen Zb 0
    have Zc1 : World.cell? w1 ⟨w.heap.size + 1, 1, none⟩ = some (.int .u64 0) := Zb.get 1 rfl
    have Zf1 := Blk.frozen Zb 1
    have Zc2 : World.cell? w1 ⟨w.heap.size + 1, 2, none⟩ = some (.int .u64 0) := Zb.get 2 rfl
    have Zf2 := Blk.frozen Zb 2
    have Zn := Blk.lt Zb
    have B1 : Below w.heap.size w w1 := by first | with_reducible exact hb1 | exact Below.trans (by go_grown) (hb1.mono (by simp only [World.size_alloc]; omega))
    clear hb1
    obtain ⟨P0, P1, P2, P3⟩ := Blk.puts3 Zb (.int .u64 0) (.int .u64 0) (.int .u64 0)
    go_wp2_with fail
    refine bodyPost_ret (by simp [results, Try.results27, go_sem, P0, P1, P2]; try rfl) rfl ?_
    exact ⟨rfl, below_puts3 B1 (by omega) _ _ _⟩
  have MA := Lib.hid (fun w => may_val F L R true w wF wL wR hm)
  by_cases hb : b = 0
  · have D0 := Lib.hid (fun w => down_val F a b 0 2 w wF wa wb (by unfold downN; rw [if_pos hb]) (by unfold errN; rw [if_pos hb]))
    obtain ⟨e1, e2, e3, e4⟩ := parts_zero (a := a) hm hb
    rw [e1, e2, e3, e4]
    subst hb
    clear hm e1 e2 e3 e4
    go_enter Try.func27, Try.ntmps27
    go_wp2_with fail
    with_reducible refine (MA.out _).mono ?_
    rintro e w1 ⟨rfl, hb1⟩
    have Cm : Blk w1 (w.heap.size) 24 #[.int .u64 F, .int .u64 L, .int .u64 R] := Blk.next (by repeat (first | (refine Blk.new_at ?_; simp only [World.size_alloc]; done) | (with_reducible refine Blk.alloc ?_ _) | (with_reducible refine Blk.drewN ?_ _))) hb1
    have Cb := Cm
    clear Cm
    have Cc0 : World.cell? w1 ⟨w.heap.size, 0, none⟩ = some (.int .u64 F) := Cb.get 0 rfl
    have Cf0 := Blk.frozen Cb 0
    have Cc1 : World.cell? w1 ⟨w.heap.size, 1, none⟩ = some (.int .u64 L) := Cb.get 1 rfl
    have Cf1 := Blk.frozen Cb 1
    have Cc2 : World.cell? w1 ⟨w.heap.size, 2, none⟩ = some (.int .u64 R) := Cb.get 2 rfl
    have Cf2 := Blk.frozen Cb 2
    have Cn := Blk.lt Cb
    have Zm : Blk w1 (w.heap.size + 1) 24 #[.int .u64 0, .int .u64 0, .int .u64 0] := Blk.next (by repeat (first | (refine Blk.new_at ?_; simp only [World.size_alloc]; done) | (with_reducible refine Blk.alloc ?_ _) | (with_reducible refine Blk.drewN ?_ _))) hb1
    have Zb := Zm
    clear Zm
    have Zc0 : World.cell? w1 ⟨w.heap.size + 1, 0, none⟩ = some (.int .u64 0) := Zb.get 0 rfl
    have Zf0 := Blk.frozen Zb 0
    have Zc1 : World.cell? w1 ⟨w.heap.size + 1, 1, none⟩ = some (.int .u64 0) := Zb.get 1 rfl
    have Zf1 := Blk.frozen Zb 1
    have Zc2 : World.cell? w1 ⟨w.heap.size + 1, 2, none⟩ = some (.int .u64 0) := Zb.get 2 rfl
    have Zf2 := Blk.frozen Zb 2
    have Zn := Blk.lt Zb
    have B1 : Below w.heap.size w w1 := by first | with_reducible exact hb1 | exact Below.trans (by go_grown) (hb1.mono (by simp only [World.size_alloc]; omega))
    clear hb1
    have HZ := Lib.hid (Zb.alloc (.cells #[.int .u64 F, .int .u64 L, .int .u64 R] 24))
    have HB := Lib.hid (B1.alloc B1.size (.cells #[.int .u64 F, .int .u64 L, .int .u64 R] 24))
    have HQ := Lib.hid (Blk.new w1 24 #[.int .u64 F, .int .u64 L, .int .u64 R])
    go_wp2_with fail
    clear Cb Cc0 Cc1 Cc2 Cf0 Cf1 Cf2 Cn Zb Zc0 Zc1 Zc2 Zf0 Zf1 Zf2 Zn B1
    go_loopg [21] 1 (fun gk ix wr => ix = .int .i64 0 ∧ gk = 1 ∧ Blk wr w1.heap.size 24 #[.int .u64 F, .int .u64 L, .int .u64 R] ∧ Blk wr (w.heap.size + 1) 24 #[.int .u64 0, .int .u64 0, .int .u64 0] ∧ Below w.heap.size w wr)
    case atStart => exact ⟨rfl, rfl, HQ.out, HZ.out, HB.out⟩
    case round =>
      obtain ⟨rfl, rfl, Qb, Zb, B0⟩ := hrel
      clear HZ HB HQ
      have Qc0 : World.cell? wr ⟨w1.heap.size, 0, none⟩ = some (.int .u64 F) := Qb.get 0 rfl
      have HZ := Lib.hid Zb
      have HB := Lib.hid B0
      clear Qb Zb B0
      go_wp2_with fail
      with_reducible refine (D0.out _).mono ?_
      rintro e w2 ⟨rfl, hb2⟩
      have Zb := HZ.out.next hb2
      have B2 := below_next HB.out hb2
      have Zc0 : World.cell? w2 ⟨w.heap.size + 1, 0, none⟩ = some (.int .u64 0) := Zb.get 0 rfl
      have Zc1 : World.cell? w2 ⟨w.heap.size + 1, 1, none⟩ = some (.int .u64 0) := Zb.get 1 rfl
      have Zc2 : World.cell? w2 ⟨w.heap.size + 1, 2, none⟩ = some (.int .u64 0) := Zb.get 2 rfl
      have Zf0 := Blk.frozen Zb 0
      have Zf1 := Blk.frozen Zb 1
      have Zf2 := Blk.frozen Zb 2
      clear hb2
      obtain ⟨P0, P1, P2, P3⟩ := Blk.puts3 Zb (.int .u64 0) (.int .u64 0) (.int .u64 0)
      go_wp2_with fail
      refine bodyPost_ret (by simp [results, Try.results27, go_sem, P0, P1, P2]; try rfl) rfl ?_
      exact ⟨rfl, below_puts3 B2 (by omega) _ _ _⟩
  have ee : errN b = 0 := by unfold errN; rw [if_neg hb]
  have wx0 := down_words F a b wF.1 wa.1 wb.1
  have wx1 := down_words R a b wR.1 wa.1 wb.1
  have cases : (partE F L R a b = 30 ∧ partF F L R a b = 0 ∧ partL F L R a b = 0 ∧ partR F L R a b = 0 ∧ mayB (oneF (downN F a b) L (downN R a b)) (oneL (downN F a b) L (downN R a b)) (downN R a b) = false) ∨
      (partE F L R a b = 0 ∧ partF F L R a b = oneF (downN F a b) L (downN R a b) ∧ partL F L R a b = oneL (downN F a b) L (downN R a b) ∧ partR F L R a b = downN R a b ∧ mayB (oneF (downN F a b) L (downN R a b)) (oneL (downN F a b) L (downN R a b)) (downN R a b) = true) := by
    rcases Bool.eq_false_or_eq_true (mayB (oneF (downN F a b) L (downN R a b)) (oneL (downN F a b) L (downN R a b)) (downN R a b)) with h | h
    · have := parts_is hm hb h; exact .inr ⟨this.1, this.2.1, this.2.2.1, this.2.2.2, h⟩
    · have := parts_not hm hb h; exact .inl ⟨this.1, this.2.1, this.2.2.1, this.2.2.2, h⟩
  obtain ⟨x0, hx0⟩ : ∃ x, downN F a b = x := ⟨_, rfl⟩
  obtain ⟨x1, hx1⟩ : ∃ x, downN R a b = x := ⟨_, rfl⟩
  have D0 := Lib.hid (fun w => down_val F a b x0 0 w wF wa wb hx0 ee)
  have D1 := Lib.hid (fun w => down_val R a b x1 0 w wR wa wb hx1 ee)
  have O1 := Lib.hid (fun w => one_any x0 L x1 w wL)
  rw [hx0] at wx0
  rw [hx1] at wx1
  rw [hx0, hx1] at cases
  have wo0 : Word (oneF x0 L x1) := by unfold oneF; split; exact ⟨by decide, by decide⟩; exact wx0
  have wo1 : Word (oneL x0 L x1) := by unfold oneL; split; exact ⟨by decide, by decide⟩; exact wL
  obtain ⟨y0, hy0⟩ : ∃ x, oneF x0 L x1 = x := ⟨_, rfl⟩
  obtain ⟨y1, hy1⟩ : ∃ x, oneL x0 L x1 = x := ⟨_, rfl⟩
  rw [hy0] at O1 cases wo0
  rw [hy1] at O1 cases wo1
  have M2 : Hid (∀ c, mayB y0 y1 x1 = c → ∀ w, _) := Lib.hid (fun c h w => may_val y0 y1 x1 c w wo0 wo1 wx1 h)
  clear hx0 hx1 hy0 hy1 ee hm hb wx0 wx1 wo0 wo1
  have CS := Lib.hid cases
  clear cases
  go_enter Try.func27, Try.ntmps27
  go_wp2_with fail
  with_reducible refine (MA.out _).mono ?_
  rintro e w1 ⟨rfl, hb1⟩
  have Cm : Blk w1 (w.heap.size) 24 #[.int .u64 F, .int .u64 L, .int .u64 R] := Blk.next (by repeat (first | (refine Blk.new_at ?_; simp only [World.size_alloc]; done) | (with_reducible refine Blk.alloc ?_ _) | (with_reducible refine Blk.drewN ?_ _))) hb1
  have Cb := Cm
  clear Cm
  have Cc0 : World.cell? w1 ⟨w.heap.size, 0, none⟩ = some (.int .u64 F) := Cb.get 0 rfl
  have Cf0 := Blk.frozen Cb 0
  have Cc1 : World.cell? w1 ⟨w.heap.size, 1, none⟩ = some (.int .u64 L) := Cb.get 1 rfl
  have Cf1 := Blk.frozen Cb 1
  have Cc2 : World.cell? w1 ⟨w.heap.size, 2, none⟩ = some (.int .u64 R) := Cb.get 2 rfl
  have Cf2 := Blk.frozen Cb 2
  have Cn := Blk.lt Cb
  have Zm : Blk w1 (w.heap.size + 1) 24 #[.int .u64 0, .int .u64 0, .int .u64 0] := Blk.next (by repeat (first | (refine Blk.new_at ?_; simp only [World.size_alloc]; done) | (with_reducible refine Blk.alloc ?_ _) | (with_reducible refine Blk.drewN ?_ _))) hb1
  have Zb := Zm
  clear Zm
  have Zc0 : World.cell? w1 ⟨w.heap.size + 1, 0, none⟩ = some (.int .u64 0) := Zb.get 0 rfl
  have Zf0 := Blk.frozen Zb 0
  have Zc1 : World.cell? w1 ⟨w.heap.size + 1, 1, none⟩ = some (.int .u64 0) := Zb.get 1 rfl
  have Zf1 := Blk.frozen Zb 1
  have Zc2 : World.cell? w1 ⟨w.heap.size + 1, 2, none⟩ = some (.int .u64 0) := Zb.get 2 rfl
  have Zf2 := Blk.frozen Zb 2
  have Zn := Blk.lt Zb
  have B1 : Below w.heap.size w w1 := by first | with_reducible exact hb1 | exact Below.trans (by go_grown) (hb1.mono (by simp only [World.size_alloc]; omega))
  clear hb1
  have hs1 := Lib.hid Zn
  have HZ := Lib.hid (Zb.alloc (.cells #[.int .u64 F, .int .u64 L, .int .u64 R] 24))
  have HB := Lib.hid (B1.alloc B1.size (.cells #[.int .u64 F, .int .u64 L, .int .u64 R] 24))
  have HQ := Lib.hid (Blk.new w1 24 #[.int .u64 F, .int .u64 L, .int .u64 R])
  go_wp2_with fail
  clear Cb Cc0 Cc1 Cc2 Cf0 Cf1 Cf2 Cn Zb Zc0 Zc1 Zc2 Zf0 Zf1 Zf2 Zn B1
  go_loopg [21] 2 (fun gk ix wr => ((ix = .int .i64 0 ∧ gk = 2 ∧ Blk wr w1.heap.size 24 #[.int .u64 F, .int .u64 L, .int .u64 R]) ∨ (ix = .int .i64 1 ∧ gk = 1 ∧ Blk wr w1.heap.size 24 #[.int .u64 x0, .int .u64 L, .int .u64 R]) ∨ (ix = .int .i64 2 ∧ gk = 0 ∧ Blk wr w1.heap.size 24 #[.int .u64 x0, .int .u64 L, .int .u64 x1])) ∧ Blk wr (w.heap.size + 1) 24 #[.int .u64 0, .int .u64 0, .int .u64 0] ∧ Below w.heap.size w wr)
  case atStart => exact ⟨.inl ⟨rfl, rfl, HQ.out⟩, HZ.out, HB.out⟩
  case round =>
    obtain ⟨hcase, Zb, B0⟩ := hrel
    clear HZ HB HQ
    have HZ := Lib.hid Zb
    have HB := Lib.hid B0
    clear Zb B0
    rcases hcase with ⟨rfl, rfl, Qb⟩ | ⟨rfl, rfl, Qb⟩ | ⟨rfl, rfl, Qb⟩
    · have Qc0 : World.cell? wr ⟨w1.heap.size, 0, none⟩ = some (.int .u64 F) := Qb.get 0 rfl
      have HQ := Lib.hid Qb
      clear Qb
      go_wp2_with fail
      with_reducible refine (D0.out _).mono ?_
      rintro e w2 ⟨rfl, hb2⟩
      have Q2 := HQ.out.next hb2
      have Q2c0 : World.cell? w2 ⟨w1.heap.size, 0, none⟩ = some (.int .u64 F) := Q2.get 0 rfl
      have Q2f0 := Blk.frozen Q2 0
      have HZ2 := Lib.hid (HZ.out.next hb2)
      have HB2 := Lib.hid (below_next HB.out hb2)
      have HQ2 := Lib.hid Q2
      clear hb2 Q2 HQ Qc0 HZ HB
      go_wp2_with fail
      go_roundg 1
      case rel => exact ⟨.inr (.inl ⟨rfl, rfl, HQ2.out.put 0 _⟩), HZ2.out.far (p := ⟨w1.heap.size, 0, none⟩) (show w.heap.size + 1 ≠ w1.heap.size by have := hs1.out; omega) _, HB2.out.setCell (p := ⟨w1.heap.size, 0, none⟩) (show w.heap.size ≤ w1.heap.size by have := hs1.out; omega) _⟩
      case measure => omega
    · have Qc0 : World.cell? wr ⟨w1.heap.size, 2, none⟩ = some (.int .u64 R) := Qb.get 2 rfl
      have HQ := Lib.hid Qb
      clear Qb
      go_wp2_with fail
      with_reducible refine (D1.out _).mono ?_
      rintro e w2 ⟨rfl, hb2⟩
      have Q2 := HQ.out.next hb2
      have Q2c0 : World.cell? w2 ⟨w1.heap.size, 2, none⟩ = some (.int .u64 R) := Q2.get 2 rfl
      have Q2f0 := Blk.frozen Q2 2
      have HZ2 := Lib.hid (HZ.out.next hb2)
      have HB2 := Lib.hid (below_next HB.out hb2)
      have HQ2 := Lib.hid Q2
      clear hb2 Q2 HQ Qc0 HZ HB
      go_wp2_with fail
      go_roundg 0
      case rel => exact ⟨.inr (.inr ⟨rfl, rfl, HQ2.out.put 2 _⟩), HZ2.out.far (p := ⟨w1.heap.size, 2, none⟩) (show w.heap.size + 1 ≠ w1.heap.size by have := hs1.out; omega) _, HB2.out.setCell (p := ⟨w1.heap.size, 2, none⟩) (show w.heap.size ≤ w1.heap.size by have := hs1.out; omega) _⟩
      case measure => omega
    · have Qc0 : World.cell? wr ⟨w1.heap.size, 0, none⟩ = some (.int .u64 x0) := Qb.get 0 rfl
      have Qc1 : World.cell? wr ⟨w1.heap.size, 1, none⟩ = some (.int .u64 L) := Qb.get 1 rfl
      have Qc2 : World.cell? wr ⟨w1.heap.size, 2, none⟩ = some (.int .u64 x1) := Qb.get 2 rfl
      have HQ := Lib.hid Qb
      clear Qb
      go_wp2_with fail
      with_reducible refine (O1.out _).mono ?_
      rintro e w2 ⟨rfl, hb2⟩
      have Q2 := HQ.out.next hb2
      have Q2c0 : World.cell? w2 ⟨w1.heap.size, 0, none⟩ = some (.int .u64 x0) := Q2.get 0 rfl
      have Q2c1 : World.cell? w2 ⟨w1.heap.size, 1, none⟩ = some (.int .u64 L) := Q2.get 1 rfl
      have Q2c2 : World.cell? w2 ⟨w1.heap.size, 2, none⟩ = some (.int .u64 x1) := Q2.get 2 rfl
      have Q2f0 := Blk.frozen Q2 0
      have Q2f1 := Blk.frozen Q2 1
      have Q2f2 := Blk.frozen Q2 2
      obtain ⟨S0, S1, S2, S3⟩ := Blk.puts3 Q2 (.int .u64 y0) (.int .u64 y1) (.int .u64 x1)
      have HQ3 := Lib.hid S3
      have HZ3 := Lib.hid (Blk.far3 (HZ.out.next hb2) (show w.heap.size + 1 ≠ w1.heap.size by have := hs1.out; omega) (.int .u64 y0) (.int .u64 y1) (.int .u64 x1))
      have HB3 := Lib.hid (below_puts3 (below_next HB.out hb2) (show w.heap.size ≤ w1.heap.size by have := hs1.out; omega) (.int .u64 y0) (.int .u64 y1) (.int .u64 x1))
      clear hb2 Q2 HQ Qc0 Qc1 Qc2 HZ HB S3
      go_wp2_with fail
      rcases CS.out with ⟨e1, e2, e3, e4, hq⟩ | ⟨e1, e2, e3, e4, hq⟩
      · with_reducible refine (M2.out _ hq _).mono ?_
        rintro e w4 ⟨rfl, hb4⟩
        have CE := Lib.hid (And.intro e1 (And.intro e2 (And.intro e3 e4)))
        clear e1 e2 e3 e4 hq CS
        have Zb := HZ3.out.next hb4
        have B4 := below_next HB3.out hb4
        have Zc0 : World.cell? w4 ⟨w.heap.size + 1, 0, none⟩ = some (.int .u64 0) := Zb.get 0 rfl
        have Zc1 : World.cell? w4 ⟨w.heap.size + 1, 1, none⟩ = some (.int .u64 0) := Zb.get 1 rfl
        have Zc2 : World.cell? w4 ⟨w.heap.size + 1, 2, none⟩ = some (.int .u64 0) := Zb.get 2 rfl
        have Zf0 := Blk.frozen Zb 0
        have Zf1 := Blk.frozen Zb 1
        have Zf2 := Blk.frozen Zb 2
        obtain ⟨P0, P1, P2, P3⟩ := Blk.puts3 Zb (.int .u64 0) (.int .u64 0) (.int .u64 0)
        clear hb4
        go_wp2_with fail
        refine bodyPost_ret (by simp [results, Try.results27, go_sem, P0, P1, P2]; try rfl) rfl ?_
        exact ⟨by rw [CE.out.1, CE.out.2.1, CE.out.2.2.1, CE.out.2.2.2], below_puts3 B4 (by omega) _ _ _⟩
      · with_reducible refine (M2.out _ hq _).mono ?_
        rintro e w4 ⟨rfl, hb4⟩
        have CE := Lib.hid (And.intro e1 (And.intro e2 (And.intro e3 e4)))
        clear e1 e2 e3 e4 hq CS
        have Zb := HZ3.out.next hb4
        have Q4 := HQ3.out.next hb4
        have B4 := below_next HB3.out hb4
        have Zc0 : World.cell? w4 ⟨w.heap.size + 1, 0, none⟩ = some (.int .u64 0) := Zb.get 0 rfl
        have Zc1 : World.cell? w4 ⟨w.heap.size + 1, 1, none⟩ = some (.int .u64 0) := Zb.get 1 rfl
        have Zc2 : World.cell? w4 ⟨w.heap.size + 1, 2, none⟩ = some (.int .u64 0) := Zb.get 2 rfl
        have Q4c0 : World.cell? w4 ⟨w1.heap.size, 0, none⟩ = some (.int .u64 y0) := Q4.get 0 rfl
        have Q4c1 : World.cell? w4 ⟨w1.heap.size, 1, none⟩ = some (.int .u64 y1) := Q4.get 1 rfl
        have Q4c2 : World.cell? w4 ⟨w1.heap.size, 2, none⟩ = some (.int .u64 x1) := Q4.get 2 rfl
        have Zf0 := Blk.frozen Zb 0
        have Zf1 := Blk.frozen Zb 1
        have Zf2 := Blk.frozen Zb 2
        obtain ⟨P0, P1, P2, P3⟩ := Blk.puts3 Zb (.int .u64 y0) (.int .u64 y1) (.int .u64 x1)
        clear hb4
        go_wp2_with fail
        refine bodyPost_ret (by simp [results, Try.results27, go_sem, P0, P1, P2]; try rfl) rfl ?_
        exact ⟨by rw [CE.out.1, CE.out.2.1, CE.out.2.2.1, CE.out.2.2.2], below_puts3 B4 (by omega) _ _ _⟩
theorem scale_val (F L R a b x y z e : Int) (w : World) (wF : Word F) (wL : Word L) (wR : Word R) (wa : Word a) (wb : Word b) (hx : partF F L R a b = x) (hy : partL F L R a b = y) (hz : partR F L R a b = z) (he : partE F L R a b = e) : Calls Try.prog 27 #[.agg #[.int .u64 F, .int .u64 L, .int .u64 R], .int .u64 a, .int .u64 b] w fun q w' =>
    q = .returned (.tuple #[.agg #[.int .u64 x, .int .u64 y, .int .u64 z], .int .i64 e]) ∧ Below w.heap.size w w' := by
  rw [← hx, ← hy, ← hz, ← he]; exact scale_any F L R a b w wF wL wR wa wb

end Go.Proofs.Ytjbajongjdbplaa
