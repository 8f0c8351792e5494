/-
  What a run of a bent curve tells: the program's functions that only read.
-/
import Derived.Test.YtjhffbhjiflfeaaGreatCurveB
import Derived.Test.YtjhffbhjiflfeaaGreatBentPlain
namespace Go.Proofs.YtjhffbhjiflfeaaGreat
set_option linter.unusedVariables false
set_option linter.unusedSimpArgs false
open Go.RowKit Go.Shelf

/-- Block q holds a run: its curve, how many copies started, the last one's tick, both lines. -/
def IsBent (w : World) (q : Nat) (F L R n x f r : Int) : Prop :=
  Blk w q 120 #[.int .u64 F, .int .u64 L, .int .u64 R, .int .i64 n, .int .u64 x, .int .u64 F, .int .u64 f, .int .u64 R, .int .u64 r]

theorem none_nil (w : World) : Calls Tryz.prog 115 #[.pointer none] w fun e w' => e = .returned (.bool true) ∧ w = w' := by
  go_enter Tryz.func115, Tryz.ntmps115
  go_wp2_with fail
  go_ret
  exact ⟨rfl, rfl⟩
theorem none_made (q : Nat) (F L R n x f r : Int) (b : Bool) (w : World) (h : IsBent w q F L R n x f r) (hb : (n == 0) = b) : Calls Tryz.prog 115 #[.pointer (some ⟨q, 0, none⟩)] w fun e w' => e = .returned (.bool b) ∧ w = w' := by
  have c3 : World.cell? w ⟨q, 3, none⟩ = some (.int .i64 n) := Blk.get h 3 rfl
  go_enter Tryz.func115, Tryz.ntmps115
  go_wp2_with fail
  go_ret
  exact ⟨by simp, rfl⟩

theorem has_val (S h n v : Int) (w : World) (hS : Word S) (hh : Word h) (hn : Word n) (hv : stopN (h + stopN (S * n)) = v) :
    Calls Tryz.prog 119 #[.agg #[.int .u64 S, .int .u64 h], .int .u64 n] w fun e w' => e = .returned (.int .u64 v) ∧ Below w.heap.size w w' := by
  have TI := Lib.hid (fun w => times_any S n w hS hn)
  obtain ⟨d, hd⟩ : ∃ d, stopN (S * n) = d := ⟨_, rfl⟩
  have d0 : 0 ≤ d := by rw [← hd]; exact stop_nonneg (Int.mul_nonneg hS.1 hn.1)
  have d1 : d ≤ 4611686018427387904 := by rw [← hd]; exact stop_le _
  rw [hd] at TI hv
  have PL : Hid (∀ w, Calls Tryz.prog 118 #[.int .u64 h, .int .u64 d] w fun e w' => e = .returned (.int .u64 v) ∧ Below w.heap.size w w') := fun w => (plus_any h d w hh ⟨d0, by omega⟩).mono (by rintro e w' ⟨rfl, rfl⟩; rw [hv]; exact ⟨rfl, Below.refl _ _⟩)
  clear hd hv d0 d1
  go_enter Tryz.func119, Tryz.ntmps119
  have Pb : Blk (w.alloc (.cells #[.int .u64 S, .int .u64 h] 118)) (w.heap.size) 118 #[.int .u64 S, .int .u64 h] := Blk.new w _ _
  have Pc0 : World.cell? (w.alloc (.cells #[.int .u64 S, .int .u64 h] 118)) ⟨w.heap.size, 0, none⟩ = some (.int .u64 S) := Pb.get 0 rfl
  have Pf0 := Blk.frozen Pb 0
  have Pc1 : World.cell? (w.alloc (.cells #[.int .u64 S, .int .u64 h] 118)) ⟨w.heap.size, 1, none⟩ = some (.int .u64 h) := Pb.get 1 rfl
  have Pf1 := Blk.frozen Pb 1
  have Pn := Blk.lt Pb
  go_wp2_with fail
  refine wp_region_noPanic ?_
  refine wp_region_held_drew (S := fun w' => (w'.cell? ⟨w.heap.size, 0, none⟩ = some (.int .u64 S) ∧ w'.cell? ⟨w.heap.size, 1, none⟩ = some (.int .u64 h)) ∧ (Blk w' (w.heap.size) 118 #[.int .u64 S, .int .u64 h]) ∧ Below w.heap.size w w') (by kernel_rfl) ((fun (h : (Blk _ (w.heap.size) 118 #[.int .u64 S, .int .u64 h]) ∧ Below w.heap.size w _) => ⟨⟨h.1.get 0 rfl, h.1.get 1 rfl⟩, h.1, h.2⟩) ⟨(by repeat (first | (with_reducible exact Pb) | (refine Blk.new_at ?_; simp only [World.size_alloc]; done) | (with_reducible refine Blk.alloc ?_ _) | (with_reducible refine Blk.drew ?_) | (with_reducible refine Blk.drewN ?_ _))), (by go_grown)⟩) (fun hH => ?_)
  first | (refine wpAnyH_take (i := 0) (v := undef) rfl ?_ ?_ ?_ (fun _ _ _ h => h) ?_ ?_ ?_; kernel_rfl; kernel_rfl; kernel_rfl; exact Or.inr ⟨by rfl, rfl⟩; exact hH) | (refine wpAnyH_take (i := 0) (v := ?_) rfl ?_ ?_ ?_ (fun _ _ _ h => h) ?_ ?_ ?_; rotate_left; kernel_rfl; kernel_rfl; kernel_rfl; (focus (refine Or.inl ⟨by rfl, ?_⟩; intro w' hSw; (try dsimp only at hSw); go_simp)); exact hH) | (refine wpAnyH_take (i := 0) (v := ?_) rfl ?_ ?_ ?_ (fun _ _ _ h => h) ?_ ?_ ?_; rotate_left; kernel_rfl; kernel_rfl; kernel_rfl; (focus (refine Or.inl ⟨by rfl, ?_⟩; intro w' hSw; (try dsimp only at hSw); go_simp; with_reducible rfl)); exact hH)
  try simp only [Act.put, List.getElem_toArray, List.getElem_cons_succ, List.getElem_cons_zero, List.setIfInBounds_toArray, List.set_cons_zero, List.set_cons_succ]
  first | (refine wpAnyH_take (i := 1) (v := undef) rfl ?_ ?_ ?_ (fun _ _ _ h => h) ?_ ?_ ?_; kernel_rfl; kernel_rfl; kernel_rfl; exact Or.inr ⟨by rfl, rfl⟩; exact hH) | (refine wpAnyH_take (i := 1) (v := ?_) rfl ?_ ?_ ?_ (fun _ _ _ h => h) ?_ ?_ ?_; rotate_left; kernel_rfl; kernel_rfl; kernel_rfl; (focus (refine Or.inl ⟨by rfl, ?_⟩; intro w' hSw; (try dsimp only at hSw); go_simp)); exact hH) | (refine wpAnyH_take (i := 1) (v := ?_) rfl ?_ ?_ ?_ (fun _ _ _ h => h) ?_ ?_ ?_; rotate_left; kernel_rfl; kernel_rfl; kernel_rfl; (focus (refine Or.inl ⟨by rfl, ?_⟩; intro w' hSw; (try dsimp only at hSw); go_simp; with_reducible rfl)); exact hH)
  try simp only [Act.put, List.getElem_toArray, List.getElem_cons_succ, List.getElem_cons_zero, List.setIfInBounds_toArray, List.set_cons_zero, List.set_cons_succ]
  first | (refine wpAnyH_take (i := 2) (v := undef) rfl ?_ ?_ ?_ (fun _ _ _ h => h) ?_ ?_ ?_; kernel_rfl; kernel_rfl; kernel_rfl; exact Or.inr ⟨by rfl, rfl⟩; exact hH) | (refine wpAnyH_take (i := 2) (v := ?_) rfl ?_ ?_ ?_ (fun _ _ _ h => h) ?_ ?_ ?_; rotate_left; kernel_rfl; kernel_rfl; kernel_rfl; (focus (refine Or.inl ⟨by rfl, ?_⟩; intro w' hSw; (try dsimp only at hSw); go_simp)); exact hH) | (refine wpAnyH_take (i := 2) (v := ?_) rfl ?_ ?_ ?_ (fun _ _ _ h => h) ?_ ?_ ?_; rotate_left; kernel_rfl; kernel_rfl; kernel_rfl; (focus (refine Or.inl ⟨by rfl, ?_⟩; intro w' hSw; (try dsimp only at hSw); go_simp; with_reducible rfl)); exact hH)
  try simp only [Act.put, List.getElem_toArray, List.getElem_cons_succ, List.getElem_cons_zero, List.setIfInBounds_toArray, List.set_cons_zero, List.set_cons_succ]
  first | (refine wpAnyH_take (i := 3) (v := undef) rfl ?_ ?_ ?_ (fun _ _ _ h => h) ?_ ?_ ?_; kernel_rfl; kernel_rfl; kernel_rfl; exact Or.inr ⟨by rfl, rfl⟩; exact hH) | (refine wpAnyH_take (i := 3) (v := ?_) rfl ?_ ?_ ?_ (fun _ _ _ h => h) ?_ ?_ ?_; rotate_left; kernel_rfl; kernel_rfl; kernel_rfl; (focus (refine Or.inl ⟨by rfl, ?_⟩; intro w' hSw; (try dsimp only at hSw); go_simp)); exact hH) | (refine wpAnyH_take (i := 3) (v := ?_) rfl ?_ ?_ ?_ (fun _ _ _ h => h) ?_ ?_ ?_; rotate_left; kernel_rfl; kernel_rfl; kernel_rfl; (focus (refine Or.inl ⟨by rfl, ?_⟩; intro w' hSw; (try dsimp only at hSw); go_simp; with_reducible rfl)); exact hH)
  try simp only [Act.put, List.getElem_toArray, List.getElem_cons_succ, List.getElem_cons_zero, List.setIfInBounds_toArray, List.set_cons_zero, List.set_cons_succ]
  first | (refine wpAnyH_take (i := 4) (v := undef) rfl ?_ ?_ ?_ (fun _ _ _ h => h) ?_ ?_ ?_; kernel_rfl; kernel_rfl; kernel_rfl; exact Or.inr ⟨by rfl, rfl⟩; exact hH) | (refine wpAnyH_take (i := 4) (v := ?_) rfl ?_ ?_ ?_ (fun _ _ _ h => h) ?_ ?_ ?_; rotate_left; kernel_rfl; kernel_rfl; kernel_rfl; (focus (refine Or.inl ⟨by rfl, ?_⟩; intro w' hSw; (try dsimp only at hSw); go_simp)); exact hH) | (refine wpAnyH_take (i := 4) (v := ?_) rfl ?_ ?_ ?_ (fun _ _ _ h => h) ?_ ?_ ?_; rotate_left; kernel_rfl; kernel_rfl; kernel_rfl; (focus (refine Or.inl ⟨by rfl, ?_⟩; intro w' hSw; (try dsimp only at hSw); go_simp; with_reducible rfl)); exact hH)
  try simp only [Act.put, List.getElem_toArray, List.getElem_cons_succ, List.getElem_cons_zero, List.setIfInBounds_toArray, List.set_cons_zero, List.set_cons_succ]
  refine wpAnyH_ready (rs := [5]) (by kernel_rfl) (by simp) ?_
  refine AllReadyH.cons rfl (fun K hK => ?_) AllReadyH.nil
  go_simp
  with_reducible refine (TI.out _).mono ?_
  rintro e w1 ⟨rfl, hb1⟩
  try go_wp2_with fail
  refine hK.out _ _ ((fun h => ⟨⟨(Blk.next h.2.1 hb1).get 0 rfl, (Blk.next h.2.1 hb1).get 1 rfl⟩, Blk.next h.2.1 hb1, below_next h.2.2 hb1⟩) hH) (fun hH1 => ?_)
  clear hK K hH hb1
  have hH := hH1
  clear hH1
  try simp only [Act.put, List.getElem_toArray, List.getElem_cons_succ, List.getElem_cons_zero, List.setIfInBounds_toArray, List.set_cons_zero, List.set_cons_succ]
  refine wpAnyH_ready (rs := [6]) (by kernel_rfl) (by simp) ?_
  refine AllReadyH.cons rfl (fun K hK => ?_) AllReadyH.nil
  go_simp
  with_reducible refine (PL.out _).mono ?_
  rintro e w2 ⟨rfl, hb2⟩
  try go_wp2_with fail
  refine hK.out _ _ ((fun h => ⟨⟨(Blk.next h.2.1 hb2).get 0 rfl, (Blk.next h.2.1 hb2).get 1 rfl⟩, Blk.next h.2.1 hb2, below_next h.2.2 hb2⟩) hH) (fun hH2 => ?_)
  clear hK K hH hb2
  have hH := hH2
  clear hH2
  try simp only [Act.put, List.getElem_toArray, List.getElem_cons_succ, List.getElem_cons_zero, List.setIfInBounds_toArray, List.set_cons_zero, List.set_cons_succ]
  first | (refine wpAnyH_take (i := 7) (v := undef) rfl ?_ ?_ ?_ (fun _ _ _ h => h) ?_ ?_ ?_; kernel_rfl; kernel_rfl; kernel_rfl; exact Or.inr ⟨by rfl, rfl⟩; exact hH) | (refine wpAnyH_take (i := 7) (v := ?_) rfl ?_ ?_ ?_ (fun _ _ _ h => h) ?_ ?_ ?_; rotate_left; kernel_rfl; kernel_rfl; kernel_rfl; (focus (refine Or.inl ⟨by rfl, ?_⟩; intro w' hSw; (try dsimp only at hSw); go_simp)); exact hH) | (refine wpAnyH_take (i := 7) (v := ?_) rfl ?_ ?_ ?_ (fun _ _ _ h => h) ?_ ?_ ?_; rotate_left; kernel_rfl; kernel_rfl; kernel_rfl; (focus (refine Or.inl ⟨by rfl, ?_⟩; intro w' hSw; (try dsimp only at hSw); go_simp; with_reducible rfl)); exact hH)
  try simp only [Act.put, List.getElem_toArray, List.getElem_cons_succ, List.getElem_cons_zero, List.setIfInBounds_toArray, List.set_cons_zero, List.set_cons_succ]
  clear Pn Pb Pc0 Pf0 Pc1 Pf1
  refine wpAnyH_done (by kernel_rfl) ?_ _
  refine NoPanic.normal ?_
  obtain ⟨-, hB, B2⟩ := hH
  have Pb := hB
  have Pc0 := Pb.get 0 rfl
  have Pf0 := Blk.frozen Pb 0
  have Pc1 := Pb.get 1 rfl
  have Pf1 := Blk.frozen Pb 1
  have Pn := Blk.lt Pb
  clear hB
  go_wp2_with fail
  go_ret
  exact ⟨by simp, B2⟩

theorem until_any (S h y : Int) (w : World) (hS : Word S) (h0 : 0 ≤ h) (h1 : h ≤ 4611686018427387904) (hy : Word y) :
    Calls Tryz.prog 116 #[.agg #[.int .u64 S, .int .u64 h], .int .u64 y] w fun e w' => e = .returned (.int .u64 (untilN S h y)) ∧ Below w.heap.size w w' := by
  unfold untilN
  have y1 := hy.2
  by_cases k : y ≤ h
  · rw [if_pos k]
    go_enter Tryz.func116, Tryz.ntmps116
    go_wp2_with fail
    go_ret
    exact ⟨rfl, by go_grown⟩
  rw [if_neg k]
  have k' : h < y := by omega
  have hw : IntKind.u64.wrap (y - h) = y - h := by rw [IntKind.wrap_u64]; omega
  have UP := Lib.hid (fun w => up_any (y - h) 1 S w ⟨by omega, by omega⟩ (by decide) hS)
  by_cases hz : S = 0
  · rw [if_pos (.inl hz)]
    have ee : errN S = 2 := by unfold errN; rw [if_pos hz]
    rw [ee] at UP
    obtain ⟨u, eu⟩ : ∃ u, upN (y - h) 1 S = u := ⟨_, rfl⟩
    rw [eu] at UP
    clear ee hz eu k
    go_enter Tryz.func116, Tryz.ntmps116
    go_wp2_with fail
    with_reducible refine (UP.out _).mono ?_
    rintro e w1 ⟨rfl, hb1⟩
    have B1 : Below w.heap.size w w1 := by first | with_reducible exact hb1 | exact Below.trans (by go_grown) (hb1.mono (by simp only [World.size_alloc]; omega))
    clear hb1
    go_wp2_with fail
    go_ret
    exact ⟨by simp, B1⟩
  have ee : errN S = 0 := by unfold errN; rw [if_neg hz]
  rw [ee] at UP
  obtain ⟨u, eu⟩ : ∃ u, upN (y - h) 1 S = u := ⟨_, rfl⟩
  rw [eu] at UP ⊢
  by_cases hc : 4611686018427387904 < y
  · rw [if_pos (.inr hc)]
    clear ee hz eu k
    go_enter Tryz.func116, Tryz.ntmps116
    go_wp2_with fail
    with_reducible refine (UP.out _).mono ?_
    rintro e w1 ⟨rfl, hb1⟩
    have B1 : Below w.heap.size w w1 := by first | with_reducible exact hb1 | exact Below.trans (by go_grown) (hb1.mono (by simp only [World.size_alloc]; omega))
    clear hb1
    go_wp2_with fail
    go_ret
    exact ⟨by simp, B1⟩
  · rw [if_neg (by omega)]
    clear ee hz eu k
    go_enter Tryz.func116, Tryz.ntmps116
    go_wp2_with fail
    with_reducible refine (UP.out _).mono ?_
    rintro e w1 ⟨rfl, hb1⟩
    have B1 : Below w.heap.size w w1 := by first | with_reducible exact hb1 | exact Below.trans (by go_grown) (hb1.mono (by simp only [World.size_alloc]; omega))
    clear hb1
    go_wp2_with fail
    go_ret
    exact ⟨by simp, B1⟩

theorem breach_nil (y : Int) (w : World) : Calls Tryz.prog 112 #[.pointer none, .int .u64 y] w fun e w' => e = .returned (.int .u64 (if y = 0 then 0 else 9223372036854775808)) ∧ Below w.heap.size w w' := by
  have N := Lib.hid (fun w => none_nil w)
  by_cases h : y = 0
  · rw [if_pos h]
    subst h
    go_enter Tryz.func112, Tryz.ntmps112
    go_wp2_with fail
    with_reducible refine (N.out _).mono ?_
    rintro e wx ⟨rfl, rfl⟩
    go_wp2_with fail
    go_ret
    exact ⟨rfl, Below.refl _ _⟩
  · rw [if_neg h]
    have z : (y == 0) = false := beq_eq_false_iff_ne.2 h
    clear h
    go_enter Tryz.func112, Tryz.ntmps112
    go_wp2_with fail
    with_reducible refine (N.out _).mono ?_
    rintro e wx ⟨rfl, rfl⟩
    go_wp2_with fail
    go_ret
    exact ⟨rfl, Below.refl _ _⟩
theorem breach_zero (q : Nat) (F L R x f r y : Int) (w : World) (h : IsBent w q F L R 0 x f r) : Calls Tryz.prog 112 #[.pointer (some ⟨q, 0, none⟩), .int .u64 y] w fun e w' => e = .returned (.int .u64 (if y = 0 then 0 else 9223372036854775808)) ∧ Below w.heap.size w w' := by
  have N := Lib.hid (none_made q F L R 0 x f r true w h (by decide))
  by_cases h : y = 0
  · rw [if_pos h]
    subst h
    go_enter Tryz.func112, Tryz.ntmps112
    go_wp2_with fail
    with_reducible refine (N.out).mono ?_
    rintro e wx ⟨rfl, rfl⟩
    go_wp2_with fail
    go_ret
    exact ⟨rfl, Below.refl _ _⟩
  · rw [if_neg h]
    have z : (y == 0) = false := beq_eq_false_iff_ne.2 h
    clear h
    go_enter Tryz.func112, Tryz.ntmps112
    go_wp2_with fail
    with_reducible refine (N.out).mono ?_
    rintro e wx ⟨rfl, rfl⟩
    go_wp2_with fail
    go_ret
    exact ⟨rfl, Below.refl _ _⟩
set_option maxHeartbeats 4000000 in
theorem breach_made (q : Nat) (F L R n x f r y v : Int) (w : World) (h : IsBent w q F L R n x f r) (hm : Made F L R n x f r) (hn : 0 < n) (wy : Word y) (hv : reachB F R x f r y = v) :
    Calls Tryz.prog 112 #[.pointer (some ⟨q, 0, none⟩), .int .u64 y] w fun e w' => e = .returned (.int .u64 v) ∧ Below w.heap.size w w' := by
  have N := Lib.hid (none_made q F L R n x f r false w h (beq_eq_false_iff_ne.2 (by omega)))
  have x0 := hm.x0
  have x1 := hm.x1
  have wF : Word F := ⟨hm.may.f0, by have := hm.may.f1; omega⟩
  have wR : Word R := ⟨hm.may.r0, by have := hm.may.r1; omega⟩
  have U1 := Lib.hid (fun w => until_any F f y w wF hm.f0 hm.f1 wy)
  have U2 := Lib.hid (fun w => until_any R r y w wR hm.r0 hm.r1 wy)
  have b1 := until_bounds (y := y) hm.may.f0 hm.f0 wy.1
  have b2 := until_bounds (y := y) hm.may.r0 hm.r0 wy.1
  unfold reachB at hv
  obtain ⟨a, ea⟩ : ∃ a, untilN F f y = a := ⟨_, rfl⟩
  obtain ⟨b, eb⟩ : ∃ a, untilN R r y = a := ⟨_, rfl⟩
  rw [ea] at U1 b1 hv
  rw [eb] at U2 b2 hv
  have HQ : Hid (Blk w q 120 #[.int .u64 F, .int .u64 L, .int .u64 R, .int .i64 n, .int .u64 x, .int .u64 F, .int .u64 f, .int .u64 R, .int .u64 r]) := h
  clear ea eb h wF wR hm
  obtain ⟨m, em⟩ : ∃ m, max a b = m := ⟨_, rfl⟩
  have m0 : 0 ≤ m := by omega
  have m1 : m ≤ 9223372036854775808 := by omega
  rw [em] at hv
  clear b1 b2
  by_cases k : 9223372036854775808 - x ≤ m
  · rw [if_pos k] at hv
    subst hv
    go_enter Tryz.func112, Tryz.ntmps112
    go_wp2_with fail
    with_reducible refine (N.out).mono ?_
    rintro e wx ⟨rfl, rfl⟩
    have Qb : Blk w (q) 120 #[.int .u64 F, .int .u64 L, .int .u64 R, .int .i64 n, .int .u64 x, .int .u64 F, .int .u64 f, .int .u64 R, .int .u64 r] := HQ.out
    have Qc0 : World.cell? w ⟨q, 0, none⟩ = some (.int .u64 F) := Qb.get 0 rfl
    have Qf0 := Blk.frozen Qb 0
    have Qc1 : World.cell? w ⟨q, 1, none⟩ = some (.int .u64 L) := Qb.get 1 rfl
    have Qf1 := Blk.frozen Qb 1
    have Qc2 : World.cell? w ⟨q, 2, none⟩ = some (.int .u64 R) := Qb.get 2 rfl
    have Qf2 := Blk.frozen Qb 2
    have Qc3 : World.cell? w ⟨q, 3, none⟩ = some (.int .i64 n) := Qb.get 3 rfl
    have Qf3 := Blk.frozen Qb 3
    have Qc4 : World.cell? w ⟨q, 4, none⟩ = some (.int .u64 x) := Qb.get 4 rfl
    have Qf4 := Blk.frozen Qb 4
    have Qc5 : World.cell? w ⟨q, 5, none⟩ = some (.int .u64 F) := Qb.get 5 rfl
    have Qf5 := Blk.frozen Qb 5
    have Qc6 : World.cell? w ⟨q, 6, none⟩ = some (.int .u64 f) := Qb.get 6 rfl
    have Qf6 := Blk.frozen Qb 6
    have Qc7 : World.cell? w ⟨q, 7, none⟩ = some (.int .u64 R) := Qb.get 7 rfl
    have Qf7 := Blk.frozen Qb 7
    have Qc8 : World.cell? w ⟨q, 8, none⟩ = some (.int .u64 r) := Qb.get 8 rfl
    have Qf8 := Blk.frozen Qb 8
    have Qn := Blk.lt Qb
    go_wp2_with fail
    refine wp_region_noPanic ?_
    refine wp_region_held_drew (S := fun w' => (w'.cell? ⟨q, 0, none⟩ = some (.int .u64 F) ∧ w'.cell? ⟨q, 1, none⟩ = some (.int .u64 L) ∧ w'.cell? ⟨q, 2, none⟩ = some (.int .u64 R) ∧ w'.cell? ⟨q, 3, none⟩ = some (.int .i64 n) ∧ w'.cell? ⟨q, 4, none⟩ = some (.int .u64 x) ∧ w'.cell? ⟨q, 5, none⟩ = some (.int .u64 F) ∧ w'.cell? ⟨q, 6, none⟩ = some (.int .u64 f) ∧ w'.cell? ⟨q, 7, none⟩ = some (.int .u64 R) ∧ w'.cell? ⟨q, 8, none⟩ = some (.int .u64 r)) ∧ (Blk w' (q) 120 #[.int .u64 F, .int .u64 L, .int .u64 R, .int .i64 n, .int .u64 x, .int .u64 F, .int .u64 f, .int .u64 R, .int .u64 r]) ∧ Below w.heap.size w w') (by kernel_rfl) ((fun (h : (Blk _ (q) 120 #[.int .u64 F, .int .u64 L, .int .u64 R, .int .i64 n, .int .u64 x, .int .u64 F, .int .u64 f, .int .u64 R, .int .u64 r]) ∧ Below w.heap.size w _) => ⟨⟨h.1.get 0 rfl, h.1.get 1 rfl, h.1.get 2 rfl, h.1.get 3 rfl, h.1.get 4 rfl, h.1.get 5 rfl, h.1.get 6 rfl, h.1.get 7 rfl, h.1.get 8 rfl⟩, h.1, h.2⟩) ⟨(by repeat (first | (with_reducible exact Qb) | (refine Blk.new_at ?_; simp only [World.size_alloc]; done) | (with_reducible refine Blk.alloc ?_ _) | (with_reducible refine Blk.drew ?_) | (with_reducible refine Blk.drewN ?_ _))), (by go_grown)⟩) (fun hH => ?_)
    first | (refine wpAnyH_take (i := 0) (v := undef) rfl ?_ ?_ ?_ (fun _ _ _ h => h) ?_ ?_ ?_; kernel_rfl; kernel_rfl; kernel_rfl; exact Or.inr ⟨by rfl, rfl⟩; exact hH) | (refine wpAnyH_take (i := 0) (v := ?_) rfl ?_ ?_ ?_ (fun _ _ _ h => h) ?_ ?_ ?_; rotate_left; kernel_rfl; kernel_rfl; kernel_rfl; (focus (refine Or.inl ⟨by rfl, ?_⟩; intro w' hSw; (try dsimp only at hSw); go_simp)); exact hH) | (refine wpAnyH_take (i := 0) (v := ?_) rfl ?_ ?_ ?_ (fun _ _ _ h => h) ?_ ?_ ?_; rotate_left; kernel_rfl; kernel_rfl; kernel_rfl; (focus (refine Or.inl ⟨by rfl, ?_⟩; intro w' hSw; (try dsimp only at hSw); go_simp; with_reducible rfl)); exact hH)
    try simp only [Act.put, List.getElem_toArray, List.getElem_cons_succ, List.getElem_cons_zero, List.setIfInBounds_toArray, List.set_cons_zero, List.set_cons_succ]
    first | (refine wpAnyH_take (i := 1) (v := undef) rfl ?_ ?_ ?_ (fun _ _ _ h => h) ?_ ?_ ?_; kernel_rfl; kernel_rfl; kernel_rfl; exact Or.inr ⟨by rfl, rfl⟩; exact hH) | (refine wpAnyH_take (i := 1) (v := ?_) rfl ?_ ?_ ?_ (fun _ _ _ h => h) ?_ ?_ ?_; rotate_left; kernel_rfl; kernel_rfl; kernel_rfl; (focus (refine Or.inl ⟨by rfl, ?_⟩; intro w' hSw; (try dsimp only at hSw); go_simp)); exact hH) | (refine wpAnyH_take (i := 1) (v := ?_) rfl ?_ ?_ ?_ (fun _ _ _ h => h) ?_ ?_ ?_; rotate_left; kernel_rfl; kernel_rfl; kernel_rfl; (focus (refine Or.inl ⟨by rfl, ?_⟩; intro w' hSw; (try dsimp only at hSw); go_simp; with_reducible rfl)); exact hH)
    try simp only [Act.put, List.getElem_toArray, List.getElem_cons_succ, List.getElem_cons_zero, List.setIfInBounds_toArray, List.set_cons_zero, List.set_cons_succ]
    first | (refine wpAnyH_take (i := 2) (v := undef) rfl ?_ ?_ ?_ (fun _ _ _ h => h) ?_ ?_ ?_; kernel_rfl; kernel_rfl; kernel_rfl; exact Or.inr ⟨by rfl, rfl⟩; exact hH) | (refine wpAnyH_take (i := 2) (v := ?_) rfl ?_ ?_ ?_ (fun _ _ _ h => h) ?_ ?_ ?_; rotate_left; kernel_rfl; kernel_rfl; kernel_rfl; (focus (refine Or.inl ⟨by rfl, ?_⟩; intro w' hSw; (try dsimp only at hSw); go_simp)); exact hH) | (refine wpAnyH_take (i := 2) (v := ?_) rfl ?_ ?_ ?_ (fun _ _ _ h => h) ?_ ?_ ?_; rotate_left; kernel_rfl; kernel_rfl; kernel_rfl; (focus (refine Or.inl ⟨by rfl, ?_⟩; intro w' hSw; (try dsimp only at hSw); go_simp; with_reducible rfl)); exact hH)
    try simp only [Act.put, List.getElem_toArray, List.getElem_cons_succ, List.getElem_cons_zero, List.setIfInBounds_toArray, List.set_cons_zero, List.set_cons_succ]
    first | (refine wpAnyH_take (i := 3) (v := undef) rfl ?_ ?_ ?_ (fun _ _ _ h => h) ?_ ?_ ?_; kernel_rfl; kernel_rfl; kernel_rfl; exact Or.inr ⟨by rfl, rfl⟩; exact hH) | (refine wpAnyH_take (i := 3) (v := ?_) rfl ?_ ?_ ?_ (fun _ _ _ h => h) ?_ ?_ ?_; rotate_left; kernel_rfl; kernel_rfl; kernel_rfl; (focus (refine Or.inl ⟨by rfl, ?_⟩; intro w' hSw; (try dsimp only at hSw); go_simp)); exact hH) | (refine wpAnyH_take (i := 3) (v := ?_) rfl ?_ ?_ ?_ (fun _ _ _ h => h) ?_ ?_ ?_; rotate_left; kernel_rfl; kernel_rfl; kernel_rfl; (focus (refine Or.inl ⟨by rfl, ?_⟩; intro w' hSw; (try dsimp only at hSw); go_simp; with_reducible rfl)); exact hH)
    try simp only [Act.put, List.getElem_toArray, List.getElem_cons_succ, List.getElem_cons_zero, List.setIfInBounds_toArray, List.set_cons_zero, List.set_cons_succ]
    first | (refine wpAnyH_take (i := 4) (v := undef) rfl ?_ ?_ ?_ (fun _ _ _ h => h) ?_ ?_ ?_; kernel_rfl; kernel_rfl; kernel_rfl; exact Or.inr ⟨by rfl, rfl⟩; exact hH) | (refine wpAnyH_take (i := 4) (v := ?_) rfl ?_ ?_ ?_ (fun _ _ _ h => h) ?_ ?_ ?_; rotate_left; kernel_rfl; kernel_rfl; kernel_rfl; (focus (refine Or.inl ⟨by rfl, ?_⟩; intro w' hSw; (try dsimp only at hSw); go_simp)); exact hH) | (refine wpAnyH_take (i := 4) (v := ?_) rfl ?_ ?_ ?_ (fun _ _ _ h => h) ?_ ?_ ?_; rotate_left; kernel_rfl; kernel_rfl; kernel_rfl; (focus (refine Or.inl ⟨by rfl, ?_⟩; intro w' hSw; (try dsimp only at hSw); go_simp; with_reducible rfl)); exact hH)
    try simp only [Act.put, List.getElem_toArray, List.getElem_cons_succ, List.getElem_cons_zero, List.setIfInBounds_toArray, List.set_cons_zero, List.set_cons_succ]
    first | (refine wpAnyH_take (i := 6) (v := undef) rfl ?_ ?_ ?_ (fun _ _ _ h => h) ?_ ?_ ?_; kernel_rfl; kernel_rfl; kernel_rfl; exact Or.inr ⟨by rfl, rfl⟩; exact hH) | (refine wpAnyH_take (i := 6) (v := ?_) rfl ?_ ?_ ?_ (fun _ _ _ h => h) ?_ ?_ ?_; rotate_left; kernel_rfl; kernel_rfl; kernel_rfl; (focus (refine Or.inl ⟨by rfl, ?_⟩; intro w' hSw; (try dsimp only at hSw); go_simp)); exact hH) | (refine wpAnyH_take (i := 6) (v := ?_) rfl ?_ ?_ ?_ (fun _ _ _ h => h) ?_ ?_ ?_; rotate_left; kernel_rfl; kernel_rfl; kernel_rfl; (focus (refine Or.inl ⟨by rfl, ?_⟩; intro w' hSw; (try dsimp only at hSw); go_simp; with_reducible rfl)); exact hH)
    try simp only [Act.put, List.getElem_toArray, List.getElem_cons_succ, List.getElem_cons_zero, List.setIfInBounds_toArray, List.set_cons_zero, List.set_cons_succ]
    first | (refine wpAnyH_take (i := 7) (v := undef) rfl ?_ ?_ ?_ (fun _ _ _ h => h) ?_ ?_ ?_; kernel_rfl; kernel_rfl; kernel_rfl; exact Or.inr ⟨by rfl, rfl⟩; exact hH) | (refine wpAnyH_take (i := 7) (v := ?_) rfl ?_ ?_ ?_ (fun _ _ _ h => h) ?_ ?_ ?_; rotate_left; kernel_rfl; kernel_rfl; kernel_rfl; (focus (refine Or.inl ⟨by rfl, ?_⟩; intro w' hSw; (try dsimp only at hSw); go_simp)); exact hH) | (refine wpAnyH_take (i := 7) (v := ?_) rfl ?_ ?_ ?_ (fun _ _ _ h => h) ?_ ?_ ?_; rotate_left; kernel_rfl; kernel_rfl; kernel_rfl; (focus (refine Or.inl ⟨by rfl, ?_⟩; intro w' hSw; (try dsimp only at hSw); go_simp; with_reducible rfl)); exact hH)
    try simp only [Act.put, List.getElem_toArray, List.getElem_cons_succ, List.getElem_cons_zero, List.setIfInBounds_toArray, List.set_cons_zero, List.set_cons_succ]
    first | (refine wpAnyH_take (i := 8) (v := undef) rfl ?_ ?_ ?_ (fun _ _ _ h => h) ?_ ?_ ?_; kernel_rfl; kernel_rfl; kernel_rfl; exact Or.inr ⟨by rfl, rfl⟩; exact hH) | (refine wpAnyH_take (i := 8) (v := ?_) rfl ?_ ?_ ?_ (fun _ _ _ h => h) ?_ ?_ ?_; rotate_left; kernel_rfl; kernel_rfl; kernel_rfl; (focus (refine Or.inl ⟨by rfl, ?_⟩; intro w' hSw; (try dsimp only at hSw); go_simp)); exact hH) | (refine wpAnyH_take (i := 8) (v := ?_) rfl ?_ ?_ ?_ (fun _ _ _ h => h) ?_ ?_ ?_; rotate_left; kernel_rfl; kernel_rfl; kernel_rfl; (focus (refine Or.inl ⟨by rfl, ?_⟩; intro w' hSw; (try dsimp only at hSw); go_simp; with_reducible rfl)); exact hH)
    try simp only [Act.put, List.getElem_toArray, List.getElem_cons_succ, List.getElem_cons_zero, List.setIfInBounds_toArray, List.set_cons_zero, List.set_cons_succ]
    first | (refine wpAnyH_take (i := 9) (v := undef) rfl ?_ ?_ ?_ (fun _ _ _ h => h) ?_ ?_ ?_; kernel_rfl; kernel_rfl; kernel_rfl; exact Or.inr ⟨by rfl, rfl⟩; exact hH) | (refine wpAnyH_take (i := 9) (v := ?_) rfl ?_ ?_ ?_ (fun _ _ _ h => h) ?_ ?_ ?_; rotate_left; kernel_rfl; kernel_rfl; kernel_rfl; (focus (refine Or.inl ⟨by rfl, ?_⟩; intro w' hSw; (try dsimp only at hSw); go_simp)); exact hH) | (refine wpAnyH_take (i := 9) (v := ?_) rfl ?_ ?_ ?_ (fun _ _ _ h => h) ?_ ?_ ?_; rotate_left; kernel_rfl; kernel_rfl; kernel_rfl; (focus (refine Or.inl ⟨by rfl, ?_⟩; intro w' hSw; (try dsimp only at hSw); go_simp; with_reducible rfl)); exact hH)
    try simp only [Act.put, List.getElem_toArray, List.getElem_cons_succ, List.getElem_cons_zero, List.setIfInBounds_toArray, List.set_cons_zero, List.set_cons_succ]
    first | (refine wpAnyH_take (i := 10) (v := undef) rfl ?_ ?_ ?_ (fun _ _ _ h => h) ?_ ?_ ?_; kernel_rfl; kernel_rfl; kernel_rfl; exact Or.inr ⟨by rfl, rfl⟩; exact hH) | (refine wpAnyH_take (i := 10) (v := ?_) rfl ?_ ?_ ?_ (fun _ _ _ h => h) ?_ ?_ ?_; rotate_left; kernel_rfl; kernel_rfl; kernel_rfl; (focus (refine Or.inl ⟨by rfl, ?_⟩; intro w' hSw; (try dsimp only at hSw); go_simp)); exact hH) | (refine wpAnyH_take (i := 10) (v := ?_) rfl ?_ ?_ ?_ (fun _ _ _ h => h) ?_ ?_ ?_; rotate_left; kernel_rfl; kernel_rfl; kernel_rfl; (focus (refine Or.inl ⟨by rfl, ?_⟩; intro w' hSw; (try dsimp only at hSw); go_simp; with_reducible rfl)); exact hH)
    try simp only [Act.put, List.getElem_toArray, List.getElem_cons_succ, List.getElem_cons_zero, List.setIfInBounds_toArray, List.set_cons_zero, List.set_cons_succ]
    refine wpAnyH_ready (rs := [5]) (by kernel_rfl) (by simp) ?_
    refine AllReadyH.cons rfl (fun K hK => ?_) AllReadyH.nil
    go_simp
    with_reducible refine (U1.out _).mono ?_
    rintro e w1 ⟨rfl, hb1⟩
    try go_wp2_with fail
    refine hK.out _ _ ((fun h => ⟨⟨(Blk.next h.2.1 hb1).get 0 rfl, (Blk.next h.2.1 hb1).get 1 rfl, (Blk.next h.2.1 hb1).get 2 rfl, (Blk.next h.2.1 hb1).get 3 rfl, (Blk.next h.2.1 hb1).get 4 rfl, (Blk.next h.2.1 hb1).get 5 rfl, (Blk.next h.2.1 hb1).get 6 rfl, (Blk.next h.2.1 hb1).get 7 rfl, (Blk.next h.2.1 hb1).get 8 rfl⟩, Blk.next h.2.1 hb1, below_next h.2.2 hb1⟩) hH) (fun hH1 => ?_)
    clear hK K hH hb1
    have hH := hH1
    clear hH1
    try simp only [Act.put, List.getElem_toArray, List.getElem_cons_succ, List.getElem_cons_zero, List.setIfInBounds_toArray, List.set_cons_zero, List.set_cons_succ]
    refine wpAnyH_ready (rs := [11]) (by kernel_rfl) (by simp) ?_
    refine AllReadyH.cons rfl (fun K hK => ?_) AllReadyH.nil
    go_simp
    with_reducible refine (U2.out _).mono ?_
    rintro e w2 ⟨rfl, hb2⟩
    try go_wp2_with fail
    refine hK.out _ _ ((fun h => ⟨⟨(Blk.next h.2.1 hb2).get 0 rfl, (Blk.next h.2.1 hb2).get 1 rfl, (Blk.next h.2.1 hb2).get 2 rfl, (Blk.next h.2.1 hb2).get 3 rfl, (Blk.next h.2.1 hb2).get 4 rfl, (Blk.next h.2.1 hb2).get 5 rfl, (Blk.next h.2.1 hb2).get 6 rfl, (Blk.next h.2.1 hb2).get 7 rfl, (Blk.next h.2.1 hb2).get 8 rfl⟩, Blk.next h.2.1 hb2, below_next h.2.2 hb2⟩) hH) (fun hH2 => ?_)
    clear hK K hH hb2
    have hH := hH2
    clear hH2
    try simp only [Act.put, List.getElem_toArray, List.getElem_cons_succ, List.getElem_cons_zero, List.setIfInBounds_toArray, List.set_cons_zero, List.set_cons_succ]
    first | (refine wpAnyH_take (i := 12) (v := undef) rfl ?_ ?_ ?_ (fun _ _ _ h => h) ?_ ?_ ?_; kernel_rfl; kernel_rfl; kernel_rfl; exact Or.inr ⟨by rfl, rfl⟩; exact hH) | (refine wpAnyH_take (i := 12) (v := ?_) rfl ?_ ?_ ?_ (fun _ _ _ h => h) ?_ ?_ ?_; rotate_left; kernel_rfl; kernel_rfl; kernel_rfl; (focus (refine Or.inl ⟨by rfl, ?_⟩; intro w' hSw; (try dsimp only at hSw); go_simp)); exact hH) | (refine wpAnyH_take (i := 12) (v := ?_) rfl ?_ ?_ ?_ (fun _ _ _ h => h) ?_ ?_ ?_; rotate_left; kernel_rfl; kernel_rfl; kernel_rfl; (focus (refine Or.inl ⟨by rfl, ?_⟩; intro w' hSw; (try dsimp only at hSw); go_simp; with_reducible rfl)); exact hH)
    try simp only [Act.put, List.getElem_toArray, List.getElem_cons_succ, List.getElem_cons_zero, List.setIfInBounds_toArray, List.set_cons_zero, List.set_cons_succ]
    first | (refine wpAnyH_take (i := 13) (v := undef) rfl ?_ ?_ ?_ (fun _ _ _ h => h) ?_ ?_ ?_; kernel_rfl; kernel_rfl; kernel_rfl; exact Or.inr ⟨by rfl, rfl⟩; exact hH) | (refine wpAnyH_take (i := 13) (v := ?_) rfl ?_ ?_ ?_ (fun _ _ _ h => h) ?_ ?_ ?_; rotate_left; kernel_rfl; kernel_rfl; kernel_rfl; (focus (refine Or.inl ⟨by rfl, ?_⟩; intro w' hSw; (try dsimp only at hSw); go_simp)); exact hH) | (refine wpAnyH_take (i := 13) (v := ?_) rfl ?_ ?_ ?_ (fun _ _ _ h => h) ?_ ?_ ?_; rotate_left; kernel_rfl; kernel_rfl; kernel_rfl; (focus (refine Or.inl ⟨by rfl, ?_⟩; intro w' hSw; (try dsimp only at hSw); go_simp; with_reducible rfl)); exact hH)
    try simp only [Act.put, List.getElem_toArray, List.getElem_cons_succ, List.getElem_cons_zero, List.setIfInBounds_toArray, List.set_cons_zero, List.set_cons_succ]
    clear Qn Qb Qc0 Qf0 Qc1 Qf1 Qc2 Qf2 Qc3 Qf3 Qc4 Qf4 Qc5 Qf5 Qc6 Qf6 Qc7 Qf7 Qc8 Qf8
    refine wpAnyH_done (by kernel_rfl) ?_ _
    refine NoPanic.normal ?_
    obtain ⟨-, hB, B2⟩ := hH
    have Qb := hB
    have Qc0 := Qb.get 0 rfl
    have Qf0 := Blk.frozen Qb 0
    have Qc1 := Qb.get 1 rfl
    have Qf1 := Blk.frozen Qb 1
    have Qc2 := Qb.get 2 rfl
    have Qf2 := Blk.frozen Qb 2
    have Qc3 := Qb.get 3 rfl
    have Qf3 := Blk.frozen Qb 3
    have Qc4 := Qb.get 4 rfl
    have Qf4 := Blk.frozen Qb 4
    have Qc5 := Qb.get 5 rfl
    have Qf5 := Blk.frozen Qb 5
    have Qc6 := Qb.get 6 rfl
    have Qf6 := Blk.frozen Qb 6
    have Qc7 := Qb.get 7 rfl
    have Qf7 := Blk.frozen Qb 7
    have Qc8 := Qb.get 8 rfl
    have Qf8 := Blk.frozen Qb 8
    have Qn := Blk.lt Qb
    clear hB
    go_wp2_with fail
    go_ret
    exact ⟨by simp, B2⟩
  · rw [if_neg k] at hv
    have HV := Lib.hid hv
    have k2 : m < 9223372036854775808 - x := by omega
    clear hv k
    go_enter Tryz.func112, Tryz.ntmps112
    go_wp2_with fail
    with_reducible refine (N.out).mono ?_
    rintro e wx ⟨rfl, rfl⟩
    have Qb : Blk w (q) 120 #[.int .u64 F, .int .u64 L, .int .u64 R, .int .i64 n, .int .u64 x, .int .u64 F, .int .u64 f, .int .u64 R, .int .u64 r] := HQ.out
    have Qc0 : World.cell? w ⟨q, 0, none⟩ = some (.int .u64 F) := Qb.get 0 rfl
    have Qf0 := Blk.frozen Qb 0
    have Qc1 : World.cell? w ⟨q, 1, none⟩ = some (.int .u64 L) := Qb.get 1 rfl
    have Qf1 := Blk.frozen Qb 1
    have Qc2 : World.cell? w ⟨q, 2, none⟩ = some (.int .u64 R) := Qb.get 2 rfl
    have Qf2 := Blk.frozen Qb 2
    have Qc3 : World.cell? w ⟨q, 3, none⟩ = some (.int .i64 n) := Qb.get 3 rfl
    have Qf3 := Blk.frozen Qb 3
    have Qc4 : World.cell? w ⟨q, 4, none⟩ = some (.int .u64 x) := Qb.get 4 rfl
    have Qf4 := Blk.frozen Qb 4
    have Qc5 : World.cell? w ⟨q, 5, none⟩ = some (.int .u64 F) := Qb.get 5 rfl
    have Qf5 := Blk.frozen Qb 5
    have Qc6 : World.cell? w ⟨q, 6, none⟩ = some (.int .u64 f) := Qb.get 6 rfl
    have Qf6 := Blk.frozen Qb 6
    have Qc7 : World.cell? w ⟨q, 7, none⟩ = some (.int .u64 R) := Qb.get 7 rfl
    have Qf7 := Blk.frozen Qb 7
    have Qc8 : World.cell? w ⟨q, 8, none⟩ = some (.int .u64 r) := Qb.get 8 rfl
    have Qf8 := Blk.frozen Qb 8
    have Qn := Blk.lt Qb
    go_wp2_with fail
    refine wp_region_noPanic ?_
    refine wp_region_held_drew (S := fun w' => (w'.cell? ⟨q, 0, none⟩ = some (.int .u64 F) ∧ w'.cell? ⟨q, 1, none⟩ = some (.int .u64 L) ∧ w'.cell? ⟨q, 2, none⟩ = some (.int .u64 R) ∧ w'.cell? ⟨q, 3, none⟩ = some (.int .i64 n) ∧ w'.cell? ⟨q, 4, none⟩ = some (.int .u64 x) ∧ w'.cell? ⟨q, 5, none⟩ = some (.int .u64 F) ∧ w'.cell? ⟨q, 6, none⟩ = some (.int .u64 f) ∧ w'.cell? ⟨q, 7, none⟩ = some (.int .u64 R) ∧ w'.cell? ⟨q, 8, none⟩ = some (.int .u64 r)) ∧ (Blk w' (q) 120 #[.int .u64 F, .int .u64 L, .int .u64 R, .int .i64 n, .int .u64 x, .int .u64 F, .int .u64 f, .int .u64 R, .int .u64 r]) ∧ Below w.heap.size w w') (by kernel_rfl) ((fun (h : (Blk _ (q) 120 #[.int .u64 F, .int .u64 L, .int .u64 R, .int .i64 n, .int .u64 x, .int .u64 F, .int .u64 f, .int .u64 R, .int .u64 r]) ∧ Below w.heap.size w _) => ⟨⟨h.1.get 0 rfl, h.1.get 1 rfl, h.1.get 2 rfl, h.1.get 3 rfl, h.1.get 4 rfl, h.1.get 5 rfl, h.1.get 6 rfl, h.1.get 7 rfl, h.1.get 8 rfl⟩, h.1, h.2⟩) ⟨(by repeat (first | (with_reducible exact Qb) | (refine Blk.new_at ?_; simp only [World.size_alloc]; done) | (with_reducible refine Blk.alloc ?_ _) | (with_reducible refine Blk.drew ?_) | (with_reducible refine Blk.drewN ?_ _))), (by go_grown)⟩) (fun hH => ?_)
    first | (refine wpAnyH_take (i := 0) (v := undef) rfl ?_ ?_ ?_ (fun _ _ _ h => h) ?_ ?_ ?_; kernel_rfl; kernel_rfl; kernel_rfl; exact Or.inr ⟨by rfl, rfl⟩; exact hH) | (refine wpAnyH_take (i := 0) (v := ?_) rfl ?_ ?_ ?_ (fun _ _ _ h => h) ?_ ?_ ?_; rotate_left; kernel_rfl; kernel_rfl; kernel_rfl; (focus (refine Or.inl ⟨by rfl, ?_⟩; intro w' hSw; (try dsimp only at hSw); go_simp)); exact hH) | (refine wpAnyH_take (i := 0) (v := ?_) rfl ?_ ?_ ?_ (fun _ _ _ h => h) ?_ ?_ ?_; rotate_left; kernel_rfl; kernel_rfl; kernel_rfl; (focus (refine Or.inl ⟨by rfl, ?_⟩; intro w' hSw; (try dsimp only at hSw); go_simp; with_reducible rfl)); exact hH)
    try simp only [Act.put, List.getElem_toArray, List.getElem_cons_succ, List.getElem_cons_zero, List.setIfInBounds_toArray, List.set_cons_zero, List.set_cons_succ]
    first | (refine wpAnyH_take (i := 1) (v := undef) rfl ?_ ?_ ?_ (fun _ _ _ h => h) ?_ ?_ ?_; kernel_rfl; kernel_rfl; kernel_rfl; exact Or.inr ⟨by rfl, rfl⟩; exact hH) | (refine wpAnyH_take (i := 1) (v := ?_) rfl ?_ ?_ ?_ (fun _ _ _ h => h) ?_ ?_ ?_; rotate_left; kernel_rfl; kernel_rfl; kernel_rfl; (focus (refine Or.inl ⟨by rfl, ?_⟩; intro w' hSw; (try dsimp only at hSw); go_simp)); exact hH) | (refine wpAnyH_take (i := 1) (v := ?_) rfl ?_ ?_ ?_ (fun _ _ _ h => h) ?_ ?_ ?_; rotate_left; kernel_rfl; kernel_rfl; kernel_rfl; (focus (refine Or.inl ⟨by rfl, ?_⟩; intro w' hSw; (try dsimp only at hSw); go_simp; with_reducible rfl)); exact hH)
    try simp only [Act.put, List.getElem_toArray, List.getElem_cons_succ, List.getElem_cons_zero, List.setIfInBounds_toArray, List.set_cons_zero, List.set_cons_succ]
    first | (refine wpAnyH_take (i := 2) (v := undef) rfl ?_ ?_ ?_ (fun _ _ _ h => h) ?_ ?_ ?_; kernel_rfl; kernel_rfl; kernel_rfl; exact Or.inr ⟨by rfl, rfl⟩; exact hH) | (refine wpAnyH_take (i := 2) (v := ?_) rfl ?_ ?_ ?_ (fun _ _ _ h => h) ?_ ?_ ?_; rotate_left; kernel_rfl; kernel_rfl; kernel_rfl; (focus (refine Or.inl ⟨by rfl, ?_⟩; intro w' hSw; (try dsimp only at hSw); go_simp)); exact hH) | (refine wpAnyH_take (i := 2) (v := ?_) rfl ?_ ?_ ?_ (fun _ _ _ h => h) ?_ ?_ ?_; rotate_left; kernel_rfl; kernel_rfl; kernel_rfl; (focus (refine Or.inl ⟨by rfl, ?_⟩; intro w' hSw; (try dsimp only at hSw); go_simp; with_reducible rfl)); exact hH)
    try simp only [Act.put, List.getElem_toArray, List.getElem_cons_succ, List.getElem_cons_zero, List.setIfInBounds_toArray, List.set_cons_zero, List.set_cons_succ]
    first | (refine wpAnyH_take (i := 3) (v := undef) rfl ?_ ?_ ?_ (fun _ _ _ h => h) ?_ ?_ ?_; kernel_rfl; kernel_rfl; kernel_rfl; exact Or.inr ⟨by rfl, rfl⟩; exact hH) | (refine wpAnyH_take (i := 3) (v := ?_) rfl ?_ ?_ ?_ (fun _ _ _ h => h) ?_ ?_ ?_; rotate_left; kernel_rfl; kernel_rfl; kernel_rfl; (focus (refine Or.inl ⟨by rfl, ?_⟩; intro w' hSw; (try dsimp only at hSw); go_simp)); exact hH) | (refine wpAnyH_take (i := 3) (v := ?_) rfl ?_ ?_ ?_ (fun _ _ _ h => h) ?_ ?_ ?_; rotate_left; kernel_rfl; kernel_rfl; kernel_rfl; (focus (refine Or.inl ⟨by rfl, ?_⟩; intro w' hSw; (try dsimp only at hSw); go_simp; with_reducible rfl)); exact hH)
    try simp only [Act.put, List.getElem_toArray, List.getElem_cons_succ, List.getElem_cons_zero, List.setIfInBounds_toArray, List.set_cons_zero, List.set_cons_succ]
    first | (refine wpAnyH_take (i := 4) (v := undef) rfl ?_ ?_ ?_ (fun _ _ _ h => h) ?_ ?_ ?_; kernel_rfl; kernel_rfl; kernel_rfl; exact Or.inr ⟨by rfl, rfl⟩; exact hH) | (refine wpAnyH_take (i := 4) (v := ?_) rfl ?_ ?_ ?_ (fun _ _ _ h => h) ?_ ?_ ?_; rotate_left; kernel_rfl; kernel_rfl; kernel_rfl; (focus (refine Or.inl ⟨by rfl, ?_⟩; intro w' hSw; (try dsimp only at hSw); go_simp)); exact hH) | (refine wpAnyH_take (i := 4) (v := ?_) rfl ?_ ?_ ?_ (fun _ _ _ h => h) ?_ ?_ ?_; rotate_left; kernel_rfl; kernel_rfl; kernel_rfl; (focus (refine Or.inl ⟨by rfl, ?_⟩; intro w' hSw; (try dsimp only at hSw); go_simp; with_reducible rfl)); exact hH)
    try simp only [Act.put, List.getElem_toArray, List.getElem_cons_succ, List.getElem_cons_zero, List.setIfInBounds_toArray, List.set_cons_zero, List.set_cons_succ]
    first | (refine wpAnyH_take (i := 6) (v := undef) rfl ?_ ?_ ?_ (fun _ _ _ h => h) ?_ ?_ ?_; kernel_rfl; kernel_rfl; kernel_rfl; exact Or.inr ⟨by rfl, rfl⟩; exact hH) | (refine wpAnyH_take (i := 6) (v := ?_) rfl ?_ ?_ ?_ (fun _ _ _ h => h) ?_ ?_ ?_; rotate_left; kernel_rfl; kernel_rfl; kernel_rfl; (focus (refine Or.inl ⟨by rfl, ?_⟩; intro w' hSw; (try dsimp only at hSw); go_simp)); exact hH) | (refine wpAnyH_take (i := 6) (v := ?_) rfl ?_ ?_ ?_ (fun _ _ _ h => h) ?_ ?_ ?_; rotate_left; kernel_rfl; kernel_rfl; kernel_rfl; (focus (refine Or.inl ⟨by rfl, ?_⟩; intro w' hSw; (try dsimp only at hSw); go_simp; with_reducible rfl)); exact hH)
    try simp only [Act.put, List.getElem_toArray, List.getElem_cons_succ, List.getElem_cons_zero, List.setIfInBounds_toArray, List.set_cons_zero, List.set_cons_succ]
    first | (refine wpAnyH_take (i := 7) (v := undef) rfl ?_ ?_ ?_ (fun _ _ _ h => h) ?_ ?_ ?_; kernel_rfl; kernel_rfl; kernel_rfl; exact Or.inr ⟨by rfl, rfl⟩; exact hH) | (refine wpAnyH_take (i := 7) (v := ?_) rfl ?_ ?_ ?_ (fun _ _ _ h => h) ?_ ?_ ?_; rotate_left; kernel_rfl; kernel_rfl; kernel_rfl; (focus (refine Or.inl ⟨by rfl, ?_⟩; intro w' hSw; (try dsimp only at hSw); go_simp)); exact hH) | (refine wpAnyH_take (i := 7) (v := ?_) rfl ?_ ?_ ?_ (fun _ _ _ h => h) ?_ ?_ ?_; rotate_left; kernel_rfl; kernel_rfl; kernel_rfl; (focus (refine Or.inl ⟨by rfl, ?_⟩; intro w' hSw; (try dsimp only at hSw); go_simp; with_reducible rfl)); exact hH)
    try simp only [Act.put, List.getElem_toArray, List.getElem_cons_succ, List.getElem_cons_zero, List.setIfInBounds_toArray, List.set_cons_zero, List.set_cons_succ]
    first | (refine wpAnyH_take (i := 8) (v := undef) rfl ?_ ?_ ?_ (fun _ _ _ h => h) ?_ ?_ ?_; kernel_rfl; kernel_rfl; kernel_rfl; exact Or.inr ⟨by rfl, rfl⟩; exact hH) | (refine wpAnyH_take (i := 8) (v := ?_) rfl ?_ ?_ ?_ (fun _ _ _ h => h) ?_ ?_ ?_; rotate_left; kernel_rfl; kernel_rfl; kernel_rfl; (focus (refine Or.inl ⟨by rfl, ?_⟩; intro w' hSw; (try dsimp only at hSw); go_simp)); exact hH) | (refine wpAnyH_take (i := 8) (v := ?_) rfl ?_ ?_ ?_ (fun _ _ _ h => h) ?_ ?_ ?_; rotate_left; kernel_rfl; kernel_rfl; kernel_rfl; (focus (refine Or.inl ⟨by rfl, ?_⟩; intro w' hSw; (try dsimp only at hSw); go_simp; with_reducible rfl)); exact hH)
    try simp only [Act.put, List.getElem_toArray, List.getElem_cons_succ, List.getElem_cons_zero, List.setIfInBounds_toArray, List.set_cons_zero, List.set_cons_succ]
    first | (refine wpAnyH_take (i := 9) (v := undef) rfl ?_ ?_ ?_ (fun _ _ _ h => h) ?_ ?_ ?_; kernel_rfl; kernel_rfl; kernel_rfl; exact Or.inr ⟨by rfl, rfl⟩; exact hH) | (refine wpAnyH_take (i := 9) (v := ?_) rfl ?_ ?_ ?_ (fun _ _ _ h => h) ?_ ?_ ?_; rotate_left; kernel_rfl; kernel_rfl; kernel_rfl; (focus (refine Or.inl ⟨by rfl, ?_⟩; intro w' hSw; (try dsimp only at hSw); go_simp)); exact hH) | (refine wpAnyH_take (i := 9) (v := ?_) rfl ?_ ?_ ?_ (fun _ _ _ h => h) ?_ ?_ ?_; rotate_left; kernel_rfl; kernel_rfl; kernel_rfl; (focus (refine Or.inl ⟨by rfl, ?_⟩; intro w' hSw; (try dsimp only at hSw); go_simp; with_reducible rfl)); exact hH)
    try simp only [Act.put, List.getElem_toArray, List.getElem_cons_succ, List.getElem_cons_zero, List.setIfInBounds_toArray, List.set_cons_zero, List.set_cons_succ]
    first | (refine wpAnyH_take (i := 10) (v := undef) rfl ?_ ?_ ?_ (fun _ _ _ h => h) ?_ ?_ ?_; kernel_rfl; kernel_rfl; kernel_rfl; exact Or.inr ⟨by rfl, rfl⟩; exact hH) | (refine wpAnyH_take (i := 10) (v := ?_) rfl ?_ ?_ ?_ (fun _ _ _ h => h) ?_ ?_ ?_; rotate_left; kernel_rfl; kernel_rfl; kernel_rfl; (focus (refine Or.inl ⟨by rfl, ?_⟩; intro w' hSw; (try dsimp only at hSw); go_simp)); exact hH) | (refine wpAnyH_take (i := 10) (v := ?_) rfl ?_ ?_ ?_ (fun _ _ _ h => h) ?_ ?_ ?_; rotate_left; kernel_rfl; kernel_rfl; kernel_rfl; (focus (refine Or.inl ⟨by rfl, ?_⟩; intro w' hSw; (try dsimp only at hSw); go_simp; with_reducible rfl)); exact hH)
    try simp only [Act.put, List.getElem_toArray, List.getElem_cons_succ, List.getElem_cons_zero, List.setIfInBounds_toArray, List.set_cons_zero, List.set_cons_succ]
    refine wpAnyH_ready (rs := [5]) (by kernel_rfl) (by simp) ?_
    refine AllReadyH.cons rfl (fun K hK => ?_) AllReadyH.nil
    go_simp
    with_reducible refine (U1.out _).mono ?_
    rintro e w1 ⟨rfl, hb1⟩
    try go_wp2_with fail
    refine hK.out _ _ ((fun h => ⟨⟨(Blk.next h.2.1 hb1).get 0 rfl, (Blk.next h.2.1 hb1).get 1 rfl, (Blk.next h.2.1 hb1).get 2 rfl, (Blk.next h.2.1 hb1).get 3 rfl, (Blk.next h.2.1 hb1).get 4 rfl, (Blk.next h.2.1 hb1).get 5 rfl, (Blk.next h.2.1 hb1).get 6 rfl, (Blk.next h.2.1 hb1).get 7 rfl, (Blk.next h.2.1 hb1).get 8 rfl⟩, Blk.next h.2.1 hb1, below_next h.2.2 hb1⟩) hH) (fun hH1 => ?_)
    clear hK K hH hb1
    have hH := hH1
    clear hH1
    try simp only [Act.put, List.getElem_toArray, List.getElem_cons_succ, List.getElem_cons_zero, List.setIfInBounds_toArray, List.set_cons_zero, List.set_cons_succ]
    refine wpAnyH_ready (rs := [11]) (by kernel_rfl) (by simp) ?_
    refine AllReadyH.cons rfl (fun K hK => ?_) AllReadyH.nil
    go_simp
    with_reducible refine (U2.out _).mono ?_
    rintro e w2 ⟨rfl, hb2⟩
    try go_wp2_with fail
    refine hK.out _ _ ((fun h => ⟨⟨(Blk.next h.2.1 hb2).get 0 rfl, (Blk.next h.2.1 hb2).get 1 rfl, (Blk.next h.2.1 hb2).get 2 rfl, (Blk.next h.2.1 hb2).get 3 rfl, (Blk.next h.2.1 hb2).get 4 rfl, (Blk.next h.2.1 hb2).get 5 rfl, (Blk.next h.2.1 hb2).get 6 rfl, (Blk.next h.2.1 hb2).get 7 rfl, (Blk.next h.2.1 hb2).get 8 rfl⟩, Blk.next h.2.1 hb2, below_next h.2.2 hb2⟩) hH) (fun hH2 => ?_)
    clear hK K hH hb2
    have hH := hH2
    clear hH2
    try simp only [Act.put, List.getElem_toArray, List.getElem_cons_succ, List.getElem_cons_zero, List.setIfInBounds_toArray, List.set_cons_zero, List.set_cons_succ]
    first | (refine wpAnyH_take (i := 12) (v := undef) rfl ?_ ?_ ?_ (fun _ _ _ h => h) ?_ ?_ ?_; kernel_rfl; kernel_rfl; kernel_rfl; exact Or.inr ⟨by rfl, rfl⟩; exact hH) | (refine wpAnyH_take (i := 12) (v := ?_) rfl ?_ ?_ ?_ (fun _ _ _ h => h) ?_ ?_ ?_; rotate_left; kernel_rfl; kernel_rfl; kernel_rfl; (focus (refine Or.inl ⟨by rfl, ?_⟩; intro w' hSw; (try dsimp only at hSw); go_simp)); exact hH) | (refine wpAnyH_take (i := 12) (v := ?_) rfl ?_ ?_ ?_ (fun _ _ _ h => h) ?_ ?_ ?_; rotate_left; kernel_rfl; kernel_rfl; kernel_rfl; (focus (refine Or.inl ⟨by rfl, ?_⟩; intro w' hSw; (try dsimp only at hSw); go_simp; with_reducible rfl)); exact hH)
    try simp only [Act.put, List.getElem_toArray, List.getElem_cons_succ, List.getElem_cons_zero, List.setIfInBounds_toArray, List.set_cons_zero, List.set_cons_succ]
    first | (refine wpAnyH_take (i := 13) (v := undef) rfl ?_ ?_ ?_ (fun _ _ _ h => h) ?_ ?_ ?_; kernel_rfl; kernel_rfl; kernel_rfl; exact Or.inr ⟨by rfl, rfl⟩; exact hH) | (refine wpAnyH_take (i := 13) (v := ?_) rfl ?_ ?_ ?_ (fun _ _ _ h => h) ?_ ?_ ?_; rotate_left; kernel_rfl; kernel_rfl; kernel_rfl; (focus (refine Or.inl ⟨by rfl, ?_⟩; intro w' hSw; (try dsimp only at hSw); go_simp)); exact hH) | (refine wpAnyH_take (i := 13) (v := ?_) rfl ?_ ?_ ?_ (fun _ _ _ h => h) ?_ ?_ ?_; rotate_left; kernel_rfl; kernel_rfl; kernel_rfl; (focus (refine Or.inl ⟨by rfl, ?_⟩; intro w' hSw; (try dsimp only at hSw); go_simp; with_reducible rfl)); exact hH)
    try simp only [Act.put, List.getElem_toArray, List.getElem_cons_succ, List.getElem_cons_zero, List.setIfInBounds_toArray, List.set_cons_zero, List.set_cons_succ]
    clear Qn Qb Qc0 Qf0 Qc1 Qf1 Qc2 Qf2 Qc3 Qf3 Qc4 Qf4 Qc5 Qf5 Qc6 Qf6 Qc7 Qf7 Qc8 Qf8
    refine wpAnyH_done (by kernel_rfl) ?_ _
    refine NoPanic.normal ?_
    obtain ⟨-, hB, B2⟩ := hH
    have Qb := hB
    have Qc0 := Qb.get 0 rfl
    have Qf0 := Blk.frozen Qb 0
    have Qc1 := Qb.get 1 rfl
    have Qf1 := Blk.frozen Qb 1
    have Qc2 := Qb.get 2 rfl
    have Qf2 := Blk.frozen Qb 2
    have Qc3 := Qb.get 3 rfl
    have Qf3 := Blk.frozen Qb 3
    have Qc4 := Qb.get 4 rfl
    have Qf4 := Blk.frozen Qb 4
    have Qc5 := Qb.get 5 rfl
    have Qf5 := Blk.frozen Qb 5
    have Qc6 := Qb.get 6 rfl
    have Qf6 := Blk.frozen Qb 6
    have Qc7 := Qb.get 7 rfl
    have Qf7 := Blk.frozen Qb 7
    have Qc8 := Qb.get 8 rfl
    have Qf8 := Blk.frozen Qb 8
    have Qn := Blk.lt Qb
    clear hB
    go_wp2_with fail
    go_ret
    exact ⟨by simp [HV.out], B2⟩

theorem bcopy_nil (w : World) : Calls Tryz.prog 130 #[.pointer none] w fun e w' => e = .returned (.pointer none) ∧ w = w' := by
  go_enter Tryz.func130, Tryz.ntmps130
  go_wp2_with fail
  go_ret
  exact ⟨rfl, rfl⟩
theorem bcopy_made (q : Nat) (F L R n x f r : Int) (w : World) (h : IsBent w q F L R n x f r) : Calls Tryz.prog 130 #[.pointer (some ⟨q, 0, none⟩)] w fun e w' =>
    ∃ p, e = .returned (.pointer (some ⟨p, 0, none⟩)) ∧ w.heap.size ≤ p ∧ IsBent w' p F L R n x f r ∧ Below w.heap.size w w' := by
  have c0 : World.cell? w ⟨q, 0, none⟩ = some (.int .u64 F) := Blk.get h 0 rfl
  have c1 : World.cell? w ⟨q, 1, none⟩ = some (.int .u64 L) := Blk.get h 1 rfl
  have c2 : World.cell? w ⟨q, 2, none⟩ = some (.int .u64 R) := Blk.get h 2 rfl
  have c3 : World.cell? w ⟨q, 3, none⟩ = some (.int .i64 n) := Blk.get h 3 rfl
  have c4 : World.cell? w ⟨q, 4, none⟩ = some (.int .u64 x) := Blk.get h 4 rfl
  have c5 : World.cell? w ⟨q, 5, none⟩ = some (.int .u64 F) := Blk.get h 5 rfl
  have c6 : World.cell? w ⟨q, 6, none⟩ = some (.int .u64 f) := Blk.get h 6 rfl
  have c7 : World.cell? w ⟨q, 7, none⟩ = some (.int .u64 R) := Blk.get h 7 rfl
  have c8 : World.cell? w ⟨q, 8, none⟩ = some (.int .u64 r) := Blk.get h 8 rfl
  clear h
  go_enter Tryz.func130, Tryz.ntmps130
  go_wp2_with fail
  go_ret
  exact ⟨w.heap.size, rfl, Nat.le_refl _, Blk.new w _ _, by go_grown⟩

theorem bnew_bad (F L R : Int) (w : World) (wF : Word F) (wL : Word L) (wR : Word R) (h : (mayB F L R && decide (R < F)) = false) : Calls Tryz.prog 57 #[.agg #[.int .u64 F, .int .u64 L, .int .u64 R]] w fun e w' => e = .returned (.tuple #[.pointer none, .int .i64 30]) ∧ Below w.heap.size w w' := by
  rcases Bool.eq_false_or_eq_true (mayB F L R) with hm | hm
  · have hb : decide (R < F) = false := by rw [hm] at h; simpa using h
    have MA := Lib.hid (fun w => may_val F L R true w wF wL wR hm)
    have BE := Lib.hid (fun w => bent_val F L R false w hb)
    clear h hm hb
    go_enter Tryz.func57, Tryz.ntmps57
    go_wp2_with fail
    with_reducible refine (MA.out _).mono ?_
    rintro e w1 ⟨rfl, hb1⟩
    have Cm : Blk w1 (w.heap.size) 32 #[.int .u64 F, .int .u64 L, .int .u64 R] := Blk.next (by repeat (first | (refine Blk.new_at ?_; simp only [World.size_alloc]; done) | (with_reducible refine Blk.alloc ?_ _) | (with_reducible refine Blk.drewN ?_ _))) hb1
    have Cb := Cm
    clear Cm
    have Cc0 : World.cell? w1 ⟨w.heap.size, 0, none⟩ = some (.int .u64 F) := Cb.get 0 rfl
    have Cf0 := Blk.frozen Cb 0
    have Cc1 : World.cell? w1 ⟨w.heap.size, 1, none⟩ = some (.int .u64 L) := Cb.get 1 rfl
    have Cf1 := Blk.frozen Cb 1
    have Cc2 : World.cell? w1 ⟨w.heap.size, 2, none⟩ = some (.int .u64 R) := Cb.get 2 rfl
    have Cf2 := Blk.frozen Cb 2
    have Cn := Blk.lt Cb
    have B1 : Below w.heap.size w w1 := by first | with_reducible exact hb1 | exact Below.trans (by go_grown) (hb1.mono (by simp only [World.size_alloc]; omega))
    clear hb1
    go_wp2_with fail
    with_reducible refine (BE.out _).mono ?_
    rintro e w2 ⟨rfl, hb2⟩
    have Cm : Blk w2 (w.heap.size) 32 #[.int .u64 F, .int .u64 L, .int .u64 R] := Blk.next (by repeat (first | (with_reducible exact Cb) | (refine Blk.new_at ?_; simp only [World.size_alloc]; done) | (with_reducible refine Blk.alloc ?_ _) | (with_reducible refine Blk.drewN ?_ _))) hb2
    clear Cn Cb Cc0 Cf0 Cc1 Cf1 Cc2 Cf2
    have Cb := Cm
    clear Cm
    have Cc0 : World.cell? w2 ⟨w.heap.size, 0, none⟩ = some (.int .u64 F) := Cb.get 0 rfl
    have Cf0 := Blk.frozen Cb 0
    have Cc1 : World.cell? w2 ⟨w.heap.size, 1, none⟩ = some (.int .u64 L) := Cb.get 1 rfl
    have Cf1 := Blk.frozen Cb 1
    have Cc2 : World.cell? w2 ⟨w.heap.size, 2, none⟩ = some (.int .u64 R) := Cb.get 2 rfl
    have Cf2 := Blk.frozen Cb 2
    have Cn := Blk.lt Cb
    have B2 : Below w.heap.size w w2 := by first | with_reducible exact below_next B1 hb2 | exact below_step B1 (by go_grown) hb2
    clear hb2 B1
    go_wp2_with fail
    go_ret2
    exact ⟨by simp, B2⟩
  · have MA := Lib.hid (fun w => may_val F L R false w wF wL wR hm)
    clear h hm
    go_enter Tryz.func57, Tryz.ntmps57
    go_wp2_with fail
    with_reducible refine (MA.out _).mono ?_
    rintro e w1 ⟨rfl, hb1⟩
    have Cm : Blk w1 (w.heap.size) 32 #[.int .u64 F, .int .u64 L, .int .u64 R] := Blk.next (by repeat (first | (refine Blk.new_at ?_; simp only [World.size_alloc]; done) | (with_reducible refine Blk.alloc ?_ _) | (with_reducible refine Blk.drewN ?_ _))) hb1
    have Cb := Cm
    clear Cm
    have Cc0 : World.cell? w1 ⟨w.heap.size, 0, none⟩ = some (.int .u64 F) := Cb.get 0 rfl
    have Cf0 := Blk.frozen Cb 0
    have Cc1 : World.cell? w1 ⟨w.heap.size, 1, none⟩ = some (.int .u64 L) := Cb.get 1 rfl
    have Cf1 := Blk.frozen Cb 1
    have Cc2 : World.cell? w1 ⟨w.heap.size, 2, none⟩ = some (.int .u64 R) := Cb.get 2 rfl
    have Cf2 := Blk.frozen Cb 2
    have Cn := Blk.lt Cb
    have B1 : Below w.heap.size w w1 := by first | with_reducible exact hb1 | exact Below.trans (by go_grown) (hb1.mono (by simp only [World.size_alloc]; omega))
    clear hb1
    go_wp2_with fail
    go_ret2
    exact ⟨by simp, B1⟩
theorem bnew_made (F L R : Int) (w : World) (wF : Word F) (wL : Word L) (wR : Word R) (hm : mayB F L R = true) (hb : R < F) : Calls Tryz.prog 57 #[.agg #[.int .u64 F, .int .u64 L, .int .u64 R]] w fun e w' =>
    ∃ p, e = .returned (.tuple #[.pointer (some ⟨p, 0, none⟩), .int .i64 0]) ∧ w.heap.size ≤ p ∧ IsBent w' p F L R 0 0 0 0 ∧ Below w.heap.size w w' := by
  have MA := Lib.hid (fun w => may_val F L R true w wF wL wR hm)
  have BE := Lib.hid (fun w => bent_val F L R true w (decide_eq_true hb))
  clear hm hb
  go_enter Tryz.func57, Tryz.ntmps57
  go_wp2_with fail
  with_reducible refine (MA.out _).mono ?_
  rintro e w1 ⟨rfl, hb1⟩
  have Cm : Blk w1 (w.heap.size) 32 #[.int .u64 F, .int .u64 L, .int .u64 R] := Blk.next (by repeat (first | (refine Blk.new_at ?_; simp only [World.size_alloc]; done) | (with_reducible refine Blk.alloc ?_ _) | (with_reducible refine Blk.drewN ?_ _))) hb1
  have Cb := Cm
  clear Cm
  have Cc0 : World.cell? w1 ⟨w.heap.size, 0, none⟩ = some (.int .u64 F) := Cb.get 0 rfl
  have Cf0 := Blk.frozen Cb 0
  have Cc1 : World.cell? w1 ⟨w.heap.size, 1, none⟩ = some (.int .u64 L) := Cb.get 1 rfl
  have Cf1 := Blk.frozen Cb 1
  have Cc2 : World.cell? w1 ⟨w.heap.size, 2, none⟩ = some (.int .u64 R) := Cb.get 2 rfl
  have Cf2 := Blk.frozen Cb 2
  have Cn := Blk.lt Cb
  have B1 : Below w.heap.size w w1 := by first | with_reducible exact hb1 | exact Below.trans (by go_grown) (hb1.mono (by simp only [World.size_alloc]; omega))
  clear hb1
  go_wp2_with fail
  with_reducible refine (BE.out _).mono ?_
  rintro e w2 ⟨rfl, hb2⟩
  have Cm : Blk w2 (w.heap.size) 32 #[.int .u64 F, .int .u64 L, .int .u64 R] := Blk.next (by repeat (first | (with_reducible exact Cb) | (refine Blk.new_at ?_; simp only [World.size_alloc]; done) | (with_reducible refine Blk.alloc ?_ _) | (with_reducible refine Blk.drewN ?_ _))) hb2
  clear Cn Cb Cc0 Cf0 Cc1 Cf1 Cc2 Cf2
  have Cb := Cm
  clear Cm
  have Cc0 : World.cell? w2 ⟨w.heap.size, 0, none⟩ = some (.int .u64 F) := Cb.get 0 rfl
  have Cf0 := Blk.frozen Cb 0
  have Cc1 : World.cell? w2 ⟨w.heap.size, 1, none⟩ = some (.int .u64 L) := Cb.get 1 rfl
  have Cf1 := Blk.frozen Cb 1
  have Cc2 : World.cell? w2 ⟨w.heap.size, 2, none⟩ = some (.int .u64 R) := Cb.get 2 rfl
  have Cf2 := Blk.frozen Cb 2
  have Cn := Blk.lt Cb
  have B2 : Below w.heap.size w w2 := by first | with_reducible exact below_next B1 hb2 | exact below_step B1 (by go_grown) hb2
  clear hb2 B1
  go_wp2_with fail
  go_ret2
  exact ⟨w2.heap.size, by simp, B2.size, Blk.new w2 _ _, B2.alloc B2.size _⟩

end Go.Proofs.YtjhffbhjiflfeaaGreat
